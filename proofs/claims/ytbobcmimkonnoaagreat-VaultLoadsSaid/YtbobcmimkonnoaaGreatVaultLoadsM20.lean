/- Arguments opened: items, pages, numbered pages and what stands over them, as parts of the heap, with their sizes. Plain lemmas. -/
import Derived.Test.YtbobcmimkonnoaaGreatVaultLoadsM17
import Derived.Test.YtbobcmimkonnoaaGreatVaultLoadsM16
import Derived.Test.YtbobcmimkonnoaaGreatVaultLoadsM07
import Derived.SizedLaws
set_option maxRecDepth 100000
set_option maxHeartbeats 16000000
namespace Go.Proofs.YtbobcmimkonnoaaGreat.K6
open ChangeShapes WideShapes ChangeAt RowKit Sl Cop Deep M2 P5 Q5 E4 E6 J4 Y4
theorem cells_int:Tryz.prog.cellsOf 3=1:=by kernel_rfl
theorem cells_item:Tryz.prog.cellsOf 58=4:=by kernel_rfl
theorem cells_page:Tryz.prog.cellsOf 31=5:=by kernel_rfl
theorem cells_num:Tryz.prog.cellsOf 78=6:=by kernel_rfl
theorem bytes_u8:Tryz.prog.bytesOf 5=1:=by kernel_rfl
theorem bytes_int:Tryz.prog.bytesOf 3=8:=by kernel_rfl
theorem bytes_item:Tryz.prog.bytesOf 58=64:=by kernel_rfl
theorem bytes_num:Tryz.prog.bytesOf 78=80:=by kernel_rfl
section
variable {H:Type}{enc:TypeId × Value→H}
def Small(d:DataW H)(t:TypeId):Prop:= ∀m∈d.weights Tryz.prog t,m≤reachBytes
theorem weights_all {e:TypeId}:∀ {l:List (DataW H)} {i:Nat} {d:DataW H},l[i]? =some d→∀m∈d.weights Tryz.prog e,m∈DataW.weightsAll Tryz.prog e l
 | [],_,_,h,_,_=>by simp at h
 | x :: l,0,d,h,m,hm=>by
   simp only [List.getElem?_cons_zero,Option.some.injEq] at h;subst h;simp only [DataW.weightsAll,List.mem_append];exact .inl hm
 | x :: l,i+1,d,h,m,hm=>by
   simp only [List.getElem?_cons_succ] at h;simp only [DataW.weightsAll,List.mem_append];exact .inr (weights_all h m hm)
theorem int_of {W:World}{base n:Nat}{v:Value}{x:DataW H × List MemPlace}(h:DataW.trod enc Tryz.prog W base (fun _=>true) true n 3 [v]=some x):∃z,v= .int .i64 z∧ -9223372036854775808≤z∧z≤9223372036854775807:=by
 cases n with
 | zero=>simp [DataW.trod] at h
 | succ n=>
   unfold DataW.trod at h;rw [Tryz.underlying3] at h;cases v with
   | int k z=>
     simp only at h;split at h
     · rename_i hk
       have e1:IntKind.i64.min= -9223372036854775808:=by decide
       have e2:IntKind.i64.max=9223372036854775807:=by decide
       simp_all [Lit.wf]
     · simp at h
   | _=>simp at h
theorem bytes_sz {W:World}{base n:Nat}{v:Value}{x:DataW H × List MemPlace}(h:DataW.trod enc Tryz.prog W base (fun _=>true) true n 29 [v]=some x):
 ∃l:List Int,Bytes (heapOf W) v l∧U8 l∧(Small x.1 29→l.length≤reachBytes):=by
 rcases open_ints Tryz.underlying29 Tryz.underlying5 cells_u8 h with⟨e,_⟩ | ⟨a,len,cap,zs,e,_,hl,hm,hz,hx,hcell,hwf⟩
 · simp at e
   subst e;exact⟨[],RowIn.nil _ _,fun z hz=>(by cases hz),fun _=>Nat.zero_le _⟩
 · simp at e
   subst e;simp only [if_true] at hz;have hlen:(zs.take len).length=len:=by simp;omega
   refine⟨zs.take len,⟨by simp,some a,cap,by rw [hlen],by omega,hm,fun h0=> ?_⟩,fun z hz'=> ?_,fun hs=> ?_⟩
   · obtain⟨ab,ao,spot⟩:=a
     have hspot:spot=none:=by simpa [Addr.add] using World.cell?_spot (hcell 0 (by omega))
     subst hspot;refine⟨ab,ao,rfl,fun i hi=> ?_⟩;have hc:=hcell i (by omega);rw [Addr.add_lit] at hc;rw [heap_cell hc];have h1:i<zs.length:=by omega
     have h2:i<len:=by omega
     simp [h1,h2]
   · have:=hwf z (List.mem_of_mem_take hz')
     simp only [Lit.wf,Bool.and_eq_true,decide_eq_true_eq] at this;have e1:IntKind.u8.min=0:=by decide
     have e2:IntKind.u8.max=255:=by decide
     rw [e1,e2] at this;exact this
   · subst hx
     have h2:=hs (((lits .u8 (zs.take len)).length+(lits .u8 (zs.drop len)).length)*Tryz.prog.bytesOf 5:Nat) (by
      simp only [DataW.weights,Tryz.underlying29]
      exact List.mem_cons_self)
     rw [bytes_u8] at h2;simp [lits] at h2
     rw [hlen];omega
theorem ints_sz {W:World}{base n:Nat}{v:Value}{x:DataW H × List MemPlace}(h:DataW.trod enc Tryz.prog W base (fun _=>true) true n 40 [v]=some x):
 ∃l:List Int,Ints (heapOf W) v l∧(∀z∈l, -9223372036854775808≤z∧z≤9223372036854775807)∧(Small x.1 40→l.length*8≤reachBytes):=by
 rcases open_ints Tryz.underlying40 Tryz.underlying3 cells_int h with⟨e,_⟩ | ⟨a,len,cap,zs,e,_,hl,hm,hz,hx,hcell,hwf⟩
 · simp at e
   subst e;exact⟨[],RowIn.nil _ _,fun z hz=>(by cases hz),fun _=>Nat.zero_le _⟩
 · simp at e
   subst e;simp only [if_true] at hz;have hlen:(zs.take len).length=len:=by simp;omega
   refine⟨zs.take len,⟨by simp,some a,cap,by rw [hlen],by omega,hm,fun h0=> ?_⟩,fun z hz'=> ?_,fun hs=> ?_⟩
   · obtain⟨ab,ao,spot⟩:=a
     have hspot:spot=none:=by simpa [Addr.add] using World.cell?_spot (hcell 0 (by omega))
     subst hspot;refine⟨ab,ao,rfl,fun i hi=> ?_⟩;have hc:=hcell i (by omega);rw [Addr.add_lit] at hc;rw [heap_cell hc];have h1:i<zs.length:=by omega
     have h2:i<len:=by omega
     simp [h1,h2]
   · have:=hwf z (List.mem_of_mem_take hz')
     simp only [Lit.wf,Bool.and_eq_true,decide_eq_true_eq] at this;have e1:IntKind.i64.min= -9223372036854775808:=by decide
     have e2:IntKind.i64.max=9223372036854775807:=by decide
     rw [e1,e2] at this;exact this
   · subst hx
     have h2:=hs (((lits .i64 (zs.take len)).length+(lits .i64 (zs.drop len)).length)*Tryz.prog.bytesOf 3:Nat) (by
      simp only [DataW.weights,Tryz.underlying40]
      exact List.mem_cons_self)
     rw [bytes_int] at h2;simp [lits] at h2
     rw [hlen];omega
def ItemCells(h:Hp)(cs:List Value)(y:ItemV):Prop:= ∃kv vv,cs= [kv,vv,.int .i64 y.child,.int .i64 y.size]∧Bytes h kv y.key∧Bytes h vv y.value
def ItemFits(y:ItemV):Prop:=U8 y.key∧U8 y.value∧(-9223372036854775808≤y.child∧y.child≤9223372036854775807)∧(-9223372036854775808≤y.size∧y.size≤9223372036854775807)
def ItemSized(y:ItemV):Prop:=y.key.length≤reachBytes∧y.value.length≤reachBytes
theorem item_of {W:World}{base n:Nat}{cs:List Value}{x:DataW H × List MemPlace}(h:DataW.trod enc Tryz.prog W base (fun _=>true) true n 58 cs=some x):
 ∃y:ItemV,ItemCells (heapOf W) cs y∧ItemFits y∧(Small x.1 58→ItemSized y):=by
 obtain⟨xs,m,rfl,rfl,hl,hlen,hf⟩:=DataW.trod_struct Tryz.underlying58 h;rw [cells_item] at hl;match cs,hl with
 | [c0,c1,c2,c3],_=>
   match xs,hlen with
   | [x0,x1,x2,x3],_=>
     have f0:=hf 0 _ rfl;have f1:=hf 1 _ rfl;have f2:=hf 2 _ rfl;have f3:=hf 3 _ rfl;simp only [List.getElem?_cons_zero,List.getElem?_cons_succ] at f0 f1 f2 f3;obtain⟨K,hk,uk,sk⟩:=bytes_sz f0;obtain⟨V,hv,uv,sv⟩:=bytes_sz f1;obtain⟨c,rfl,hc⟩:=int_of f2;obtain⟨s,rfl,hs⟩:=int_of f3;refine⟨⟨K,V,c,s⟩,⟨c0,c1,rfl,hk,hv⟩,⟨uk,uv,hc,hs⟩,fun hw=>⟨sk fun m hm=>hw m ?_,sv fun m hm=>hw m ?_⟩⟩
     · simp only [DataW.weights,Tryz.underlying58,List.map_cons,List.map_nil,DataW.weightsEach,List.mem_append]
       exact .inl hm
     · simp only [DataW.weights,Tryz.underlying58,List.map_cons,List.map_nil,DataW.weightsEach,List.mem_append]
       exact .inr (.inl hm)
theorem zip_range {α β:Type}(f:Nat→α)(g:Nat→β)(n:Nat):((List.range n).map f).zip ((List.range n).map g)=(List.range n).map fun i=>(f i,g i):=by
 rw [List.zip_map']
theorem rows_of {W:World}{base n:Nat}{t e:TypeId}{k:Nat}(ht:Tryz.prog.underlying t=some (.slice e))(hk:Tryz.prog.cellsOf e=k)(hk0:0<k){v:Value}{x:DataW H × List MemPlace}(h:DataW.trod enc Tryz.prog W base (fun _=>true) true n t [v]=some x):
 ∃(len n':Nat) (C:Nat→List Value) (D:Nat→DataW H) (Pl:Nat→List MemPlace),(∀i,i<len→(C i).length=k∧DataW.trod enc Tryz.prog W base (fun _=>true) true n' e (C i)=some (D i,Pl i))∧
  RowIn (heapOf W) k v len ((List.range len).flatMap C)∧(Small x.1 t→len*Tryz.prog.bytesOf e≤reachBytes∧∀i,i<len→Small (D i) e):=by
 rcases open_slice ht h with⟨e1,e2⟩ | ⟨a,len,cap,m,n',D,Pl,e1,_,hl,hm,hmm,hx,hc⟩
 · simp at e1
   subst e1;exact⟨0,0,fun _=> [],fun _=> .nil,fun _=> [],fun i hi=>absurd hi (by omega),RowIn.nil _ _,fun _=>⟨by simp,fun i hi=>absurd hi (by omega)⟩⟩
 · simp at e1
   subst e1;simp only [if_true] at hmm;subst hmm;rw [hk] at hc;obtain⟨C,hC⟩:=choose_lt (α:=List Value) (n:=m) (p:=fun i cs'=>W.cells? base (a.add (i*k)) k=some cs'∧DataW.trod enc Tryz.prog W base (fun _=>true) true n' e cs'=some (D i,Pl i)) hc
   have hC2:∀i,i<m→(C i).length=k∧∀j,j<k→W.cell? ((a.add (i*k)).add j)=(C i)[j]? :=fun i hi=>by
    obtain⟨_,h2,h3⟩:=World.cells?_some (hC i hi).1;exact⟨h2,h3⟩
   refine⟨len,n',C,D,Pl,fun i hi=>⟨(hC2 i (by omega)).1,(hC i (by omega)).2⟩,⟨?_,some a,m,rfl,hl,hm,fun h0=> ?_⟩,fun hs=>⟨?_,fun i hi w hw=>hs w ?_⟩⟩
   · have e2:∀q,q≤m→((List.range q).flatMap C).length=q*k:=by
      intro q;induction q with
      | zero=>intro _;simp
      | succ q ih=>
        intro hq;rw [List.range_succ,List.flatMap_append,List.length_append,ih (by omega)];simp only [List.flatMap_cons,List.flatMap_nil,List.append_nil,(hC2 q (by omega)).1];rw [Nat.succ_mul]
     exact e2 len hl
   · obtain⟨ab,ao,spot⟩:=a
     have hspot:spot=none:=by
      have h1:=(hC2 0 (by omega)).2 0 hk0;rw [List.getElem?_eq_getElem (by rw [(hC2 0 (by omega)).1];exact hk0)] at h1;have:=World.cell?_spot h1
      simpa [Addr.add] using this
     subst hspot;refine⟨ab,ao,rfl,fun i hi=> ?_⟩
     have e2:∀q,q≤m→∀i,i<q*k→((List.range q).flatMap C)[i]? =(C (i / k))[i % k]? :=by
      intro q;induction q with
      | zero=>intro _ i hi;omega
      | succ q ih=>
        intro hq i hi
        have hlen:((List.range q).flatMap C).length=q*k:=by
         have e3:∀r,r≤m→((List.range r).flatMap C).length=r*k:=by
          intro r;induction r with
          | zero=>intro _;simp
          | succ r ihr=>
            intro hr;rw [List.range_succ,List.flatMap_append,List.length_append,ihr (by omega)];simp only [List.flatMap_cons,List.flatMap_nil,List.append_nil,(hC2 r (by omega)).1];rw [Nat.succ_mul]
         exact e3 q (by omega)
        rw [List.range_succ,List.flatMap_append];rcases Nat.lt_or_ge i (q*k) with h1 | h1
        · rw [List.getElem?_append_left (by rw [hlen];exact h1)]
          exact ih (by omega) i h1
        · rw [List.getElem?_append_right (by rw [hlen];exact h1),hlen]
          have h2:i<q*k+k:=by rw [Nat.succ_mul] at hi;exact hi
          have h3:i / k=q:=by
           have:q≤i / k:=(Nat.le_div_iff_mul_le hk0).2 h1
           have:i / k<q+1:=(Nat.div_lt_iff_lt_mul hk0).2 (by rw [Nat.succ_mul];exact h2)
           omega
          have h4:i % k=i-q*k:=by
           have:=Nat.div_add_mod i k
           rw [h3,Nat.mul_comm] at this;omega
          rw [h3,h4];simp
     rw [e2 len hl i hi];have hik:i / k<len:=(Nat.div_lt_iff_lt_mul hk0).2 hi;have h5:=(hC2 (i / k) (by omega)).2 (i % k) (Nat.mod_lt _ hk0);rw [List.getElem?_eq_getElem (by rw [(hC2 (i / k) (by omega)).1];exact Nat.mod_lt _ hk0)] at h5 ⊢;rw [add_add,Addr.add_lit,show i / k*k+i % k=i by rw [Nat.mul_comm];exact Nat.div_add_mod i k] at h5;exact heap_cell h5
   · subst hx
     have h2:=hs ((((List.range len).map D).length+((List.range (m-len)).map fun j=>D (len+j)).length)*Tryz.prog.bytesOf e:Nat) (by
      simp only [DataW.weights,ht]
      exact List.mem_cons_self)
     simp only [List.length_map,List.length_range] at h2;exact Nat.le_trans (Nat.mul_le_mul_right _ (by omega)) h2
   · subst hx
     simp only [DataW.weights,ht,List.mem_cons,List.mem_append];exact .inr (.inl (weights_all (l:=(List.range len).map D) (i:=i) (by simp [hi]) w hw))
instance:Inhabited ItemV:=⟨⟨[],[],0,0⟩⟩
instance:Inhabited PageV:=⟨⟨0,0,[],[],0⟩⟩
instance:Inhabited NumV:=⟨⟨0,default⟩⟩
theorem items_of {W:World}{base n:Nat}{v:Value}{x:DataW H × List MemPlace}(h:DataW.trod enc Tryz.prog W base (fun _=>true) true n 28 [v]=some x):
 ∃l:List ItemV,ItemsIn (heapOf W) v l∧(∀y∈l,ItemFits y)∧(Small x.1 28→l.length*64≤reachBytes∧∀y∈l,ItemSized y):=by
 obtain⟨len,n',C,D,Pl,hC,hr,hs⟩:=rows_of Tryz.underlying28 cells_item (by omega) h
 obtain⟨Y,hY⟩:=choose_lt (α:=ItemV × Value × Value) (n:=len) (p:=fun i y=>C i= [y.2.1,y.2.2,.int .i64 y.1.child,.int .i64 y.1.size]∧(Bytes (heapOf W) y.2.1 y.1.key∧Bytes (heapOf W) y.2.2 y.1.value)∧ItemFits y.1∧(Small (D i) 58→ItemSized y.1)) (fun i hi=>by
  obtain⟨y,⟨kv,vv,e,h1,h2⟩,h3,h4⟩:=item_of (hC i hi).2
  exact⟨(y,kv,vv),e,⟨h1,h2⟩,h3,h4⟩)
 refine⟨(List.range len).map fun i=>(Y i).1,⟨(List.range len).map fun i=>(Y i).2,by simp,?_,?_⟩,?_,fun hw=>⟨?_,?_⟩⟩
 · rw [zip_range]
   have e1:(List.range len).flatMap C=((List.range len).map fun i=>((Y i).2,(Y i).1)).flatMap fun x=> [x.1.1,x.1.2,.int .i64 x.2.child,.int .i64 x.2.size]:=by
    rw [List.flatMap_map];exact flatMap_congr_range fun i hi=>(hY i hi).1
   rw [← e1];simpa using hr
 · intro i hx hl
   simp at hl
   simp only [List.getElem_map,List.getElem_range];exact(hY i hl).2.1
 · intro y hy
   obtain⟨i,hi,rfl⟩:=List.mem_map.1 hy;exact(hY i (List.mem_range.1 hi)).2.2.1
 · have:=(hs hw).1
   rw [bytes_item] at this;simpa using this
 · intro y hy
   obtain⟨i,hi,rfl⟩:=List.mem_map.1 hy;exact(hY i (List.mem_range.1 hi)).2.2.2 ((hs hw).2 i (List.mem_range.1 hi))
def PageFits(g:PageV):Prop:=(∀y∈g.items,ItemFits y)∧U8 g.data∧(-9223372036854775808≤g.kind∧g.kind≤9223372036854775807)∧(-9223372036854775808≤g.level∧g.level≤9223372036854775807)∧(-9223372036854775808≤g.next∧g.next≤9223372036854775807)
def PageSized(g:PageV):Prop:=g.items.length*64≤reachBytes∧(∀y∈g.items,ItemSized y)∧g.data.length≤reachBytes
def PageCells(h:Hp)(cs:List Value)(g:PageV):Prop:= ∃vi vd,cs= [.int .i64 g.kind,.int .i64 g.level,vi,vd,.int .i64 g.next]∧ItemsIn h vi g.items∧Bytes h vd g.data
theorem page_of {W:World}{base n:Nat}{cs:List Value}{x:DataW H × List MemPlace}(h:DataW.trod enc Tryz.prog W base (fun _=>true) true n 31 cs=some x):
 ∃g:PageV,PageCells (heapOf W) cs g∧PageFits g∧(Small x.1 31→PageSized g):=by
 obtain⟨xs,m,rfl,rfl,hl,hlen,hf⟩:=DataW.trod_struct Tryz.underlying31 h;rw [cells_page] at hl;match cs,hl with
 | [c0,c1,c2,c3,c4],_=>
   match xs,hlen with
   | [x0,x1,x2,x3,x4],_=>
     have f0:=hf 0 _ rfl;have f1:=hf 1 _ rfl;have f2:=hf 2 _ rfl;have f3:=hf 3 _ rfl;have f4:=hf 4 _ rfl;simp only [List.getElem?_cons_zero,List.getElem?_cons_succ] at f0 f1 f2 f3 f4;obtain⟨k,rfl,hk⟩:=int_of f0;obtain⟨l,rfl,hl⟩:=int_of f1;obtain⟨I,hI,fI,sI⟩:=items_of f2;obtain⟨B,hB,uB,sB⟩:=bytes_sz f3;obtain⟨nx,rfl,hn⟩:=int_of f4;refine⟨⟨k,l,I,B,nx⟩,⟨c2,c3,rfl,hI,hB⟩,⟨fI,uB,hk,hl,hn⟩,fun hw=> ?_⟩
     have w2:=sI fun m hm=>hw m (by
      simp only [DataW.weights,Tryz.underlying31,List.map_cons,List.map_nil,DataW.weightsEach,List.mem_append]
      exact .inr (.inr (.inl hm)))
     have w3:=sB fun m hm=>hw m (by
      simp only [DataW.weights,Tryz.underlying31,List.map_cons,List.map_nil,DataW.weightsEach,List.mem_append]
      exact .inr (.inr (.inr (.inl hm))))
     exact⟨w2.1,w2.2,w3⟩
theorem num_of {W:World}{base n:Nat}{cs:List Value}{x:DataW H × List MemPlace}(h:DataW.trod enc Tryz.prog W base (fun _=>true) true n 78 cs=some x):
 ∃(y:NumV) (vi vd:Value),cs= [.int .i64 y.no,.int .i64 y.page.kind,.int .i64 y.page.level,vi,vd,.int .i64 y.page.next]∧(ItemsIn (heapOf W) vi y.page.items∧Bytes (heapOf W) vd y.page.data)∧
  ((-9223372036854775808≤y.no∧y.no≤9223372036854775807)∧PageFits y.page)∧(Small x.1 78→PageSized y.page):=by
 obtain⟨xs,m,rfl,rfl,hl,hlen,hf⟩:=DataW.trod_struct Tryz.underlying78 h;rw [cells_num] at hl;match cs,hl with
 | [c0,c1,c2,c3,c4,c5],_=>
   match xs,hlen with
   | [x0,x1],_=>
     have f0:=hf 0 _ rfl;have f1:=hf 1 _ rfl;simp only [List.getElem?_cons_zero,List.getElem?_cons_succ] at f0 f1;obtain⟨k,rfl,hk⟩:=int_of f0;obtain⟨g,⟨vi,vd,e,h1,h2⟩,hfit,hsz⟩:=page_of f1;cases e;refine⟨⟨k,g⟩,c3,c4,rfl,⟨h1,h2⟩,⟨hk,hfit⟩,fun hw=>hsz fun m hm=>hw m ?_⟩;simp only [DataW.weights,Tryz.underlying78,List.map_cons,List.map_nil,DataW.weightsEach,List.mem_append];exact .inr (.inl hm)
theorem nums_of {W:World}{base n:Nat}{v:Value}{x:DataW H × List MemPlace}(h:DataW.trod enc Tryz.prog W base (fun _=>true) true n 41 [v]=some x):
 ∃l:List NumV,NumsIn (heapOf W) v l∧(∀y∈l,PageFits y.page)∧(Small x.1 41→l.length*80≤reachBytes∧∀y∈l,PageSized y.page):=by
 obtain⟨len,n',C,D,Pl,hC,hr,hs⟩:=rows_of Tryz.underlying41 cells_num (by omega) h
 obtain⟨Y,hY⟩:=choose_lt (α:=NumV × Value × Value) (n:=len) (p:=fun i y=>C i= [.int .i64 y.1.no,.int .i64 y.1.page.kind,.int .i64 y.1.page.level,y.2.1,y.2.2,.int .i64 y.1.page.next]∧(ItemsIn (heapOf W) y.2.1 y.1.page.items∧Bytes (heapOf W) y.2.2 y.1.page.data)∧PageFits y.1.page∧(Small (D i) 78→PageSized y.1.page)) (fun i hi=>by
  obtain⟨y,vi,vd,e,h1,h3,h4⟩:=num_of (hC i hi).2
  exact⟨(y,vi,vd),e,h1,h3.2,h4⟩)
 refine⟨(List.range len).map fun i=>(Y i).1,⟨(List.range len).map fun i=>(Y i).2,by simp,?_,?_⟩,?_,fun hw=>⟨?_,?_⟩⟩
 · rw [zip_range]
   have e1:(List.range len).flatMap C=((List.range len).map fun i=>((Y i).2,(Y i).1)).flatMap numCells:=by
    rw [List.flatMap_map];exact flatMap_congr_range fun i hi=>(hY i hi).1
   rw [← e1];simpa using hr
 · intro i hx hl
   simp at hl
   simp only [List.getElem_map,List.getElem_range];exact(hY i hl).2.1
 · intro y hy
   obtain⟨i,hi,rfl⟩:=List.mem_map.1 hy;exact(hY i (List.mem_range.1 hi)).2.2.1
 · have:=(hs hw).1
   rw [bytes_num] at this;simpa using this
 · intro y hy
   obtain⟨i,hi,rfl⟩:=List.mem_map.1 hy;exact(hY i (List.mem_range.1 hi)).2.2.2 ((hs hw).2 i (List.mem_range.1 hi))
end
end Go.Proofs.YtbobcmimkonnoaaGreat.K6
namespace Go.Cop
structure OpP where
 kind:Int
 n:Int
 k:Int
 g:PageV
end Go.Cop
namespace Go.Proofs.YtbobcmimkonnoaaGreat.M6
open ChangeShapes WideShapes ChangeAt RowKit Sl Cop Deep M2 N2 P5 Q5 E4 E6 J4 Y4 K6
theorem cells_op11:Tryz.prog.cellsOf 33=8:=by kernel_rfl
def i64P(z:Int):Prop:= -9223372036854775808≤z∧z≤9223372036854775807
def opPCells(o:OpP)(v:Value × Value):List Value:= [.int .i64 o.kind,.int .i64 o.n,.int .i64 o.k,.int .i64 o.g.kind,.int .i64 o.g.level,v.1,v.2,.int .i64 o.g.next]
def OpPB(h:Hp)(o:OpP)(v:Value × Value):Prop:=ItemsIn h v.1 o.g.items∧Bytes h v.2 o.g.data
def OpsP(h:Hp)(v:Value)(l:List OpP):Prop:=
 ∃xs:List (Value × Value),xs.length=l.length∧RowIn h 8 v l.length ((xs.zip l).flatMap fun y=>opPCells y.2 y.1)∧∀i (hx:i<xs.length) (hl:i<l.length),OpPB h l[i] xs[i]
theorem opsP_rd {h:Hp}{v:Value}{l:List OpP}(hi:OpsP h v l):∃a c,v= .slice a l.length c∧l.length≤c∧c≤maxLen∧∀i (hl:i<l.length),∃b off ai ad ci cd,a=some ⟨b,off,none⟩∧
 OpPB h l[i] (.slice ai l[i].g.items.length ci,.slice ad l[i].g.data.length cd)∧
 ∀w,h.le w→w.cell? ⟨b,off+i*8,none⟩=some (.int .i64 l[i].kind)∧w.cell? ⟨b,off+i*8+1,none⟩=some (.int .i64 l[i].n)∧
  w.cell? ⟨b,off+i*8+2,none⟩=some (.int .i64 l[i].k)∧w.cell? ⟨b,off+i*8+3,none⟩=some (.int .i64 l[i].g.kind)∧
  w.cell? ⟨b,off+i*8+4,none⟩=some (.int .i64 l[i].g.level)∧w.cell? ⟨b,off+i*8+5,none⟩=some (.slice ai l[i].g.items.length ci)∧
  w.cell? ⟨b,off+i*8+6,none⟩=some (.slice ad l[i].g.data.length cd)∧w.cell? ⟨b,off+i*8+7,none⟩=some (.int .i64 l[i].g.next):=by
 obtain⟨xs,hxl,⟨hlen,a,c,e,hnc,hcm,hc⟩,hb⟩:=hi;refine⟨a,c,e,hnc,hcm,fun i hl=> ?_⟩;obtain⟨b,off,ea,hcell⟩:=hc (by omega);have hxi:i<xs.length:=by omega
 obtain⟨h1,h2⟩:=hb i hxi hl;obtain⟨ai,ci,e1, -, -⟩:=items_rd h1;obtain⟨ad,cd,e2⟩:=bytes_shape h2;have hz:i<(xs.zip l).length:=by simp;omega
 have ez:(xs.zip l)[i]=(xs[i],l[i]):=by simp
 refine⟨b,off,ai,ad,ci,cd,ea,⟨e1 ▸ h1,e2 ▸ h2⟩,fun w hw=> ?_⟩
 have at':∀j,j<8→∀v,(opPCells l[i] xs[i])[j]? =some v→w.cell? ⟨b,off+i*8+j,none⟩=some v:=by
  intro j hj v hv;have h3:=hcell (i*8+j) (by omega);have h4:=flat_at (fun y:(Value × Value) × OpP=>opPCells y.2 y.1) 8 (fun _=>rfl) (xs.zip l) i j hz hj;rw [ez,hv] at h4;rw [Nat.add_assoc];exact Hp.cell_le hw (h3.trans h4)
 have k5:=at' 5 (by omega) _ rfl;have k6:=at' 6 (by omega) _ rfl;rw [e1] at k5;rw [e2] at k6;exact⟨at' 0 (by omega) _ rfl,at' 1 (by omega) _ rfl,at' 2 (by omega) _ rfl,at' 3 (by omega) _ rfl,at' 4 (by omega) _ rfl,k5,k6,at' 7 (by omega) _ rfl⟩
section
variable {H:Type}{enc:TypeId × Value→H}
instance:Inhabited OpP:=⟨⟨0,0,0,default⟩⟩
def OpPI(o:OpP):Prop:=(i64P o.kind∧i64P o.n∧i64P o.k)∧PageFits o.g
theorem opP_of {W:World}{base n:Nat}{cs:List Value}{x:DataW H × List MemPlace}(h:DataW.trod enc Tryz.prog W base (fun _=>true) true n 33 cs=some x):
 ∃(o:OpP) (v:Value × Value),cs=opPCells o v∧OpPB (heapOf W) o v∧OpPI o∧(Small x.1 33→PageSized o.g):=by
 obtain⟨xs,m,rfl,rfl,hl,hlen,hf⟩:=DataW.trod_struct Tryz.underlying33 h;rw [cells_op11] at hl;match cs,hl with
 | [c0,c1,c2,c3,c4,c5,c6,c7],_=>
   match xs,hlen with
   | [x0,x1,x2,x3],_=>
     have f0:=hf 0 _ rfl;have f1:=hf 1 _ rfl;have f2:=hf 2 _ rfl;have f3:=hf 3 _ rfl;simp only [List.getElem?_cons_zero,List.getElem?_cons_succ] at f0 f1 f2 f3;obtain⟨kind,rfl,hk⟩:=int_of f0;obtain⟨nn,rfl,hn⟩:=int_of f1;obtain⟨kk,rfl,hkk⟩:=int_of f2;obtain⟨g,⟨vi,vd,e,h1,h2⟩,fy,sy⟩:=page_of f3;cases e;refine⟨⟨kind,nn,kk,g⟩,(c5,c6),rfl,⟨h1,h2⟩,⟨⟨hk,hn,hkk⟩,fy⟩,fun hw=>sy fun m hm=>hw m ?_⟩
     simp only [DataW.weights,Tryz.underlying33,List.map_cons,List.map_nil,DataW.weightsEach,List.mem_append];exact .inr (.inr (.inr (.inl hm)))
theorem opsP_of {W:World}{base n:Nat}{v:Value}{x:DataW H × List MemPlace}(h:DataW.trod enc Tryz.prog W base (fun _=>true) true n 22 [v]=some x):
 ∃l:List OpP,OpsP (heapOf W) v l∧(∀o∈l,OpPI o)∧(Small x.1 22→∀o∈l,PageSized o.g):=by
 obtain⟨len,n',C,D,Pl,hC,hr,hs⟩:=rows_of Tryz.underlying22 cells_op11 (by omega) h
 obtain⟨Y,hY⟩:=choose_lt (α:=OpP × Value × Value) (n:=len) (p:=fun i y=>C i=opPCells y.1 y.2∧OpPB (heapOf W) y.1 y.2∧OpPI y.1∧(Small (D i) 33→PageSized y.1.g)) (fun i hi=>by
  obtain⟨o,v,h1,h2,h3,h4⟩:=opP_of (hC i hi).2
  exact⟨(o,v),h1,h2,h3,h4⟩)
 refine⟨(List.range len).map fun i=>(Y i).1,⟨(List.range len).map fun i=>(Y i).2,by simp,?_,?_⟩,?_,?_⟩
 · rw [zip_range]
   have e1:(List.range len).flatMap C=((List.range len).map fun i=>((Y i).2,(Y i).1)).flatMap fun y=>opPCells y.2 y.1:=by
    rw [List.flatMap_map];exact flatMap_congr_range fun i hi=>(hY i hi).1
   rw [← e1];simpa using hr
 · intro i hx hl
   simp at hl
   simp only [List.getElem_map,List.getElem_range];exact(hY i hl).2.1
 · intro o ho
   obtain⟨i,hi,rfl⟩:=List.mem_map.1 ho;exact(hY i (List.mem_range.1 hi)).2.2.1
 · intro hw o ho
   obtain⟨i,hi,rfl⟩:=List.mem_map.1 ho;exact(hY i (List.mem_range.1 hi)).2.2.2 ((hs hw).2 i (List.mem_range.1 hi))
theorem open_opsP {W:World}{base:Nat}{v:Value}{d:DataW H}{p:List MemPlace}(hval:Value.okWide Tryz.prog W .any base 22 v)(h:DataW.Trod enc Tryz.prog W 0 (fun _=>true) true 22 v d p):
 ∃l:List OpP,OpsP (heapOf W) v l∧(∀o∈l,OpPI o)∧(Small d 22→∀o∈l,PageSized o.g):=by
 obtain⟨a,len,cap,rfl⟩:=okWide_slice Tryz.underlying22 hval;obtain⟨n,hn⟩:=h;exact opsP_of hn
end
end Go.Proofs.YtbobcmimkonnoaaGreat.M6
namespace Go.Proofs.YtbobcmimkonnoaaGreat.N6
open ChangeShapes WideShapes ChangeAt RowKit Sl Cop F6
end Go.Proofs.YtbobcmimkonnoaaGreat.N6
