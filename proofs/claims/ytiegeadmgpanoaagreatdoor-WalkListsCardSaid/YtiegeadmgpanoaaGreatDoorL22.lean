/- Arguments opened: items, pages, numbered pages and what stands over them, as parts of the heap, with their sizes. Plain lemmas. -/
import Derived.Test.YtiegeadmgpanoaaGreatDoorL20
import Derived.Test.YtiegeadmgpanoaaGreatDoorL13
import Derived.Test.YtiegeadmgpanoaaGreatDoorL07
import Derived.Laws.CopyOwn
import Derived.Test.YtiegeadmgpanoaaGreatDoorL19
set_option maxRecDepth 100000
set_option maxHeartbeats 16000000
namespace Go.Proofs.YtiegeadmgpanoaaGreatDoor.V5
open ChangeShapes WideShapes ChangeAt RowKit Sl fB Deep D2 Z3
theorem I8:Tryz.prog.cellsOf 3=1:=by kernel_rfl
theorem yc:Tryz.prog.cellsOf 89=4:=by kernel_rfl
theorem FV:Tryz.prog.cellsOf 83=5:=by kernel_rfl
theorem zR:Tryz.prog.cellsOf 91=6:=by kernel_rfl
theorem Lt:Tryz.prog.bytesOf 5=1:=by kernel_rfl
theorem I9:Tryz.prog.bytesOf 3=8:=by kernel_rfl
theorem FW:Tryz.prog.bytesOf 89=64:=by kernel_rfl
theorem I_:Tryz.prog.bytesOf 91=80:=by kernel_rfl
section
variable {H:Type}{enc:TypeId × Value→H}
def Small(d:DataW H)(t:TypeId):Prop:= ∀m∈d.weights Tryz.prog t,m≤reachBytes
theorem vK {e:TypeId}:∀ {l:List (DataW H)} {i:Nat} {d:DataW H},l[i]? =some d→∀m∈d.weights Tryz.prog e,m∈DataW.weightsAll Tryz.prog e l
 | [],_,_,h,_,_=>by simp at h
 | x :: l,0,d,h,m,hm=>by
   simp only [List.getElem?_cons_zero,Option.some.injEq] at h;subst h;simp only [DataW.weightsAll,aK];exact .inl hm
 | x :: l,i+1,d,h,m,hm=>by
   simp only [List.getElem?_cons_succ] at h;simp only [DataW.weightsAll,aK];exact .inr (vK h m hm)
theorem o8 {W:World}{base n:Nat}{v:Value}{x:DataW H × List MemPlace}(h:DataW.trod enc Tryz.prog W base (fun _=>true) true n 3 [v]=some x):∃z,v= .int .i64 z∧ -9223372036854775808≤z∧z≤9223372036854775807:=by
 cases n with
 | zero=>simp [DataW.trod] at h
 | succ n=>
   unfold DataW.trod at h;rw [Tryz.underlying3] at h;cases v with
   | int k z=>
     simp only at h;split at h
     · rename_i hk
       have e1:IntKind.i64.min= -9223372036854775808:=by decide
       have e2:IntKind.i64.max=9223372036854775807:=by decide
       simp_all [Lit.wf]
     · simp at h
   | _=>simp at h
theorem qY {W:World}{base n:Nat}{v:Value}{x:DataW H × List MemPlace}(h:DataW.trod enc Tryz.prog W base (fun _=>true) true n 42 [v]=some x):
 ∃l:List Int,Bytes (ik W) v l∧U8 l∧(Small x.1 42→l.length≤reachBytes):=by
 rcases open_ints Tryz.underlying42 Tryz.underlying5 Lh h with⟨e,_⟩ | ⟨a,len,cap,zs,e,_,hl,hm,hz,hx,hcell,hwf⟩
 · simp at e
   subst e;exact⟨[],gj.nil _ _,fun z hz=>(by cases hz),fun _=>aG _⟩
 · simp at e
   subst e;simp only [if_true] at hz;have hlen:(zs.take len).length=len:=by simp;omega
   refine⟨zs.take len,⟨by simp,some a,cap,by rw [hlen],by omega,hm,fun h0=> ?_⟩,fun z hz'=> ?_,fun hs=> ?_⟩
   · obtain⟨ab,ao,spot⟩:=a
     have hspot:spot=none:=by simpa [Addr.add] using World.cell?_spot (hcell 0 (by omega))
     subst hspot;refine⟨ab,ao,rfl,fun i hi=> ?_⟩;have hc:=hcell i (by omega);rw [Addr.add_lit] at hc;rw [uY hc];have h1:i<zs.length:=by omega
     have h2:i<len:=by omega
     simp [h1,h2]
   · have:=hwf z (dj hz')
     simp only [Lit.wf,aJ,decide_eq_true_eq] at this;have e1:IntKind.u8.min=0:=by decide
     have e2:IntKind.u8.max=255:=by decide
     rw [e1,e2] at this;exact this
   · subst hx
     have h2:=hs (((lits .u8 (zs.take len)).length+(lits .u8 (zs.drop len)).length)*Tryz.prog.bytesOf 5:Nat) (by
      simp only [DataW.weights,Tryz.underlying42]
      exact bq)
     rw [Lt] at h2;simp [lits] at h2
     rw [hlen];omega
theorem Oj {W:World}{base n:Nat}{v:Value}{x:DataW H × List MemPlace}(h:DataW.trod enc Tryz.prog W base (fun _=>true) true n 22 [v]=some x):
 ∃l:List Int,r_ (ik W) v l∧(∀z∈l, -9223372036854775808≤z∧z≤9223372036854775807)∧(Small x.1 22→l.length*8≤reachBytes):=by
 rcases open_ints Tryz.underlying22 Tryz.underlying3 I8 h with⟨e,_⟩ | ⟨a,len,cap,zs,e,_,hl,hm,hz,hx,hcell,hwf⟩
 · simp at e
   subst e;exact⟨[],gj.nil _ _,fun z hz=>(by cases hz),fun _=>aG _⟩
 · simp at e
   subst e;simp only [if_true] at hz;have hlen:(zs.take len).length=len:=by simp;omega
   refine⟨zs.take len,⟨by simp,some a,cap,by rw [hlen],by omega,hm,fun h0=> ?_⟩,fun z hz'=> ?_,fun hs=> ?_⟩
   · obtain⟨ab,ao,spot⟩:=a
     have hspot:spot=none:=by simpa [Addr.add] using World.cell?_spot (hcell 0 (by omega))
     subst hspot;refine⟨ab,ao,rfl,fun i hi=> ?_⟩;have hc:=hcell i (by omega);rw [Addr.add_lit] at hc;rw [uY hc];have h1:i<zs.length:=by omega
     have h2:i<len:=by omega
     simp [h1,h2]
   · have:=hwf z (dj hz')
     simp only [Lit.wf,aJ,decide_eq_true_eq] at this;have e1:IntKind.i64.min= -9223372036854775808:=by decide
     have e2:IntKind.i64.max=9223372036854775807:=by decide
     rw [e1,e2] at this;exact this
   · subst hx
     have h2:=hs (((lits .i64 (zs.take len)).length+(lits .i64 (zs.drop len)).length)*Tryz.prog.bytesOf 3:Nat) (by
      simp only [DataW.weights,Tryz.underlying22]
      exact bq)
     rw [I9] at h2;simp [lits] at h2
     rw [hlen];omega
def I'(h:Hp)(cs:List Value)(y:en):Prop:= ∃kv vv,cs= [kv,vv,.int .i64 y.child,.int .i64 y.size]∧Bytes h kv y.key∧Bytes h vv y.value
def ui(y:en):Prop:=U8 y.key∧U8 y.value∧(-9223372036854775808≤y.child∧y.child≤9223372036854775807)∧(-9223372036854775808≤y.size∧y.size≤9223372036854775807)
def rN(y:en):Prop:=y.key.length≤reachBytes∧y.value.length≤reachBytes
theorem Ol {W:World}{base n:Nat}{cs:List Value}{x:DataW H × List MemPlace}(h:DataW.trod enc Tryz.prog W base (fun _=>true) true n 89 cs=some x):
 ∃y:en,I' (ik W) cs y∧ui y∧(Small x.1 89→rN y):=by
 obtain⟨xs,m,rfl,rfl,hl,hlen,hf⟩:=DataW.trod_struct Tryz.underlying89 h;rw [yc] at hl;match cs,hl with
 | [c0,c1,c2,c3],_=>
   match xs,hlen with
   | [x0,x1,x2,x3],_=>
     have f0:=hf 0 _ rfl;have f1:=hf 1 _ rfl;have f2:=hf 2 _ rfl;have f3:=hf 3 _ rfl;simp only [List.getElem?_cons_zero,List.getElem?_cons_succ] at f0 f1 f2 f3;obtain⟨K,hk,uk,sk⟩:=qY f0;obtain⟨V,hv,uv,sv⟩:=qY f1;obtain⟨c,rfl,hc⟩:=o8 f2;obtain⟨s,rfl,hs⟩:=o8 f3;refine⟨⟨K,V,c,s⟩,⟨c0,c1,rfl,hk,hv⟩,⟨uk,uv,hc,hs⟩,fun hw=>⟨sk fun m hm=>hw m ?_,sv fun m hm=>hw m ?_⟩⟩
     · simp only [DataW.weights,Tryz.underlying89,aT,aZ,DataW.weightsEach,aK]
       exact .inl hm
     · simp only [DataW.weights,Tryz.underlying89,aT,aZ,DataW.weightsEach,aK]
       exact .inr (.inl hm)
theorem zS {α β:Type}(f:Nat→α)(g:Nat→β)(n:Nat):((List.range n).map f).zip ((List.range n).map g)=(List.range n).map fun i=>(f i,g i):=by
 rw [List.zip_map']
theorem wV {W:World}{base n:Nat}{t e:TypeId}{k:Nat}(ht:Tryz.prog.underlying t=some (.slice e))(hk:Tryz.prog.cellsOf e=k)(qn:0<k){v:Value}{x:DataW H × List MemPlace}(h:DataW.trod enc Tryz.prog W base (fun _=>true) true n t [v]=some x):
 ∃(len n':Nat) (C:Nat→List Value) (D:Nat→DataW H) (Pl:Nat→List MemPlace),(∀i,i<len→(C i).length=k∧DataW.trod enc Tryz.prog W base (fun _=>true) true n' e (C i)=some (D i,Pl i))∧
  gj (ik W) k v len ((List.range len).flatMap C)∧(Small x.1 t→len*Tryz.prog.bytesOf e≤reachBytes∧∀i,i<len→Small (D i) e):=by
 rcases open_slice ht h with⟨e1,e2⟩ | ⟨a,len,cap,m,n',D,Pl,e1,_,hl,hm,hmm,hx,hc⟩
 · simp at e1
   subst e1;exact⟨0,0,fun _=> [],fun _=> .nil,fun _=> [],fun i hi=>absurd hi (by omega),gj.nil _ _,fun _=>⟨by simp,fun i hi=>absurd hi (by omega)⟩⟩
 · simp at e1
   subst e1;simp only [if_true] at hmm;subst hmm;rw [hk] at hc;obtain⟨C,hC⟩:=choose_lt (α:=List Value) (n:=m) (p:=fun i cs'=>W.cells? base (a.add (i*k)) k=some cs'∧DataW.trod enc Tryz.prog W base (fun _=>true) true n' e cs'=some (D i,Pl i)) hc
   have QD:∀i,i<m→(C i).length=k∧∀j,j<k→W.cell? ((a.add (i*k)).add j)=(C i)[j]? :=fun i hi=>by
    obtain⟨_,h2,h3⟩:=World.cells?_some (hC i hi).1;exact⟨h2,h3⟩
   refine⟨len,n',C,D,Pl,fun i hi=>⟨(QD i (by omega)).1,(hC i (by omega)).2⟩,⟨?_,some a,m,rfl,hl,hm,fun h0=> ?_⟩,fun hs=>⟨?_,fun i hi w hw=>hs w ?_⟩⟩
   · have e2:∀q,q≤m→((List.range q).flatMap C).length=q*k:=by
      intro q;induction q with
      | zero=>intro _;simp
      | succ q ih=>
        intro hq;rw [dC,aN,au,ih (by omega)];simp only [aX,cV,aV,(QD q (by omega)).1];rw [bJ]
     exact e2 len hl
   · obtain⟨ab,ao,spot⟩:=a
     have hspot:spot=none:=by
      have h1:=(QD 0 (by omega)).2 0 qn;rw [ag (by rw [(QD 0 (by omega)).1];exact qn)] at h1;have:=World.cell?_spot h1
      simpa [Addr.add] using this
     subst hspot;refine⟨ab,ao,rfl,fun i hi=> ?_⟩
     have e2:∀q,q≤m→∀i,i<q*k→((List.range q).flatMap C)[i]? =(C (i / k))[i % k]? :=by
      intro q;induction q with
      | zero=>intro _ i hi;omega
      | succ q ih=>
        intro hq i hi
        have hlen:((List.range q).flatMap C).length=q*k:=by
         have e3:∀r,r≤m→((List.range r).flatMap C).length=r*k:=by
          intro r;induction r with
          | zero=>intro _;simp
          | succ r ihr=>
            intro hr;rw [dC,aN,au,ihr (by omega)];simp only [aX,cV,aV,(QD r (by omega)).1];rw [bJ]
         exact e3 q (by omega)
        rw [dC,aN];rcases aB i (q*k) with h1 | h1
        · rw [bG (by rw [hlen];exact h1)]
          exact ih (by omega) i h1
        · rw [bV (by rw [hlen];exact h1),hlen]
          have h2:i<q*k+k:=by rw [bJ] at hi;exact hi
          have h3:i / k=q:=by
           have:q≤i / k:=(Nat.le_div_iff_mul_le qn).2 h1
           have:i / k<q+1:=(Nat.div_lt_iff_lt_mul qn).2 (by rw [bJ];exact h2)
           omega
          have h4:i % k=i-q*k:=by
           have:=Nat.div_add_mod i k
           rw [h3,Nat.mul_comm] at this;omega
          rw [h3,h4];simp
     rw [e2 len hl i hi];have hik:i / k<len:=(Nat.div_lt_iff_lt_mul qn).2 hi;have h5:=(QD (i / k) (by omega)).2 (i % k) (Nat.mod_lt _ qn);rw [ag (by rw [(QD (i / k) (by omega)).1];exact Nat.mod_lt _ qn)] at h5 ⊢;rw [add_add,Addr.add_lit,show i / k*k+i % k=i by rw [Nat.mul_comm];exact Nat.div_add_mod i k] at h5;exact uY h5
   · subst hx
     have h2:=hs ((((List.range len).map D).length+((List.range (m-len)).map fun j=>D (len+j)).length)*Tryz.prog.bytesOf e:Nat) (by
      simp only [DataW.weights,ht]
      exact bq)
     simp only [aH,List.length_range] at h2;exact bK (bM _ (by omega)) h2
   · subst hx
     simp only [DataW.weights,ht,aR,aK];exact .inr (.inl (vK (l:=(List.range len).map D) (i:=i) (by simp [hi]) w hw))
instance:Inhabited en:=⟨⟨[],[],0,0⟩⟩
instance:Inhabited dR:=⟨⟨0,0,[],[],0⟩⟩
instance:Inhabited mG:=⟨⟨0,default⟩⟩
theorem Lu {W:World}{base n:Nat}{v:Value}{x:DataW H × List MemPlace}(h:DataW.trod enc Tryz.prog W base (fun _=>true) true n 81 [v]=some x):
 ∃l:List en,h_ (ik W) v l∧(∀y∈l,ui y)∧(Small x.1 81→l.length*64≤reachBytes∧∀y∈l,rN y):=by
 obtain⟨len,n',C,D,Pl,hC,hr,hs⟩:=wV Tryz.underlying81 yc (by omega) h
 obtain⟨Y,hY⟩:=choose_lt (α:=en × Value × Value) (n:=len) (p:=fun i y=>C i= [y.2.1,y.2.2,.int .i64 y.1.child,.int .i64 y.1.size]∧(Bytes (ik W) y.2.1 y.1.key∧Bytes (ik W) y.2.2 y.1.value)∧ui y.1∧(Small (D i) 89→rN y.1)) (fun i hi=>by
  obtain⟨y,⟨kv,vv,e,h1,h2⟩,h3,h4⟩:=Ol (hC i hi).2
  exact⟨(y,kv,vv),e,⟨h1,h2⟩,h3,h4⟩)
 refine⟨(List.range len).map fun i=>(Y i).1,⟨(List.range len).map fun i=>(Y i).2,by simp,?_,?_⟩,?_,fun hw=>⟨?_,?_⟩⟩
 · rw [zS]
   have e1:(List.range len).flatMap C=((List.range len).map fun i=>((Y i).2,(Y i).1)).flatMap fun x=> [x.1.1,x.1.2,.int .i64 x.2.child,.int .i64 x.2.size]:=by
    rw [List.flatMap_map];exact flatMap_congr_range fun i hi=>(hY i hi).1
   rw [← e1];simpa using hr
 · intro i hx hl
   simp at hl
   simp only [bQ,dA];exact(hY i hl).2.1
 · intro y hy
   obtain⟨i,hi,rfl⟩:=bH.1 hy;exact(hY i (aP.1 hi)).2.2.1
 · have:=(hs hw).1
   rw [FW] at this;simpa using this
 · intro y hy
   obtain⟨i,hi,rfl⟩:=bH.1 hy;exact(hY i (aP.1 hi)).2.2.2 ((hs hw).2 i (aP.1 hi))
def qZ(g:dR):Prop:=(∀y∈g.items,ui y)∧U8 g.data∧(-9223372036854775808≤g.kind∧g.kind≤9223372036854775807)∧(-9223372036854775808≤g.level∧g.level≤9223372036854775807)∧(-9223372036854775808≤g.next∧g.next≤9223372036854775807)
def rO(g:dR):Prop:=g.items.length*64≤reachBytes∧(∀y∈g.items,rN y)∧g.data.length≤reachBytes
def Ja(h:Hp)(cs:List Value)(g:dR):Prop:= ∃vi vd,cs= [.int .i64 g.kind,.int .i64 g.level,vi,vd,.int .i64 g.next]∧h_ h vi g.items∧Bytes h vd g.data
theorem Om {W:World}{base n:Nat}{cs:List Value}{x:DataW H × List MemPlace}(h:DataW.trod enc Tryz.prog W base (fun _=>true) true n 83 cs=some x):
 ∃g:dR,Ja (ik W) cs g∧qZ g∧(Small x.1 83→rO g):=by
 obtain⟨xs,m,rfl,rfl,hl,hlen,hf⟩:=DataW.trod_struct Tryz.underlying83 h;rw [FV] at hl;match cs,hl with
 | [c0,c1,c2,c3,c4],_=>
   match xs,hlen with
   | [x0,x1,x2,x3,x4],_=>
     have f0:=hf 0 _ rfl;have f1:=hf 1 _ rfl;have f2:=hf 2 _ rfl;have f3:=hf 3 _ rfl;have f4:=hf 4 _ rfl;simp only [List.getElem?_cons_zero,List.getElem?_cons_succ] at f0 f1 f2 f3 f4;obtain⟨k,rfl,hk⟩:=o8 f0;obtain⟨l,rfl,hl⟩:=o8 f1;obtain⟨I,hI,fI,sI⟩:=Lu f2;obtain⟨B,hB,uB,sB⟩:=qY f3;obtain⟨nx,rfl,hn⟩:=o8 f4;refine⟨⟨k,l,I,B,nx⟩,⟨c2,c3,rfl,hI,hB⟩,⟨fI,uB,hk,hl,hn⟩,fun hw=> ?_⟩
     have w2:=sI fun m hm=>hw m (by
      simp only [DataW.weights,Tryz.underlying83,aT,aZ,DataW.weightsEach,aK]
      exact .inr (.inr (.inl hm)))
     have w3:=sB fun m hm=>hw m (by
      simp only [DataW.weights,Tryz.underlying83,aT,aZ,DataW.weightsEach,aK]
      exact .inr (.inr (.inr (.inl hm))))
     exact⟨w2.1,w2.2,w3⟩
theorem QE {W:World}{base n:Nat}{cs:List Value}{x:DataW H × List MemPlace}(h:DataW.trod enc Tryz.prog W base (fun _=>true) true n 91 cs=some x):
 ∃(y:mG) (vi vd:Value),cs= [.int .i64 y.no,.int .i64 y.page.kind,.int .i64 y.page.level,vi,vd,.int .i64 y.page.next]∧(h_ (ik W) vi y.page.items∧Bytes (ik W) vd y.page.data)∧
  ((-9223372036854775808≤y.no∧y.no≤9223372036854775807)∧qZ y.page)∧(Small x.1 91→rO y.page):=by
 obtain⟨xs,m,rfl,rfl,hl,hlen,hf⟩:=DataW.trod_struct Tryz.underlying91 h;rw [zR] at hl;match cs,hl with
 | [c0,c1,c2,c3,c4,c5],_=>
   match xs,hlen with
   | [x0,x1],_=>
     have f0:=hf 0 _ rfl;have f1:=hf 1 _ rfl;simp only [List.getElem?_cons_zero,List.getElem?_cons_succ] at f0 f1;obtain⟨k,rfl,hk⟩:=o8 f0;obtain⟨g,⟨vi,vd,e,h1,h2⟩,hfit,hsz⟩:=Om f1;cases e;refine⟨⟨k,g⟩,c3,c4,rfl,⟨h1,h2⟩,⟨hk,hfit⟩,fun hw=>hsz fun m hm=>hw m ?_⟩;simp only [DataW.weights,Tryz.underlying91,aT,aZ,DataW.weightsEach,aK];exact .inr (.inl hm)
theorem On {W:World}{base n:Nat}{v:Value}{x:DataW H × List MemPlace}(h:DataW.trod enc Tryz.prog W base (fun _=>true) true n 23 [v]=some x):
 ∃l:List mG,o6 (ik W) v l∧(∀y∈l,qZ y.page)∧(Small x.1 23→l.length*80≤reachBytes∧∀y∈l,rO y.page):=by
 obtain⟨len,n',C,D,Pl,hC,hr,hs⟩:=wV Tryz.underlying23 zR (by omega) h
 obtain⟨Y,hY⟩:=choose_lt (α:=mG × Value × Value) (n:=len) (p:=fun i y=>C i= [.int .i64 y.1.no,.int .i64 y.1.page.kind,.int .i64 y.1.page.level,y.2.1,y.2.2,.int .i64 y.1.page.next]∧(h_ (ik W) y.2.1 y.1.page.items∧Bytes (ik W) y.2.2 y.1.page.data)∧qZ y.1.page∧(Small (D i) 91→rO y.1.page)) (fun i hi=>by
  obtain⟨y,vi,vd,e,h1,h3,h4⟩:=QE (hC i hi).2
  exact⟨(y,vi,vd),e,h1,h3.2,h4⟩)
 refine⟨(List.range len).map fun i=>(Y i).1,⟨(List.range len).map fun i=>(Y i).2,by simp,?_,?_⟩,?_,fun hw=>⟨?_,?_⟩⟩
 · rw [zS]
   have e1:(List.range len).flatMap C=((List.range len).map fun i=>((Y i).2,(Y i).1)).flatMap tZ:=by
    rw [List.flatMap_map];exact flatMap_congr_range fun i hi=>(hY i hi).1
   rw [← e1];simpa using hr
 · intro i hx hl
   simp at hl
   simp only [bQ,dA];exact(hY i hl).2.1
 · intro y hy
   obtain⟨i,hi,rfl⟩:=bH.1 hy;exact(hY i (aP.1 hi)).2.2.1
 · have:=(hs hw).1
   rw [I_] at this;simpa using this
 · intro y hy
   obtain⟨i,hi,rfl⟩:=bH.1 hy;exact(hY i (aP.1 hi)).2.2.2 ((hs hw).2 i (aP.1 hi))
end
end Go.Proofs.YtiegeadmgpanoaaGreatDoor.V5
namespace Go.Proofs.YtiegeadmgpanoaaGreatDoor.X5
open ChangeShapes WideShapes ChangeAt RowKit Sl fB L3 D2
def gJ(h:Hp)(v:Value)(r:fw):Prop:= ∃lo hi,v= .agg #[lo,hi,.bool r.op]∧Bytes h lo r.lo∧Bytes h hi r.hi
theorem gJ.sub {a b:Hp}(hs:a.sub b){v:Value}{r:fw}(h:gJ a v r):gJ b v r:=by
 obtain⟨lo,hi,e,h1,h2⟩:=h;exact⟨lo,hi,e,h1.sub hs,h2.sub hs⟩
theorem _root_.Go.Sl.Hp.le.only {h:Hp}{w w':World}(hle:h.le w)(ho:eV w w'):h.le w':=fun k o hk=>by
 have:=hle k o hk
 rw [ho.heap k (aA.1 this).1];exact this
theorem nW(h:Hp)(v:Value)(l:List Int)(hx:Bytes h v l)(hn:l.length≤140737488355000)(F:Pr)(w:World)(hF:Sat ((Pr.own h).star F) w):
 Calls Tryz.prog 125 #[v,.int .i64 0] w fun e w'=> ∃o,e= .returned o∧dN w w'∧Sat ((dM o l).star ((Pr.own h).star F)) w':=by
 obtain⟨a,c,rfl,rd⟩:=eL hx;obtain⟨i0,hi,hz0,hz1,jg⟩:=info_parts kY;obtain⟨Z,hZ⟩:∃Z:List Value,Z=List.replicate l.length (Value.int .u8 0):=⟨_,rfl⟩;have Tp:Z.length=l.length:=by rw [hZ];simp
 have hmk:∀wx:World,(Instr.makeSlice 42 (.int .i64 (l.length:Int)) (.int .i64 (l.length:Int))).run Tryz.prog wx= .ok (.slice (some ⟨wx.heap.size,0,none⟩) l.length l.length) (wx.alloc (.cells Z.toArray 5)):=by
  intro wx;have:=run_make (P:=Tryz.prog) wx 42 5 i0 (.int .u8 0) Tryz.underlying42 hi hz0 .i64 .i64 l.length l.length (by omega) (by omega) (by rw [jg];omega) (by omega)
  rw [hz1,Int.toNat_natCast,cM,show (Value.int .u8 0).cells= #[Value.int .u8 0] from rfl,tL, ← hZ] at this;exact this
 have rH:(l.length:Int)≤140737488355000:=by omega
 have h2:=hF.alloc (.cells Z.toArray 5);have hle:=h2.right.own;have hsz:(Tryz.prog.info? 5).map (·.size)=some 1:=by rw [hi,Option.map_some,hz1]
 have hpos:0<(l.map (Value.int .u8)).length→(some (⟨w.heap.size,0,none⟩:Addr)=some ⟨w.heap.size,0,none⟩∧∃ad,a=some ad∧∀j u,(l.map (Value.int .u8))[j]? =some u→(w.alloc (.cells Z.toArray 5)).cell? (ad.add j)=some u):=by
  intro h0;rw [aH] at h0;obtain⟨b,off,e0,_⟩:=rd 0 h0;refine⟨rfl,⟨b,off,none⟩,e0,fun j u hj=> ?_⟩;obtain⟨rY,hj2⟩:=cE.1 hj;rw [aH] at rY;obtain⟨b2,Dm,e,hc⟩:=rd j rY;rw [e0] at e;cases e;have:=hc _ hle
  rw [show (⟨b,off,none⟩:Addr).add j=⟨b,off+j,none⟩ by unfold Addr.add;simp,this, ← hj2,bQ,az,ag rY];rfl
 have Jb:=hQ hpos;have H2:=hQ h2;have Wp:=hQ Tp;have HN:=hQ hn;have HB:=hQ (show Below w.heap.size w (w.alloc (.cells Z.toArray 5)) from(Below.refl w.heap.size w).alloc (aD _) _);clear hF hx h2 rd hle hpos hZ Tp;go_enter Tryz.func125,Tryz.ntmps125
 go_wp2_with
  (refine wpList_copy_splice rfl _ _ _ _ rfl 5 Tryz.underlying42 hsz _ _ _ _ _ _ rfl rfl w.heap.size 0 Z 5 H2.af.dL (l.map (Value.int .u8)) (by simp) Jb.af (by rw [Wp.af];simp) (by simp [Value.oneCell']) w.heap.size w HB.af (aD _) ?_
   intro w4 mD zu
   have qx:=hQ (And.intro mD.af zu)
   clear mD zu)
 go_ret;obtain⟨g1,g2⟩:=qx.af;refine⟨_,rfl,dN.Cd g2,?_⟩
 have h3:=H2.af.put g1 fun k hk hne=>by
  have hk2:k<w.heap.size:=by simp at hk;omega
  rw [g2.block k hk2];exact(Below.heap_alloc w _ k hk2).symm
 refine Row.mk' (sp:= []) (by simp) (by simp) (aD _) (by have:=HN.af;simp only [maxLen];omega) ?_
 have e1:splice Z 0 (l.map (Value.int .u8))=l.map (Value.int .u8)++ []:=by
  unfold splice;rw [List.take_zero,List.nil_append,Nat.zero_add,aH,dy (by rw [Wp.af];exact aD _)]
 rw [← e1];exact h3
theorem Lv(h:Hp)(va vb:Value)(A B:List Int)(hA:Bytes h va A)(hB:Bytes h vb B)(uA:U8 A)(uB:U8 B)(nA:A.length≤140737488355000)(nB:B.length≤140737488355000)(F:Pr)(w:World)(hF:Sat ((Pr.own h).star F) w):
 Calls Tryz.prog 124 #[va,vb] w fun e w'=> ∃o,e= .returned o∧dN w w'∧Sat ((dM o (eY A B)).star ((Pr.own h).star F)) w':=by
 have CM:=hQ (jV h h va vb A B hA hB uA uB w hF.own hF.own);have FR:=hQ (fun(v:Value) (l:List Int) (hx:Bytes h v l) (hn:l.length≤140737488355000) (wx:World) hF=>nW h v l hx hn F wx hF);have HS:=hQ hF;have HX:=hQ (And.intro (And.intro hA nA) (And.intro hB nB));obtain⟨aa,ca,rfl,_⟩:=eL hA;obtain⟨ab,cb,rfl,_⟩:=eL hB;clear hF hA hB nA nB uA uB;by_cases hc:eX A B<0
 · have HM:=hQ (show eY A B=B from by unfold eY;rw [if_pos hc])
   generalize eX A B=q at*;go_enter Tryz.func124,Tryz.ntmps124
   go_wp2_with fail
   refine CM.af.mono ?_;rintro e w1 ⟨rfl,rfl⟩;have F1:=hQ (FR.af _ B HX.af.2.1 HX.af.2.2 w HS.af);clear CM FR HS;go_wp2_with fail
   refine F1.af.mono ?_;rintro e w2 ⟨o,rfl,kU,hs2⟩;have lK:=hQ hs2;have fa:=hQ (kU);clear hs2 kU;go_wp2;go_ret;rw [HM.af];exact⟨_,rfl,fa.af,lK.af⟩
 · have HM:=hQ (show eY A B=A from by unfold eY;rw [if_neg hc])
   generalize eX A B=q at*;go_enter Tryz.func124,Tryz.ntmps124
   go_wp2_with fail
   refine CM.af.mono ?_;rintro e w1 ⟨rfl,rfl⟩;have F1:=hQ (FR.af _ A HX.af.1.1 HX.af.1.2 w HS.af);clear CM FR HS;go_wp2_with fail
   refine F1.af.mono ?_;rintro e w2 ⟨o,rfl,kU,hs2⟩;have lK:=hQ hs2;have fa:=hQ (kU);clear hs2 kU;go_wp2;go_ret;rw [HM.af];exact⟨_,rfl,fa.af,lK.af⟩
theorem Lx(h:Hp)(va vb:Value)(A B:List Int)(hA:Bytes h va A)(hB:Bytes h vb B)(uA:U8 A)(uB:U8 B)(nA:A.length≤140737488355000)(nB:B.length≤140737488355000)(F:Pr)(w:World)(hF:Sat ((Pr.own h).star F) w):
 Calls Tryz.prog 126 #[va,vb] w fun e w'=> ∃o,e= .returned o∧dN w w'∧Sat ((dM o (ji A B)).star ((Pr.own h).star F)) w':=by
 have CM:=hQ (jV h h va vb A B hA hB uA uB w hF.own hF.own);have FR:=hQ (fun(v:Value) (l:List Int) (hx:Bytes h v l) (hn:l.length≤140737488355000) (wx:World) hF=>nW h v l hx hn F wx hF);have HS:=hQ hF;have HX:=hQ (And.intro (And.intro hA nA) (And.intro hB nB));obtain⟨aa,ca,rfl,_⟩:=eL hA;obtain⟨ab,cb,rfl,_⟩:=eL hB;clear hF hA hB nA nB uA uB;by_cases hc:0<eX A B
 · have HM:=hQ (show ji A B=B from by unfold ji;rw [if_pos hc])
   generalize eX A B=q at*;go_enter Tryz.func126,Tryz.ntmps126
   go_wp2_with fail
   refine CM.af.mono ?_;rintro e w1 ⟨rfl,rfl⟩;have F1:=hQ (FR.af _ B HX.af.2.1 HX.af.2.2 w HS.af);clear CM FR HS;go_wp2_with fail
   refine F1.af.mono ?_;rintro e w2 ⟨o,rfl,kU,hs2⟩;have lK:=hQ hs2;have fa:=hQ (kU);clear hs2 kU;go_wp2;go_ret;rw [HM.af];exact⟨_,rfl,fa.af,lK.af⟩
 · have HM:=hQ (show ji A B=A from by unfold ji;rw [if_neg hc])
   generalize eX A B=q at*;go_enter Tryz.func126,Tryz.ntmps126
   go_wp2_with fail
   refine CM.af.mono ?_;rintro e w1 ⟨rfl,rfl⟩;have F1:=hQ (FR.af _ A HX.af.1.1 HX.af.1.2 w HS.af);clear CM FR HS;go_wp2_with fail
   refine F1.af.mono ?_;rintro e w2 ⟨o,rfl,kU,hs2⟩;have lK:=hQ hs2;have fa:=hQ (kU);clear hs2 kU;go_wp2;go_ret;rw [HM.af];exact⟨_,rfl,fa.af,lK.af⟩
end Go.Proofs.YtiegeadmgpanoaaGreatDoor.X5
namespace Go.fB
structure vE(s t:eC)(was:List (Int × Option dR)):Prop where
 vf:t.floor=s.floor
 va:t.acts=s.acts
 pf:t.pool.floor=s.pool.floor
 refs:t.pool.refs=s.pool.refs
 last:t.pool.last=s.pool.last
 pl:s.pool.acts.length≤t.pool.acts.length
 take:t.pool.acts.take s.pool.acts.length=s.pool.acts
 trail:Trail t.pool s.pool.counts (t.pool.acts.drop s.pool.acts.length) t.pool.counts
 back:restore t.on was=s.on
 XE:∀y∈was,1≤y.1∧y.1≤65536
 len:was.length≤65536
theorem vE.Jc {s t:eC}{was:List (Int × Option dR)}(h:vE s t was):({ t.pool with counts:=s.pool.counts,acts:=t.pool.acts.take s.pool.acts.length }:ef)=s.pool:=by
 have h1:=h.refs;have h2:=h.last;have h3:=h.pf;rw [h.take];obtain⟨⟨r,c,l,a,f⟩,_,_,_⟩:=s;obtain⟨⟨r',c',l',a',f'⟩,_,_,_⟩:=t;dsimp only at h1 h2 h3 ⊢;subst h1 h2 h3;rfl
theorem vE.refl(s:eC):vE s s []:=
 ⟨rfl,rfl,rfl,rfl,rfl,aD _,bE,by rw [bP];rfl,rfl,fun y hy=>(by cases hy),by simp⟩
theorem zT {s s':ef}:∀ {l:List (Int × Int)} {c0 c1:List Int},Trail s c0 l c1→Trail s' c0 l c1
 | [],_,_,h=>h
 | _ :: _,_,_,⟨h1,h2,h3,h4,h5⟩=>⟨h1,h2,h3,h4,zT h5⟩
theorem vE.did {s t:eC}{was:List (Int × Option dR)}(h:vE s t was){n b:Int}(h1:t.pool.there n)(h2:0≤t.pool.count n)(h3:t.pool.count n≤65536)(h4: -65536≤b∧b≤65536):vE s { t with pool:=t.pool.did n b } was:=by
 have e:(t.pool.did n b).acts=t.pool.acts++ [(n,b)]:=rfl;refine⟨h.vf,h.va,h.pf,h.refs,h.last,?_,?_,?_,h.back,h.XE,h.len⟩
 · show _≤(t.pool.acts++ [(n,b)]).length
   rw [au];have:=h.pl
   omega
 · show (t.pool.acts++ [(n,b)]).take _=_
   rw [bW h.pl];exact h.take
 · show Trail _ _ ((t.pool.acts++ [(n,b)]).drop _) _
   rw [List.drop_append_of_le_length h.pl];have:=Ff (a:=(n,b)) h.trail h1 h2 h3 h4
   exact zT this
theorem vE.set {s t:eC}{was:List (Int × Option dR)}(h:vE s t was){n:Int}(g:Option dR)(hn:1≤n∧n≤65536)(hl:was.length<65536):vE s { t with on:=fun m=>if m=n then g else t.on m } (was++ [(n,t.on n)]):=by
 refine⟨h.vf,h.va,h.pf,h.refs,h.last,h.pl,h.take,h.trail,?_,?_,?_⟩
 · rw [uh]
   have e:(fun m=>if m=(n,t.on n).1 then(n,t.on n).2 else(fun m=>if m=n then g else t.on m) m)=t.on:=by
    funext m
    dsimp only;by_cases hm:m=n
    · rw [if_pos hm,hm]
    · rw [if_neg hm,if_neg hm]
   show restore (fun m=>if m=(n,t.on n).1 then(n,t.on n).2 else(fun m=>if m=n then g else t.on m) m) was=_
   rw [e];exact h.back
 · intro y hy
   rcases aK.1 hy with hy | hy
   · exact h.XE y hy
   · rw [aC] at hy
     subst hy;exact hn
 · rw [au]
   simp only [List.length_singleton];omega
end Go.fB
namespace Go.Proofs.YtiegeadmgpanoaaGreatDoor.D2
open ChangeShapes WideShapes ChangeAt RowKit Sl fB L3 Z3
theorem QF {α:Type}(v:Nat)(s:eC)(g:Nat)(Da:Array Value)(E:α→Int)(R:α→Prop)(S:α→eC)(W:α→List (Int × Option dR))(F':α→Pr)(F:Pr)(w:World)(hF:Sat ((dZ v s).star F) w)
 (hm:s.floor+s.acts.length<1099511627776) (eg:∀args w,(callFunc g args).run Tryz.prog w= .ok (.enter g args) w) (hR:∀z,R z→vE s (S z) (W z))
 (hc:∀ab w1,Sat ((td v s ab s.pool.mark []).star F) w1→Calls Tryz.prog g (#[.pointer (some ⟨ab,0,none⟩)]++Da) w1 fun e w'=>
   dN w1 w'∧∃z,R z∧e= .returned (.int .i64 (E z))∧Sat ((td v (S z) ab s.pool.mark (W z)).star (F' z)) w'):
 Calls Tryz.prog 63 #[.pointer (some ⟨v,0,none⟩),.func (.func g) #[] Da] w fun e w'=>
  dN w w'∧∃z,R z∧e= .returned (.int .i64 (E z))∧Sat ((if E z=0 then dZ v ((S z).tY ⟨s.pool.mark,W z⟩) else dZ v s).star (F' z)) w':=by
 obtain⟨x,ok,hF⟩:=gC.1 hF
 have h1:Sat ((eP x.p s.pool).star ((Pr.pts v (.cells #[.pointer (some ⟨x.p,0,none⟩),.map (some x.mb),x.av,.int .i64 s.floor] 108)).star
  ((((fD Tryz.prog 3 x.mb x.f).star ((Row 169 2 x.av s.acts.length (eI x.kA)).star (Pr.own x.h)))).star F))) w:=hF.perm (by unfold fc;ac_rfl)
 have qv:w.cell? ⟨v,0,none⟩=some (.pointer (some ⟨x.p,0,none⟩)):=by rw [cell_of_heap h1.right.dL];rfl
 have C:=hQ (Bd x.p s.pool _ w h1);have HF:=hQ hF;have OK:=hQ ok;have hfl:=ok.f0;clear h1 hF ok;go_enter Tryz.func63,Tryz.ntmps63
 go_wp2_with fail
 refine C.af.mono ?_;rintro e w1 ⟨rfl,hst,hh⟩;have h2:=(HF.af.ext (w':=w1) (fun _ _=>by rw [hh])).alloc (.cells #[.int .i64 s.pool.mark,.slice none 0 0] 169)
 have h3:Sat ((td v s w1.heap.size s.pool.mark []).star F) _:=j3.2 ⟨x,.slice none 0 0,[],OK.af,⟨rfl,fun i h=>absurd h (by simp)⟩,h2.perm (by
  unfold kr
  rw [show (Row 194 7 (.slice none 0 0) ([]:List gI).length (([]:List gI).flatMap gI.cells))=Pr.emp from Row.nil _ _,Pr.ei]
  ac_rfl)⟩
 have D:=hQ (hc _ _ h3);have HR:=hQ hR;have eR:=hQ (hst.alloc (.cells #[.int .i64 s.pool.mark,.slice none 0 0] 169));clear h2 h3 hst hh HF C qv hc OK hR;go_wp2_with fail
 refine(D.af).mono ?_;rintro e w2 ⟨jq,z,hz,rfl,h4⟩;have mid:=HR.af z hz;by_cases hE:E z=0
 · have ZE:=hQ hE
   rw [hE];clear hE;obtain⟨x2,wv,ws,tJ,oL,h5⟩:=j3.1 h4;obtain⟨eA,eF⟩:(S z).acts=s.acts∧(S z).floor=s.floor:=⟨mid.va,mid.vf⟩
   have h6:Sat ((Row 169 2 x2.av (S z).acts.length (eI x2.kA)).star ((Pr.pts v (.cells #[.pointer (some ⟨x2.p,0,none⟩),.map (some x2.mb),x2.av,.int .i64 (S z).floor] 108)).star ((Pr.pts w1.heap.size (.cells #[.int .i64 s.pool.mark,wv] 169)).star ((Row 194 7 wv ws.length (ws.flatMap gI.cells)).star (((eP x2.p (S z).pool).star ((fD Tryz.prog 3 x2.mb x2.f).star (Pr.own x2.h))).star (F' z)))))) w2:=h5.perm (by unfold kr fc;ac_rfl)
   rw [eA,eF] at h6;obtain⟨aw,cw,ew,_,_⟩:=Row.read h6.right.right.right;obtain⟨aa,ca,ea,_,_⟩:=Row.read h6;have qa:w2.cell? ⟨v,2,none⟩=some x2.av:=by rw [cell_of_heap h6.right.dL];rfl
   have q0:w2.cell? ⟨w1.heap.size,0,none⟩=some (.int .i64 s.pool.mark):=by rw [cell_of_heap h6.right.right.dL];rfl
   have q1:w2.cell? ⟨w1.heap.size,1,none⟩=some wv:=by rw [cell_of_heap h6.right.right.dL];rfl
   have z0:=h6.right.lt;have z1:=h6.right.right.lt;rw [ea] at qa h6;have H6:=hQ h6;have HO:=hQ (And.intro tJ oL);have fa:=hQ (eR.af.trans jq);have Xt:=hQ (And.intro eA eF);have Xu:=hQ hz;have HEW:=hQ ew;have Xv:=hQ ea;have e1:wv= .slice aw ws.length cw:=ew;clear h4 h5 h6 D jq eR tJ oL eA eF hz mid HR ew ea;subst e1
   have hnew:=hQ (eW w2 [.int .i64 s.pool.mark,.slice aw ws.length cw] 169 _ rfl);have H7:=hQ (H6.af.alloc (.cells #[.int .i64 s.pool.mark,.slice aw ws.length cw] 169)).right;clear H6;go_wp2;refine wS 31 [0,1,2,3,4,5] [(6,[],[0,1,2,3,4]),(7,[8,9],[0,1,2,3]),(10,[],[8])] ?_;iterate 6 (refine fH rfl rfl (fun K hK=> ?_);go_simp;refine hK _ ?_;clear hK K)
   refine dU ?_;refine dK rfl ?_;go_wp2;refine dQ (dU ⟨?_,?_⟩)
   · refine d6 ?_ (d6 ?_ (d6 ?_ (d6 ?_ (d6 ?_ eM))))<;>(refine fj rfl rfl rfl rfl ?_;go_simp;try omega)
   refine dK rfl ?_;obtain⟨i0,hi,hz0,hz1,jg⟩:=info_parts CU;refine eu rfl _ _ _ rfl 169 i0 (.agg #[.int .i64 0,.slice none 0 0]) 2 32 Tryz.underlying106 hi hz0 hz1 jg rfl _ _ _ rfl H7.af ⟨w2.heap.size,0,none⟩ 1 1 _ rfl rfl hnew.af (by simp [Value.oneCell']) (by simp only [maxLen];omega) (by omega) ?_;intro v' w3 hJ hgr _;obtain⟨a2,c2,Cv,_,_⟩:=Row.read hJ
   subst Cv;have hp:=hJ.right;have y2:=frozen_of_heap hp.dL 2;have y2c:w3.cell? ⟨v,2,none⟩=some (.slice aa s.acts.length ca):=by rw [cell_of_heap hp.dL];rfl
   have yp:=hp.lt;have ja:=hQ hJ;have HG:=hQ (((fa.af.alloc (.cells #[.int .i64 s.pool.mark,.slice aw ws.length cw] 169)).drew).eH hgr);clear hJ hp hgr q0 q1 qa z0 z1 H7 hnew;go_wp2;refine dQ ?_;iterate 2 (refine fH rfl rfl (fun K hK=> ?_);go_simp;refine hK _ ?_;clear hK K)
   refine dU ⟨?_,?_⟩
   · refine d6 ?_ (d6 ?_ (d6 ?_ (d6 ?_ eM)))<;>(refine fj rfl rfl rfl rfl ?_;go_simp;try omega)
   refine dK rfl ?_;go_wp2;refine dQ (dU ⟨?_,dW ?_⟩)
   · refine d6 ?_ eM<;>(refine fj rfl rfl rfl rfl ?_;go_simp;try omega)
   go_wp2;go_ret;refine⟨HG.af.setCell _ _,z,Xu.af,by rw [ZE.af];rfl,?_⟩;rw [if_pos ZE.af]
   have h8:Sat ((Pr.pts v (.cells #[.pointer (some ⟨x2.p,0,none⟩),.map (some x2.mb),.slice a2 (s.acts.length+1) c2,.int .i64 s.floor] 108)).star ((Row 169 2 (.slice a2 (s.acts.length+1) c2) (s.acts.length+1) (eI x2.kA++ [.int .i64 s.pool.mark,.slice aw ws.length cw])).star ((Pr.pts w1.heap.size (.cells #[.int .i64 s.pool.mark,.slice aw ws.length cw] 169)).star ((Row 194 7 (.slice aw ws.length cw) ws.length (ws.flatMap gI.cells)).star (((eP x2.p (S z).pool).star ((fD Tryz.prog 3 x2.mb x2.f).star (Pr.own x2.h))).star (F' z)))))) _:=(ja.af.perm (Pr.eD _ _ _)).setCell (i:=2) (.slice a2 (s.acts.length+1) c2)
   have h9:Sat ((Row 194 7 (.slice aw ws.length cw) ws.length (ws.flatMap gI.cells)).star ((Pr.own x2.h).star ((Pr.pts v (.cells #[.pointer (some ⟨x2.p,0,none⟩),.map (some x2.mb),.slice a2 (s.acts.length+1) c2,.int .i64 s.floor] 108)).star ((Row 169 2 (.slice a2 (s.acts.length+1) c2) (s.acts.length+1) (eI x2.kA++ [.int .i64 s.pool.mark,.slice aw ws.length cw])).star ((Pr.pts w1.heap.size (.cells #[.int .i64 s.pool.mark,.slice aw ws.length cw] 169)).star ((eP x2.p (S z).pool).star ((fD Tryz.prog 3 x2.mb x2.f).star (F' z)))))))) _:=h8.perm (by ac_rfl)
   obtain⟨h2,hrow,h10⟩:=wP (Q:=fun y=>gj y 7 (.slice aw ws.length cw) ws.length (ws.flatMap gI.cells)) h9 (fun y hy=>Row.jh hy);obtain⟨sP,h11⟩:=Sat.jT (h10.perm (Pr.eD _ _ _))
   have h12:Sat ((Pr.pts w1.heap.size (.cells #[.int .i64 s.pool.mark,.slice aw ws.length cw] 169)).star ((Pr.own (x2.h.un h2)).star (((Pr.pts v (.cells #[.pointer (some ⟨x2.p,0,none⟩),.map (some x2.mb),.slice a2 (s.acts.length+1) c2,.int .i64 s.floor] 108)).star ((Row 169 2 (.slice a2 (s.acts.length+1) c2) (s.acts.length+1) (eI x2.kA++ [.int .i64 s.pool.mark,.slice aw ws.length cw])).star ((eP x2.p (S z).pool).star (fD Tryz.prog 3 x2.mb x2.f)))).star (F' z)))) _:=h11.perm (by ac_rfl)
   obtain⟨tJ,oL⟩:=HO.af;obtain⟨eA,eF⟩:=Xt.af;refine gC.2 ⟨{ x2 with av:= .slice a2 (s.acts.length+1) c2,kA:=x2.kA++ [(s.pool.mark,.slice aw ws.length cw)],h:=x2.h.un h2 },⟨tJ.on.sub (Hp.fE _ _),?_,?_,?_⟩,?_⟩
   · refine zD (tJ.acts.sub (Hp.fE _ _)) ⟨rfl,ws,?_,oL.sub (Hp.fE _ _)⟩
     have hl:(W z).length=ws.length:=oL.1.symm;dsimp only;rw [hl];exact hrow.sub (Hp.fZ sP)
   · exact tJ.f0
   · show (S z).floor+(((S z).acts++ [_]).length:Nat)≤ _
     rw [eA,eF,au];simp only [List.length_cons,List.length_nil];omega
   · refine h12.right.perm ?_
     unfold fc
     have e1:((S z).tY ⟨s.pool.mark,W z⟩).acts.length=s.acts.length+1:=by
      show ((S z).acts++ [_]).length=_
      rw [eA,au];rfl
     have e2:((S z).tY ⟨s.pool.mark,W z⟩).floor=s.floor:=eF
     have e3:eI (x2.kA++ [(s.pool.mark,.slice aw ws.length cw)])=eI x2.kA++ [.int .i64 s.pool.mark,.slice aw ws.length cw]:=by
      unfold eI;rw [aN];rfl
     dsimp only;rw [e1,e2,e3];show _=(Pr.star _ ((eP x2.p (S z).pool).star _)).star _
     ac_rfl
 · obtain⟨x2,wv,ws,tJ,oL,h5⟩:=j3.1 h4
   have h6:Sat ((Row 194 7 wv ws.length (ws.flatMap gI.cells)).star ((Pr.own x2.h).star ((Pr.pts w1.heap.size (.cells #[.int .i64 s.pool.mark,wv] 169)).star (((Pr.pts v (.cells #[.pointer (some ⟨x2.p,0,none⟩),.map (some x2.mb),x2.av,.int .i64 (S z).floor] 108)).star ((eP x2.p (S z).pool).star ((fD Tryz.prog 3 x2.mb x2.f).star (Row 169 2 x2.av (S z).acts.length (eI x2.kA))))).star (F' z))))) w2:=h5.perm (by unfold kr fc;ac_rfl)
   obtain⟨aw,cw,ew,_,_⟩:=Row.read h6;subst ew;have q0:w2.cell? ⟨w1.heap.size,0,none⟩=some (.int .i64 s.pool.mark):=by rw [cell_of_heap h6.right.right.dL];rfl
   have q1:w2.cell? ⟨w1.heap.size,1,none⟩=some (.slice aw ws.length cw):=by rw [cell_of_heap h6.right.right.dL];rfl
   obtain⟨h2,hrow,h7⟩:=wP (Q:=fun y=>gj y 7 (.slice aw ws.length cw) ws.length (ws.flatMap gI.cells)) h6 (fun y hy=>Row.jh hy);obtain⟨sP,h8⟩:=Sat.jT (h7.perm (Pr.eD _ _ _))
   have h9:Sat ((fc v (S z) { x2 with h:=x2.h.un h2 }).star ((Pr.pts w1.heap.size (.cells #[.int .i64 s.pool.mark,.slice aw ws.length cw] 169)).star (F' z))) w2:=h8.perm (by unfold fc;dsimp only;ac_rfl)
   have hB:=Lk v (S z) { x2 with h:=x2.h.un h2 } s.pool.acts.length s.pool.counts (.slice aw ws.length cw) ws (hrow.sub (Hp.fZ sP)) (by rw [oL.1];exact mid.len) (fun X hX=>by
    obtain⟨i,hi,rfl⟩:=bF hX
    have xd:i<(W z).length:=by rw [← oL.1];exact hi
    obtain⟨r1,r2,r3,_⟩:=oL.2 i hi xd
    exact⟨by rw [r1];exact mid.XE _ (aE xd),r2,r3⟩) _ w2 h9 mid.pl mid.trail
   rw [mid.pf] at hB;have hmk:s.pool.mark=s.pool.floor+(s.pool.acts.length:Nat):=rfl;rw [← hmk] at hB;have PU:({ (S z).pool with counts:=s.pool.counts,acts:=(S z).pool.acts.take s.pool.acts.length }:ef)=s.pool:=mid.Jc
   have hback:po (x2.h.un h2) (qs x2.f (kx ws)) s.on:=by
    rw [← mid.back];exact I4 (oL.sub (Hp.fE _ _)) (tJ.on.sub (Hp.fE _ _))
   have hvs:({ S z with pool:=s.pool }:eC).acts=s.acts:=mid.va;have HB:=hQ hB;have xB:=hQ tJ;have Tq:=hQ (And.intro hback PU);have Jd:=hQ mid;have fa:=hQ (eR.af.trans jq);have hEb:(E z != 0)=true:=by rw [bne_iff_ne];exact hE
   have HE:=hQ hE;have HZ:=hQ hz;clear h4 h5 h6 h7 h8 h9 hrow sP hB PU hback tJ oL mid jq eR D HR hE hz hvs hmk;go_wp2_with fail
   refine HB.af.mono ?_;rintro e w3 ⟨rfl,h10,mP⟩;have QB:=hQ h10;clear h10 HB q0 q1;go_wp2;go_ret;refine⟨fa.af.trans mP,z,HZ.af,rfl,?_⟩;rw [if_neg HE.af]
   have h11:=QB.af.perm (B:=(Pr.pts w1.heap.size (.cells #[.int .i64 s.pool.mark,.slice aw ws.length cw] 169)).star ((fc v { S z with pool:= { (S z).pool with counts:=s.pool.counts,acts:=(S z).pool.acts.take s.pool.acts.length } } { x2 with h:=x2.h.un h2,f:=qs x2.f (kx ws) }).star (F' z))) (by ac_rfl);rw [Tq.af.2] at h11
   refine gC.2 ⟨{ x2 with h:=x2.h.un h2,f:=qs x2.f (kx ws) },⟨Tq.af.1,?_,?_,?_⟩,h11.right.perm ?_⟩
   · rw [← Jd.af.va];exact xB.af.acts.sub (Hp.fE _ _)
   · rw [← Jd.af.vf];exact xB.af.f0
   · rw [← Jd.af.vf, ← Jd.af.va];exact xB.af.fb
   · unfold fc
     dsimp only;rw [Jd.af.va,Jd.af.vf]
end Go.Proofs.YtiegeadmgpanoaaGreatDoor.D2
