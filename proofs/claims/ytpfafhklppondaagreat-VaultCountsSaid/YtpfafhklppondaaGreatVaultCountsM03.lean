/- A map with integer keys as a function, owned whole: read, written, struck. Plain lemmas over any program. -/
import Derived.Test.YtpfafhklppondaaGreatVaultCountsM02
import Derived.Maps.Own
import Derived.Test.YtpfafhklppondaaGreatVaultCountsM01
import Derived.Maps.OwnSet
set_option maxRecDepth 100000
set_option maxHeartbeats 16000000
namespace Go.Sl
open Go.Maps Go.ChangeMaps Go.MapKept Go.WideShapes
open Go.WideElems (Fit rd rg pl rd_key rd_val rg_of)
def heldR(v:Value):Option (DataW Value × List MemPlace):=some (.held v,[])
def MapFn(P:Program)(k:TypeId)(es:Array MapEntry)(f:Int→Option Value):Prop:=
 ∀n v,f n=some v↔(Lit.int .i64 n,DataW.held v)∈(es.toList.map (rg P k heldR)).foldr DataW.insert []
def SmallKeys(f:Int→Option Value):Prop:= ∀n v,f n=some v→1≤n∧n≤65536
def MapA(P:Program)(k:TypeId)(b:Nat)(f:Int→Option Value):Pr:=
 Pr.ex fun x:Array MapEntry × Nat=>(Pr.pure (Fit P k heldR x.1 x.2∧MapFn P k x.1 f∧SmallKeys f)).star (Pr.pts b (.map x.1 x.2))
section
variable {P:Program}{k:TypeId}{b:Nat}{f:Int→Option Value}{F:Pr}{w:World}
theorem mapA_iff:Sat ((MapA P k b f).star F) w↔∃es clock,Fit P k heldR es clock∧MapFn P k es f∧SmallKeys f∧Sat ((Pr.pts b (.map es clock)).star F) w:=by
 unfold MapA;rw [Sat.ex];constructor
 · rintro⟨⟨es,c⟩,h⟩
   rw [Pr.star_assoc] at h;obtain⟨⟨h1,h2,h3⟩,h4⟩:=Sat.pure.1 h;exact⟨es,c,h1,h2,h3,h4⟩
 · rintro⟨es,c,h1,h2,h3,h4⟩
   refine⟨(es,c),?_⟩;rw [Pr.star_assoc];exact Sat.pure.2 ⟨⟨h1,h2,h3⟩,h4⟩
theorem key_int(hk:P.underlying k=some (.int .i64)){v:Value}{l:Lit}(h:keyOf P k v=some l):∃n,v= .int .i64 n∧l= .int .i64 n:=by
 simp only [keyOf,hk] at h;cases v<;>simp [mapKey,hk] at h;obtain⟨h1,h2⟩:=h;obtain⟨h3,_⟩:=h1;subst h3;exact⟨_,rfl,h2.symm⟩
theorem key_mk(hk:P.underlying k=some (.int .i64)){n:Int}(hn:1≤n∧n≤65536):keyOf P k (.int .i64 n)=some (.int .i64 n):=by
 refine keyOf_int_mk hk ?_;have h1:IntKind.i64.min= -9223372036854775808:=by decide
 have h2:IntKind.i64.max=9223372036854775807:=by decide
 simp only [Lit.wf,Bool.and_eq_true,decide_eq_true_eq,h1,h2];omega
theorem mem_sorted(hk:P.underlying k=some (.int .i64)){es:Array MapEntry}{clock:Nat}(hF:Fit P k heldR es clock){p:Lit × DataW Value}:
 p∈(es.toList.map (rg P k heldR)).foldr DataW.insert []↔∃x n,x∈es.toList∧x.key= .int .i64 n∧p=(.int .i64 n,.held x.val):=by
 rw [(sorted_perm _).mem_iff,List.mem_map];constructor
 · rintro⟨x,hx,rfl⟩
   obtain⟨y,hy⟩:=hF.reads x hx;obtain⟨n,h1,h2⟩:=key_int hk (rd_key hy);obtain⟨z,h3,h4⟩:=rd_val hy;cases h3;refine⟨x,n,hx,h1,?_⟩;rw [rg_of hy];exact Prod.ext h2 h4
 · rintro⟨x,n,hx,h1,rfl⟩
   obtain⟨y,hy⟩:=hF.reads x hx;obtain⟨m,h2,h3⟩:=key_int hk (rd_key hy);obtain⟨z,h4,h5⟩:=rd_val hy;cases h4;refine⟨x,hx,?_⟩;rw [rg_of hy];rw [h1] at h2;cases h2;exact Prod.ext h3 h5
theorem sorted_len(L:List (Lit × DataW Value)):∀a:Int,L.Pairwise (fun p q=>p.1.before q.1=true)→(∀p∈L,∃n,p.1= .int .i64 n∧a≤n∧n≤65536)→(L.length:Int)≤max 0 (65537-a):=by
 induction L with
 | nil=>intro a _ _;simp;omega
 | cons p L ih=>
   intro a hp hm;obtain⟨h1,h2⟩:=List.pairwise_cons.1 hp;obtain⟨n,e,ha,hb⟩:=hm p (by simp)
   have:=ih (n+1) h2 (fun q hq=>by
    obtain⟨m,e2,_,h4⟩:=hm q (by simp [hq])
    have h5:=h1 q hq
    rw [e,e2] at h5
    simp [Lit.before] at h5
    exact⟨m,e2,by omega,h4⟩)
   simp only [List.length_cons];omega
theorem fit_small(hk:P.underlying k=some (.int .i64)){es:Array MapEntry}{clock:Nat}(hF:Fit P k heldR es clock)(hM:MapFn P k es f)(hs:SmallKeys f):es.size<maxLen:=by
 have K:=int_keyed (P:=P) hk
 have h1:=sorted_len _ 1 (sorted_sorted K.one _ (fit_keys hF) (fit_apart K hF)) (fun p hp=>by
  obtain⟨x,n,hx,hkx,rfl⟩:=(mem_sorted hk hF).1 hp
  have:=hs n x.val ((hM n x.val).2 hp)
  exact⟨n,rfl,this.1,this.2⟩)
 rw [length_sorted] at h1;simp only [List.length_map,Array.length_toList] at h1;simp only [maxLen];omega
theorem map_look(hk:P.underlying k=some (.int .i64)){t e:TypeId}(ht:P.underlying t=some (.map k e)){z:Value}(hz:(zeroValue e).run P w= .ok z w)(c:Bool){n:Int}(hn:1≤n∧n≤65536)(h:Sat ((MapA P k b f).star F) w):
 (Instr.lookup t (.map (some b)) (.int .i64 n) c).run P w= .ok (if c then .tuple #[(f n).getD z,.bool (f n).isSome] else(f n).getD z) w:=by
 obtain⟨es,clock,hF,hM,hs,hp⟩:=mapA_iff.1 h;rcases fit_look c (int_keyed hk) ht hz hp.pts_heap hF (key_mk hk hn) with⟨h1,h2,_⟩ | ⟨e0,y,h1,h2,h3,_⟩
 · have:f n=none:=by
    cases hf:f n with
    | none=>rfl
    | some v=>
      obtain⟨x,m,hx,hkx,hpx⟩:=(mem_sorted hk hF).1 ((hM n v).1 hf);cases hpx;exact absurd hkx (h2 x hx)
   rw [h1,this];rfl
 · have:f n=some e0.val:=(hM n e0.val).2 ((mem_sorted hk hF).2 ⟨e0,n,h1,h2,rfl⟩)
   rw [h3,this];rfl
theorem notKey_int {n m:Int}{v:DataW Value}:notKey (Lit.int .i64 n) (Lit.int .i64 m,v)=true↔m≠n:=by
 simp [notKey,Lit.sameKey]
theorem map_put(hk:P.underlying k=some (.int .i64)){t e:TypeId}(ht:P.underlying t=some (.map k e)){n:Int}(hn:1≤n∧n≤65536)(v:Value)(h:Sat ((MapA P k b f).star F) w):
 ∃w',(Instr.mapUpdate t (.map (some b)) (.int .i64 n) v).run P w= .ok () w'∧Sat ((MapA P k b (fun m=>if m=n then some v else f m)).star F) w'∧w.grownBy w' (some b):=by
 obtain⟨es,clock,hF,hM,hs,hp⟩:=mapA_iff.1 h;have hb:=hp.pts_heap;obtain⟨es',clock',hrun,F',hput,_⟩:=fit_store (R':=heldR) (int_keyed hk) ht hb hF (fit_small hk hF hM hs) (fun _ _ _ _ hz=>hz) (key_mk hk hn) (yv:=(.held v,[])) (val:=v) rfl
 refine⟨_,hrun,mapA_iff.2 ⟨es',clock',F',fun m u=> ?_,fun m u hu=> ?_,?_⟩,⟨rfl,rfl,rfl,by simp [setBlock],fun i _ hi=>heap_setBlock_other hb _ (fun e=>hi (by rw [e]))⟩⟩
 · rw [hput]
   unfold putKey;rw [mem_insert_iff,List.mem_filter,notKey_int, ← hM];by_cases hm:m=n
   · subst hm;simp;exact eq_comm
   · simp [hm]
 · by_cases hm:m=n
   · subst hm;exact hn
   · exact hs m u (by simpa [hm] using hu)
 · exact hp.put (heap_setBlock_same hb _) (fun i _ hi=>heap_setBlock_other hb _ hi)
theorem map_del(hk:P.underlying k=some (.int .i64)){t e ty:TypeId}(ht:P.underlying t=some (.map k e)){n:Int}(hn:1≤n∧n≤65536)(h:Sat ((MapA P k b f).star F) w):
 ∃w',(Builtin.delete_ #[t,k] ty #[.map (some b),.int .i64 n]).run P w= .ok (.tuple #[]) w'∧Sat ((MapA P k b (fun m=>if m=n then none else f m)).star F) w'∧w.grownBy w' (some b):=by
 obtain⟨es,clock,hF,hM,hs,hp⟩:=mapA_iff.1 h;have hb:=hp.pts_heap;obtain⟨es',hrun,F',_,hput,_⟩:=fit_drop (ty:=ty) (int_keyed hk) ht hb hF (key_mk hk hn);refine⟨_,hrun,mapA_iff.2 ⟨es',clock,F',fun m u=> ?_,fun m u hu=> ?_,?_⟩,⟨rfl,rfl,rfl,by simp [setBlock],fun i _ hi=>heap_setBlock_other hb _ (fun e=>hi (by rw [e]))⟩⟩
 · rw [hput]
   unfold delKey;rw [List.mem_filter,notKey_int, ← hM];by_cases hm:m=n
   · subst hm;simp
   · simp [hm]
 · by_cases hm:m=n
   · simp [hm] at hu
   · exact hs m u (by simpa [hm] using hu)
 · exact hp.put (heap_setBlock_same hb _) (fun i _ hi=>heap_setBlock_other hb _ hi)
theorem map_made(h:Sat F w):Sat ((MapA P k w.heap.size fun _=>none).star F) (w.alloc (.map #[] 0)):=
 mapA_iff.2 ⟨#[],0,⟨by simp,stamped_empty 0,by simp⟩,fun n v=>by simp,(fun n v h=>by cases h),h.alloc _⟩
theorem wpList_look {ops:Array Oper}{rest:List Oper}{o:Oper}{a:Act}{Q:Exit→Act→World→Prop}(hgd:o.guard=none)(m x:Operand)(t:TypeId)(c:Bool)(hop:o.op=Op.lookup t m x c)
 (hk:P.underlying k=some (.int .i64)) {e:TypeId} (ht:P.underlying t=some (.map k e)) (z:Value) (hz:(zeroValue e).run P w= .ok z w) (n:Int) (hn:1≤n∧n≤65536)
 (hm:a.eval m= .map (some b)) (hx:a.eval x= .int .i64 n) (h:Sat ((MapA P k b f).star F) w)
 (hK:wpList P ops Q rest (a.put o.dst (if c then .tuple #[(f n).getD z,.bool (f n).isSome] else(f n).getD z)) w):wpList P ops Q (o :: rest) a w:=by
 refine wpList_plain hgd fun K' hK'=> ?_
 have hrun:=map_look hk ht hz c hn h;unfold Oper.wp;simp [execOp,hop,hm,hx,hrun,Result.andThen]
 exact hK' _ _ hK
theorem wpList_put {ops:Array Oper}{rest:List Oper}{o:Oper}{a:Act}{Q:Exit→Act→World→Prop}(hgd:o.guard=none)(m x u:Operand)(t:TypeId)(hop:o.op=Op.mapUpdate t m x u)
 (hk:P.underlying k=some (.int .i64)) {e:TypeId} (ht:P.underlying t=some (.map k e)) (n:Int) (hn:1≤n∧n≤65536) (v:Value)
 (hm:a.eval m= .map (some b)) (hx:a.eval x= .int .i64 n) (hv:a.eval u=v) (h:Sat ((MapA P k b f).star F) w)
 (hK:∀w',Sat ((MapA P k b (fun m=>if m=n then some v else f m)).star F) w'→w.grownBy w' (some b)→wpList P ops Q rest (a.put o.dst undef) w'):wpList P ops Q (o :: rest) a w:=by
 refine wpList_plain hgd fun K' hK'=> ?_
 obtain⟨w',hrun,h1,h2⟩:=map_put hk ht hn v h;unfold Oper.wp;simp [execOp,hop,hm,hx,hv,hrun,Result.andThen]
 exact hK' _ _ (hK w' h1 h2)
theorem wpList_del {ops:Array Oper}{rest:List Oper}{o:Oper}{a:Act}{Q:Exit→Act→World→Prop}(hgd:o.guard=none)(m x:Operand)(t:TypeId)
 (hop:o.op= .call { callee:= .builtin .delete,args:= #[m,x],argTypes:= #[t,k] })
 (hk:P.underlying k=some (.int .i64)) {e:TypeId} (ht:P.underlying t=some (.map k e)) (n:Int) (hn:1≤n∧n≤65536)
 (hm:a.eval m= .map (some b)) (hx:a.eval x= .int .i64 n) (h:Sat ((MapA P k b f).star F) w)
 (hK:∀w',Sat ((MapA P k b (fun m=>if m=n then none else f m)).star F) w'→w.grownBy w' (some b)→wpList P ops Q rest (a.put o.dst (.tuple #[])) w'):wpList P ops Q (o :: rest) a w:=by
 refine wpList_plain hgd fun K' hK'=> ?_
 obtain⟨w',hrun,h1,h2⟩:=map_del (ty:=o.type) hk ht hn h;unfold Oper.wp execOp;simp only [hop,resolve,invoke,builtin,Sem.run_bind,Sem.run_pure,Result.andThen_ok,List.map_toArray,List.map_cons,List.map_nil,hm,hx,hrun];exact hK' _ _ (hK w' h1 h2)
end
end Go.Sl
namespace Go.Sl
inductive PTree where
  | done
  | act (x : Nat) (E C : List Nat) (t : PTree)
  | alt (s t : PTree)
def PTree.firsts:PTree→List Nat
 | .done=> []
 | .act x _ _ _=> [x]
 | .alt s t=>s.firsts++t.firsts
def coverOk(ops:Array Oper)(D fs:List Nat):Bool:=(List.range ops.size).all fun i=>D.contains i || fs.contains i || (match ops[i]? with
     | none=>true
     | some o=>o.after.any fun e=>Region.binds .any e && !D.contains e.on)
def treeOk(ops:Array Oper):List Nat→List Nat→PTree→Bool
 | D,_,.done=>(List.range ops.size).all fun i=>D.contains i
 | D,Fd,.act x E C t=> !D.contains x && decide (x<ops.size) && (D.all fun i=>C.contains i || Fd.contains i || (ops[x]?).any fun o=>bindsOn o i) && orderOk ops (D++ [x]) E &&
     coverOk ops (D++x :: E) t.firsts && treeOk ops (D++x :: E) (Fd++x :: D.filter fun i=>(ops[x]?).any fun o=>bindsOn o i) t
 | D,Fd,.alt s t=>treeOk ops D Fd s && treeOk ops D Fd t
def wpTree(P:Program)(ops:Array Oper)(Q:Exit→Act→World→Prop):PTree→Act→World→Prop
 | .done,f,w=>Q .normal f w
 | .act x E C t,f,w=>match ops[x]? with
   | none=>False
   | some o=>wpList P ops (onN fun f1 w1=>wpQ P ops E (fun f2=>Chk P ops C f2 w1∧wpTree P ops Q t f2 w1) f1 w1) [o] f w
 | .alt s t,f,w=>wpTree P ops Q s f w∧wpTree P ops Q t f w
theorem tree_find {P:Program}{ops:Array Oper}{Q:Exit→Act→World→Prop}{D Fd:List Nat}{x:Nat}{f:Act}{w:World}:∀(t:PTree),treeOk ops D Fd t=true→x∈t.firsts→wpTree P ops Q t f w→∃E C t',treeOk ops D Fd (.act x E C t')=true∧wpTree P ops Q (.act x E C t') f w
 | .done,_,hx,_=>by cases hx
 | .act y E C t,ht,hx,hw=>by
   obtain rfl:x=y:=by simpa [PTree.firsts] using hx
   exact⟨E,C,t,ht,hw⟩
 | .alt s t,ht,hx,hw=>by
   simp only [treeOk,Bool.and_eq_true] at ht;rcases List.mem_append.1 hx with h | h
   · exact tree_find s ht.1 h hw.1
   · exact tree_find t ht.2 h hw.2
theorem tree_end {P:Program}{ops:Array Oper}{Q:Exit→Act→World→Prop}{D Fd:List Nat}{f:Act}{w:World}(hall:∀i,i<ops.size→i∈D):∀(t:PTree),treeOk ops D Fd t=true→wpTree P ops Q t f w→Q .normal f w
 | .done,_,hw=>hw
 | .act y E C t,ht,hw=>by
   simp only [treeOk,Bool.and_eq_true] at ht;obtain⟨⟨⟨⟨⟨h1,h2⟩,_⟩,_⟩,_⟩,_⟩:=ht;have:=hall y (by simpa using h2)
   simp [this] at h1
 | .alt s t,ht,hw=>by
   simp only [treeOk,Bool.and_eq_true] at ht;exact tree_end hall s ht.1 hw.1
section
variable {P:Program}{ops:Array Oper}{sz:Nat}
theorem tree_any {Q:Exit→Act→World→Prop}(hs:slotsOk ops sz=true):∀(fuel:Nat) (L:Array Bool) (a:Act) (w:World) (D Fd:List Nat) (tr:PTree) (f:Act),
 coverOk ops D tr.firsts=true→treeOk ops D Fd tr=true→L.size=ops.size→unl ops L=fuel→f.tmps.size=sz→Agree ops L a f→(∀i,i<ops.size→Lst L i→i∈D)→(∀i∈Fd,Lst L i)→
 (∀i∈D,¬Lst L i→YieldF P ops i f w)→wpTree P ops Q tr f w→wpAny P .any ops Q fuel L a w:=by
 intro fuel;induction fuel with
 | zero=>
   intro L a w D Fd tr f hcov hp hL hu hfs hA hsub hFd hY hc
   have hall:∀i,i<ops.size→Lst L i:=fun i hi=>by
    have h0:(List.range ops.size).filter (fun i=> !L.getD i true)= []:=List.eq_nil_of_length_eq_zero hu;have:=List.filter_eq_nil_iff.1 h0 i (List.mem_range.2 hi)
    simpa [Lst] using this
   have hnil:Region.ready .any ops L= []:=by
    cases hr:Region.ready .any ops L with
    | nil=>rfl
    | cons j js=>
      have hj:j∈Region.ready .any ops L:=by rw [hr];exact List.mem_cons_self
      obtain⟨h1,h2,_⟩:=ready_mem.1 hj;exact absurd (hall j h1) h2
   refine⟨hnil,?_⟩;rw [agree_all hA hall];exact tree_end (fun i hi=>hsub i hi (hall i hi)) tr hp hc
 | succ fuel ih=>
   intro L a w D Fd tr f hcov hp hL hu hfs hA hsub hFd hY hc;refine⟨fun hnil=> ?_,fun i hi=> ?_⟩
   · exfalso
     have hne:(List.range ops.size).filter (fun i=> !L.getD i true)≠ []:=fun e=>by unfold unl at hu;rw [e] at hu;simp at hu
     obtain⟨j,hj⟩:=List.exists_mem_of_ne_nil _ hne;rw [List.mem_filter,List.mem_range] at hj;obtain⟨k,hk⟩:=unlisted_ready hs hL j j (Nat.le_refl _) hj.1 (by unfold Lst;simpa using hj.2);rw [hnil] at hk;cases hk
   · obtain⟨hin,hul,o,ho,hdeps⟩:=ready_mem.1 hi
     obtain⟨hn,hlt,_,hdd⟩:=slots_at hs ho;have hlook:∀t∈o.looksAt ops,a.tmps[t]? =f.tmps[t]? :=fun t ht=>hA.2.2 t fun j hj=>(dep_listed hdeps ((hdd j t hj).1 ht)).1
     obtain⟨he,hw⟩:=exec_same hn hlook;have hL':(L.setIfInBounds i true).size=ops.size:=by simpa using hL
     have hu':unl ops (L.setIfInBounds i true)=fuel:=by have:=unl_set (L:=L) hin hul;omega
     have hdst:∀j t,dstOf ops j=some t→j<ops.size:=fun j t hj=>by
      unfold dstOf at hj;cases hx:ops[j]? with
      | none=>simp [hx] at hj
      | some _=>exact(Array.getElem?_eq_some_iff.1 hx).1
     by_cases hD:i∈D
     ·
      have put:∀v,(∀d,o.dst=some d→f.tmps[d]? =some v)→wpAny P .any ops Q fuel (L.setIfInBounds i true) (a.put o.dst v) w:=by
       intro v hv;refine ih _ _ w D Fd tr f hcov hp hL' hu' hfs ⟨by rw [put_size];exact hA.1,by rw [put_defs];exact hA.2.1,fun t ht=> ?_⟩ (fun j hj hl=> ?_) (fun j hj=>lst_set.2 (.inr (hFd j hj))) (fun j hj hl=>hY j hj fun h=>hl (lst_set.2 (.inr h))) hc
       · by_cases hdt:o.dst=some t
         · rw [hdt,put_self (by rw [hA.1,hfs];exact hlt t hdt),hv t hdt]
         · rw [put_at hdt]
           refine hA.2.2 t fun j hj=> ?_
           rcases lst_set.1 (ht j hj) with rfl | h
           · rw [dstOf_at ho] at hj;exact absurd hj hdt
           · exact h
       · rcases lst_set.1 hl with rfl | h
         · exact hD
         · exact hsub j hj h
      have hy:=hY i hD hul;simp only [YieldF,ho] at hy;unfold wpOp;simp only [ho];rcases hy with⟨hwt,v,hr,hv⟩ | ⟨hwf,hv⟩
      · rw [hw,hwt]
        simp only [if_true];refine .inl ?_;unfold Oper.wp;rw [he,hr];exact put v hv
      · rw [hw,hwf]
        simp only [Bool.false_eq_true,if_false];exact put undef hv
     ·
      have hix:i∈tr.firsts:=by
       have:=List.all_eq_true.1 hcov i (List.mem_range.2 hin)
       simp only [Bool.or_eq_true,ho] at this;rcases this with(t | t) | t
       · exact absurd (by simpa using t) hD
       · simpa using t
       · exfalso
         obtain⟨e,hem,heb⟩:=any_mem t;simp only [Bool.and_eq_true] at heb;obtain⟨hl,hlt2⟩:=lst_of_getD (hdeps e hem heb.1);have:=hsub e.on (by omega) hl
         simp [this] at heb
      obtain⟨E,C,rest,g5,hc⟩:=tree_find tr hp hix hc;simp only [treeOk,Bool.and_eq_true] at g5;obtain⟨⟨⟨⟨⟨h1,h2⟩,h4⟩,h5⟩,h7⟩,h6⟩:=g5;have hnin:=order_nin _ _ h5
      have step:∀v ds w',wpQ P ops E (fun f2=>Chk P ops C f2 w'∧wpTree P ops Q rest f2 w') (({ f with defers:=ds }:Act).put o.dst v) w'→
       wpAny P .any ops Q fuel (L.setIfInBounds i true) (({ a with defers:=ds }:Act).put o.dst v) w':=by
       intro v ds w' hq;obtain⟨f2,⟨hC,hcont⟩,hf2s,hf2d,hf2t,hf2y⟩:=wpQ_out hs E _ _ _ h5 (by rw [put_size];exact hfs) hq;refine ih _ _ w' (D++i :: E) _ rest f2 h7 h6 hL' hu' hf2s ⟨by rw [put_size,hf2s];exact hA.1.trans hfs,by rw [put_defs,hf2d,put_defs],fun t ht=> ?_⟩ (fun j hj hl=> ?_) (fun j hj=> ?_) (fun j hj hl=> ?_) hcont
       · rw [hf2t t (fun j hj e=>by
          have hl:=ht j e
          obtain⟨hj1,hj2⟩:=hnin j hj
          rcases lst_set.1 hl with rfl | h
          · exact hj1 (by simp)
          · exact hj1 (List.mem_append_left _ (hsub j hj2 h)))]
         by_cases hdt:o.dst=some t
         · rw [hdt,put_self (by show t<a.tmps.size;rw [hA.1,hfs];exact hlt t hdt),put_self (by show t<f.tmps.size;rw [hfs];exact hlt t hdt)]
         · rw [put_at hdt,put_at hdt]
           refine hA.2.2 t fun j hj=> ?_
           rcases lst_set.1 (ht j hj) with rfl | h
           · rw [dstOf_at ho] at hj;exact absurd hj hdt
           · exact h
       · rcases lst_set.1 hl with rfl | h
         · simp
         · exact List.mem_append_left _ (hsub j hj h)
       · rcases List.mem_append.1 hj with h | h
         · exact lst_set.2 (.inr (hFd j h))
         · rcases List.mem_cons.1 h with rfl | h
           · exact lst_set.2 (.inl rfl)
           · rw [List.mem_filter] at h
             have hb:=h.2;simp only [ho,Option.any_some] at hb;exact lst_set.2 (.inr (dep_listed hdeps hb).1)
       · rcases List.mem_append.1 hj with h | h
         · have:=List.all_eq_true.1 h4 j h
           simp only [Bool.or_eq_true,ho,Option.any_some] at this;rcases this with(t | t) | t
           · exact hC j (by simpa using t)
           · exact absurd (lst_set.2 (.inr (hFd j (by simpa using t)))) hl
           · exact absurd (lst_set.2 (.inr (dep_listed hdeps t).1)) hl
         · rcases List.mem_cons.1 h with rfl | h
           · exact absurd (lst_set.2 (.inl rfl)) hl
           · exact hf2y j h
      simp only [wpTree,ho,wpList] at hc;unfold wpOp;simp only [ho];rw [hw];split
      · rename_i hwt
        rw [if_pos hwt] at hc;rcases hc with hc | ⟨_,_,_,hf⟩
        · exact .inl (oper_wp_rel he hA.2.1 (fun v ds w' h=>step v ds w' h) hc)
        · exact(hf:False).elim
      · rename_i hwf
        rw [if_neg hwf] at hc;have:=step undef f.defers w hc
        rw [← hA.2.1] at this;exact this
theorem wp_region_tree {Q:Exit→Act→World→Prop}{id:Nat}{a:Act}{w:World}(hm:P.follows .mixedOrders=true)(E0:List Nat)(tr:PTree)
 (hsz:a.tmps.size=sz) (hs:slotsOk ops sz=true) (ho:orderOk ops [] E0=true) (hq:coverOk ops E0 tr.firsts=true) (hp:treeOk ops E0 [] tr=true)
 (h:wpQ P ops E0 (fun f=>wpTree P ops Q tr f w.drew) a w.drew):(Code.region id ops true).wp P Q a w:=by
 refine wp_region_any hm ?_;obtain⟨f,hc,hfs,hfd,hft,hfy⟩:=wpQ_out hs E0 _ _ _ ho hsz h;have hno:∀i,i<ops.size→¬Lst (Array.replicate ops.size false) i:=fun i hi h=>by simp [Lst,hi,Array.getD_eq_getD_getElem?] at h
 refine tree_any hs _ _ _ _ E0 [] tr f hq hp (by simp) ?_ hfs ⟨hsz.trans hfs.symm,hfd.symm,fun t ht=>(hft t fun j hj e=> ?_).symm⟩ (fun i hi hl=>absurd hl (hno i hi)) (fun i hi=>by cases hi) (fun i hi _=>hfy i hi) hc
 · unfold unl
   rw [List.filter_eq_self.2]
   · simp
   · intro i hi
     have:=hno i (List.mem_range.1 hi)
     simpa [Lst] using this
 · have hj2:=(order_nin _ _ ho j hj).2
   exact hno j hj2 (ht j e)
theorem wpTree_act {Q:Exit→Act→World→Prop}{x:Nat}{E C:List Nat}{t:PTree}{f:Act}{w:World}{o:Oper}(ho:ops[x]? =some o)
 (h:wpList P ops (onN fun f1 w1=>wpQ P ops E (fun f2=>Chk P ops C f2 w1∧wpTree P ops Q t f2 w1) f1 w1) [o] f w):wpTree P ops Q (.act x E C t) f w:=by
 simp only [wpTree,ho];exact h
theorem wpTree_alt {Q:Exit→Act→World→Prop}{s t:PTree}{f:Act}{w:World}(h1:wpTree P ops Q s f w)(h2:wpTree P ops Q t f w):wpTree P ops Q (.alt s t) f w:=⟨h1,h2⟩
theorem wpTree_done {Q:Exit→Act→World→Prop}{f:Act}{w:World}(h:Q .normal f w):wpTree P ops Q .done f w:=h
end
end Go.Sl
namespace Go.Sl
open Go.Maps Go.ChangeMaps Go.MapKept Go.WideShapes
open Go.WideElems (Fit rd rg pl rd_key rd_val rg_of)
section
variable {P:Program}{k:TypeId}{b:Nat}{f:Int→Option Value}{F:Pr}{w:World}
end
end Go.Sl
namespace Go.Sl
open Go.RowKit
theorem wpList_appN {P:Program}{F:Pr}{w:World}{ops:Array Oper}{rest:List Oper}{o:Oper}{a:Act}{Q:Exit→Act→World→Prop}(hgd:o.guard=none)(s x:Operand)(t:TypeId)
 (ho:o.op= .call { callee:= .builtin .append,args:= #[s,x],argTypes:= #[t,t] })
 (e:TypeId) (i:TypeInfo) (z:Value) (size bytes:Nat) (ht:P.underlying t=some (.slice e)) (hi:P.info? e=some i) (hz:i.zero=some z)
 (hsize:i.size=size) (hby:i.bytes=bytes) (hzs:z.cells.size=size)
 (v:Value) (n:Nat) (xs:List Value) (hs:a.eval s=v) (hown:Sat ((Row e size v n xs).star F) w)
 (ad:Addr) (m c:Nat) (news:List Value) (hx:a.eval x= .slice (some ad) m c) (hl:news.length=m*size) (hnews:∀j u,news[j]? =some u→w.cell? (ad.add j)=some u) (h1:∀u∈news,u.oneCell'=true)
 (h63:n+m≤maxLen) (hbytes:(n+m)*bytes≤140737488355328)
 (h:∀v' w',Sat ((Row e size v' (n+m) (xs++news)).star F) w'→w.grownBy w' v.ownBlock→∀K:Act→Prop,(∀a',wpList P ops Q rest a' w'→K a')→K (a.put o.dst v')):wpList P ops Q (o :: rest) a w:=
 wpList_append_sl hgd s x t ho e i z size bytes ht hi hz hsize hby hzs v n xs hs hown ad m c news hx hl hnews h1 h63 hbytes fun v' w' h2 h3 _=>h v' w' h2 h3 _ fun _ h=>h
theorem wpQ_lookN {P:Program}{ops:Array Oper}{i:Nat}{l:List Nat}{N:Act→Prop}{a:Act}{w:World}{o:Oper}{t:TypeId}{m x:Operand}{c:Bool}{v:Value}(ho:ops[i]? =some o)(hop:o.op= .lookup t m x c)(hw:Region.wanted o (yielded ops a.tmps)=true)
 (hrun:(Instr.lookup t (a.eval m) (a.eval x) c).run P w= .ok v w) (h:∀K:Act→Prop,(∀a',wpQ P ops l N a' w→K a')→K (a.put o.dst v)):wpQ P ops (i :: l) N a w:=
 wpQ_look ho hop hw hrun (h _ fun _ h=>h)
end Go.Sl
