/- A map with integer keys as a function, owned whole: read, written, struck. Plain lemmas over any program. -/
import Derived.Test.YtiegeadmgpanoaaGreatDoorL02
set_option maxRecDepth 100000
set_option maxHeartbeats 16000000
namespace Go.Sl
open Go.Maps Go.ChangeMaps Go.MapKept Go.WideShapes
open Go.WideElems (Fit rd rg pl rd_key rd_val rg_of)
def tg(v:Value):Option (DataW Value × List MemPlace):=some (.held v,[])
def Ku(P:Program)(k:TypeId)(es:Array MapEntry)(f:Int→Option Value):Prop:=
 ∀n v,f n=some v↔(Lit.int .i64 n,DataW.held v)∈(es.toList.map (rg P k tg)).foldr DataW.insert []
def uN(f:Int→Option Value):Prop:= ∀n v,f n=some v→1≤n∧n≤65536
def fD(P:Program)(k:TypeId)(b:Nat)(f:Int→Option Value):Pr:=
 Pr.ex fun x:Array MapEntry × Nat=>(Pr.pure (Fit P k tg x.1 x.2∧Ku P k x.1 f∧uN f)).star (Pr.pts b (.map x.1 x.2))
section
variable {P:Program}{k:TypeId}{b:Nat}{f:Int→Option Value}{F:Pr}{w:World}
theorem om:Sat ((fD P k b f).star F) w↔∃es clock,Fit P k tg es clock∧Ku P k es f∧uN f∧Sat ((Pr.pts b (.map es clock)).star F) w:=by
 unfold fD;rw [Sat.ex];constructor
 · rintro⟨⟨es,c⟩,h⟩
   rw [Pr.dP] at h;obtain⟨⟨h1,h2,h3⟩,h4⟩:=Sat.pure.1 h;exact⟨es,c,h1,h2,h3,h4⟩
 · rintro⟨es,c,h1,h2,h3,h4⟩
   refine⟨(es,c),?_⟩;rw [Pr.dP];exact Sat.pure.2 ⟨⟨h1,h2,h3⟩,h4⟩
theorem GH(hk:P.underlying k=some (.int .i64)){v:Value}{l:Lit}(h:keyOf P k v=some l):∃n,v= .int .i64 n∧l= .int .i64 n:=by
 simp only [keyOf,hk] at h;cases v<;>simp [mapKey,hk] at h;obtain⟨h1,h2⟩:=h;obtain⟨h3,_⟩:=h1;subst h3;exact⟨_,rfl,h2.symm⟩
theorem EC(hk:P.underlying k=some (.int .i64)){n:Int}(hn:1≤n∧n≤65536):keyOf P k (.int .i64 n)=some (.int .i64 n):=by
 refine keyOf_int_mk hk ?_;have h1:IntKind.i64.min= -9223372036854775808:=by decide
 have h2:IntKind.i64.max=9223372036854775807:=by decide
 simp only [Lit.wf,aJ,decide_eq_true_eq,h1,h2];omega
theorem mem_sorted(hk:P.underlying k=some (.int .i64)){es:Array MapEntry}{clock:Nat}(hF:Fit P k tg es clock){p:Lit × DataW Value}:
 p∈(es.toList.map (rg P k tg)).foldr DataW.insert []↔∃x n,x∈es.toList∧x.key= .int .i64 n∧p=(.int .i64 n,.held x.val):=by
 rw [(sorted_perm _).mem_iff,bH];constructor
 · rintro⟨x,hx,rfl⟩
   obtain⟨y,hy⟩:=hF.reads x hx;obtain⟨n,h1,h2⟩:=GH hk (rd_key hy);obtain⟨z,h3,h4⟩:=rd_val hy;cases h3;refine⟨x,n,hx,h1,?_⟩;rw [rg_of hy];exact Prod.ext h2 h4
 · rintro⟨x,n,hx,h1,rfl⟩
   obtain⟨y,hy⟩:=hF.reads x hx;obtain⟨m,h2,h3⟩:=GH hk (rd_key hy);obtain⟨z,h4,h5⟩:=rd_val hy;cases h4;refine⟨x,hx,?_⟩;rw [rg_of hy];rw [h1] at h2;cases h2;exact Prod.ext h3 h5
theorem ED(L:List (Lit × DataW Value)):∀a:Int,L.Pairwise (fun p q=>p.1.before q.1=true)→(∀p∈L,∃n,p.1= .int .i64 n∧a≤n∧n≤65536)→(L.length:Int)≤max 0 (65537-a):=by
 induction L with
 | nil=>intro a _ _;simp;omega
 | cons p L ih=>
   intro a hp hm;obtain⟨h1,h2⟩:=cF.1 hp;obtain⟨n,e,ha,hb⟩:=hm p (by simp)
   have:=ih (n+1) h2 (fun q hq=>by
    obtain⟨m,e2,_,h4⟩:=hm q (by simp [hq])
    have h5:=h1 q hq
    rw [e,e2] at h5
    simp [Lit.before] at h5
    exact⟨m,e2,by omega,h4⟩)
   simp only [List.length_cons];omega
theorem Ie(hk:P.underlying k=some (.int .i64)){es:Array MapEntry}{clock:Nat}(hF:Fit P k tg es clock)(hM:Ku P k es f)(hs:uN f):es.size<maxLen:=by
 have K:=int_keyed (P:=P) hk
 have h1:=ED _ 1 (sorted_sorted K.one _ (fit_keys hF) (fit_apart K hF)) (fun p hp=>by
  obtain⟨x,n,hx,Kv,rfl⟩:=(mem_sorted hk hF).1 hp
  have:=hs n x.val ((hM n x.val).2 hp)
  exact⟨n,rfl,this.1,this.2⟩)
 rw [length_sorted] at h1;simp only [aH,Array.length_toList] at h1;simp only [maxLen];omega
theorem ti(hk:P.underlying k=some (.int .i64)){t e:TypeId}(ht:P.underlying t=some (.map k e)){z:Value}(hz:(zeroValue e).run P w= .ok z w)(c:Bool){n:Int}(hn:1≤n∧n≤65536)(h:Sat ((fD P k b f).star F) w):
 (Instr.lookup t (.map (some b)) (.int .i64 n) c).run P w= .ok (if c then .tuple #[(f n).getD z,.bool (f n).isSome] else(f n).getD z) w:=by
 obtain⟨es,clock,hF,hM,hs,hp⟩:=om.1 h;rcases fit_look c (int_keyed hk) ht hz hp.dL hF (EC hk hn) with⟨h1,h2,_⟩ | ⟨e0,y,h1,h2,h3,_⟩
 · have:f n=none:=by
    cases hf:f n with
    | none=>rfl
    | some v=>
      obtain⟨x,m,hx,Kv,hpx⟩:=(mem_sorted hk hF).1 ((hM n v).1 hf);cases hpx;exact absurd Kv (h2 x hx)
   rw [h1,this];rfl
 · have:f n=some e0.val:=(hM n e0.val).2 ((mem_sorted hk hF).2 ⟨e0,n,h1,h2,rfl⟩)
   rw [h3,this];rfl
theorem wZ {n m:Int}{v:DataW Value}:notKey (Lit.int .i64 n) (Lit.int .i64 m,v)=true↔m≠n:=by
 simp [notKey,Lit.sameKey]
theorem GI(hk:P.underlying k=some (.int .i64)){t e:TypeId}(ht:P.underlying t=some (.map k e)){n:Int}(hn:1≤n∧n≤65536)(v:Value)(h:Sat ((fD P k b f).star F) w):
 ∃w',(Instr.mapUpdate t (.map (some b)) (.int .i64 n) v).run P w= .ok () w'∧Sat ((fD P k b (fun m=>if m=n then some v else f m)).star F) w'∧w.grownBy w' (some b):=by
 obtain⟨es,clock,hF,hM,hs,hp⟩:=om.1 h;have hb:=hp.dL;obtain⟨es',clock',hrun,F',hput,_⟩:=fit_store (R':=tg) (int_keyed hk) ht hb hF (Ie hk hF hM hs) (fun _ _ _ _ hz=>hz) (EC hk hn) (yv:=(.held v,[])) (val:=v) rfl
 refine⟨_,hrun,om.2 ⟨es',clock',F',fun m u=> ?_,fun m u hu=> ?_,?_⟩,⟨rfl,rfl,rfl,by simp [setBlock],fun i _ hi=>heap_setBlock_other hb _ (fun e=>hi (by rw [e]))⟩⟩
 · rw [hput]
   unfold putKey;rw [mem_insert_iff,bm,wZ, ← hM];by_cases hm:m=n
   · subst hm;simp;exact eq_comm
   · simp [hm]
 · by_cases hm:m=n
   · subst hm;exact hn
   · exact hs m u (by simpa [hm] using hu)
 · exact hp.put (heap_setBlock_same hb _) (fun i _ hi=>heap_setBlock_other hb _ hi)
theorem wI(hk:P.underlying k=some (.int .i64)){t e ty:TypeId}(ht:P.underlying t=some (.map k e)){n:Int}(hn:1≤n∧n≤65536)(h:Sat ((fD P k b f).star F) w):
 ∃w',(Builtin.delete_ #[t,k] ty #[.map (some b),.int .i64 n]).run P w= .ok (.tuple #[]) w'∧Sat ((fD P k b (fun m=>if m=n then none else f m)).star F) w'∧w.grownBy w' (some b):=by
 obtain⟨es,clock,hF,hM,hs,hp⟩:=om.1 h;have hb:=hp.dL;obtain⟨es',hrun,F',_,hput,_⟩:=fit_drop (ty:=ty) (int_keyed hk) ht hb hF (EC hk hn);refine⟨_,hrun,om.2 ⟨es',clock,F',fun m u=> ?_,fun m u hu=> ?_,?_⟩,⟨rfl,rfl,rfl,by simp [setBlock],fun i _ hi=>heap_setBlock_other hb _ (fun e=>hi (by rw [e]))⟩⟩
 · rw [hput]
   unfold delKey;rw [bm,wZ, ← hM];by_cases hm:m=n
   · subst hm;simp
   · simp [hm]
 · by_cases hm:m=n
   · simp [hm] at hu
   · exact hs m u (by simpa [hm] using hu)
 · exact hp.put (heap_setBlock_same hb _) (fun i _ hi=>heap_setBlock_other hb _ hi)
theorem Cg(h:Sat F w):Sat ((fD P k w.heap.size fun _=>none).star F) (w.alloc (.map #[] 0)):=
 om.2 ⟨#[],0,⟨by simp,stamped_empty 0,by simp⟩,fun n v=>by simp,(fun n v h=>by cases h),h.alloc _⟩
theorem nb {ops:Array Oper}{rest:List Oper}{o:Oper}{a:Act}{Q:Exit→Act→World→Prop}(hgd:o.guard=none)(m x:Operand)(t:TypeId)(c:Bool)(hop:o.op=Op.lookup t m x c)
 (hk:P.underlying k=some (.int .i64)) {e:TypeId} (ht:P.underlying t=some (.map k e)) (z:Value) (hz:(zeroValue e).run P w= .ok z w) (n:Int) (hn:1≤n∧n≤65536)
 (hm:a.eval m= .map (some b)) (hx:a.eval x= .int .i64 n) (h:Sat ((fD P k b f).star F) w)
 (hK:wpList P ops Q rest (a.put o.dst (if c then .tuple #[(f n).getD z,.bool (f n).isSome] else(f n).getD z)) w):wpList P ops Q (o :: rest) a w:=by
 refine wpList_plain hgd fun K' hK'=> ?_
 have hrun:=ti hk ht hz c hn h;unfold Oper.wp;simp [execOp,hop,hm,hx,hrun,Result.andThen]
 exact hK' _ _ hK
theorem sy {ops:Array Oper}{rest:List Oper}{o:Oper}{a:Act}{Q:Exit→Act→World→Prop}(hgd:o.guard=none)(m x u:Operand)(t:TypeId)(hop:o.op=Op.mapUpdate t m x u)
 (hk:P.underlying k=some (.int .i64)) {e:TypeId} (ht:P.underlying t=some (.map k e)) (n:Int) (hn:1≤n∧n≤65536) (v:Value)
 (hm:a.eval m= .map (some b)) (hx:a.eval x= .int .i64 n) (hv:a.eval u=v) (h:Sat ((fD P k b f).star F) w)
 (hK:∀w',Sat ((fD P k b (fun m=>if m=n then some v else f m)).star F) w'→w.grownBy w' (some b)→wpList P ops Q rest (a.put o.dst undef) w'):wpList P ops Q (o :: rest) a w:=by
 refine wpList_plain hgd fun K' hK'=> ?_
 obtain⟨w',hrun,h1,h2⟩:=GI hk ht hn v h;unfold Oper.wp;simp [execOp,hop,hm,hx,hv,hrun,Result.andThen]
 exact hK' _ _ (hK w' h1 h2)
theorem EE {ops:Array Oper}{rest:List Oper}{o:Oper}{a:Act}{Q:Exit→Act→World→Prop}(hgd:o.guard=none)(m x:Operand)(t:TypeId)
 (hop:o.op= .call { callee:= .builtin .delete,args:= #[m,x],argTypes:= #[t,k] })
 (hk:P.underlying k=some (.int .i64)) {e:TypeId} (ht:P.underlying t=some (.map k e)) (n:Int) (hn:1≤n∧n≤65536)
 (hm:a.eval m= .map (some b)) (hx:a.eval x= .int .i64 n) (h:Sat ((fD P k b f).star F) w)
 (hK:∀w',Sat ((fD P k b (fun m=>if m=n then none else f m)).star F) w'→w.grownBy w' (some b)→wpList P ops Q rest (a.put o.dst (.tuple #[])) w'):wpList P ops Q (o :: rest) a w:=by
 refine wpList_plain hgd fun K' hK'=> ?_
 obtain⟨w',hrun,h1,h2⟩:=wI (ty:=o.type) hk ht hn h;unfold Oper.wp execOp;simp only [hop,resolve,invoke,builtin,Sem.run_bind,Sem.run_pure,Result.andThen_ok,cT,aT,aZ,hm,hx,hrun];exact hK' _ _ (hK w' h1 h2)
end
end Go.Sl
namespace Go.Sl
open Go.Maps Go.ChangeMaps Go.MapKept Go.WideShapes
open Go.WideElems (Fit rd rg pl rd_key rd_val rg_of)
section
variable {P:Program}{k:TypeId}{b:Nat}{f:Int→Option Value}{F:Pr}{w:World}
theorem NA(hk:P.underlying k=some (.int .i64)){t e:TypeId}(ht:P.underlying t=some (.map k e))(ty:TypeId)(h:Sat ((fD P k b f).star F) w):
 ∃n:Nat,(Builtin.len_ #[t] ty #[.map (some b)]).run P w= .ok (.int .i64 n) w∧∀H:List Int,H.Nodup→(∀m v,f m=some v→m∈H)→(n<H.length↔∃x∈H,f x=none):=by
 obtain⟨es,clock,hF,hM,hs,hp⟩:=om.1 h;have hb:=hp.dL;refine⟨es.size,by simp [Builtin.len_,run_underlying ht,MapKept.run_getObj_map hb,goInt,Result.andThen],fun H hH hsub=> ?_⟩;have K:=int_keyed (P:=P) hk;have hlen:((es.toList.map (rg P k tg)).foldr DataW.insert []).length=es.size:=by rw [length_sorted];simp
 have hso:=sorted_sorted K.one _ (fit_keys hF) (fit_apart K hF);generalize hL:(es.toList.map (rg P k tg)).foldr DataW.insert []=L at*
 have EF:∀p∈L,∃n v,p=(Lit.int .i64 n,DataW.held v)∧f n=some v:=by
  intro p hp';have:=(mem_sorted hk hF (p:=p)).1 (by rw [hL];exact hp')
  obtain⟨x,n,hx,Kv,rfl⟩:=this;refine⟨n,x.val,rfl,(hM n x.val).2 (by rw [hL];exact hp')⟩
 let num:Lit × DataW Value→Int:=fun p=>match p.1 with | .int _ n=>n | _=>0
 have hnd:(L.map num).Nodup:=by
  rw [List.nodup_iff_pairwise_ne,List.pairwise_map];refine List.Pairwise.imp_of_mem (R:=fun p q=>p.1.before q.1=true) ?_ hso;intro p q Em Sz hpq e;obtain⟨n,v,rfl,_⟩:=EF p Em;obtain⟨m,u,rfl,_⟩:=EF q Sz;have e':n=m:=e;subst e';simp [Lit.before] at hpq
 have hperm:(L.map num).Perm (H.filter fun x=>(f x).isSome):=by
  refine(List.perm_ext_iff_of_nodup hnd (hH.filter _)).2 fun x=> ?_
  rw [bH,bm];constructor
  · rintro⟨p,Em,rfl⟩
    obtain⟨n,v,rfl,hf⟩:=EF p Em;exact⟨hsub n v hf,by show (f n).isSome=true;rw [hf];rfl⟩
  · rintro⟨_,hx⟩
    obtain⟨v,hv⟩:=Option.isSome_iff_exists.1 hx;exact⟨(.int .i64 x,.held v),by have:=(hM x v).1 hv;rw [hL] at this;exact this,rfl⟩
 have e1:=hperm.length_eq;rw [aH,hlen] at e1;rw [e1,List.length_filter_lt_length_iff_exists];constructor
 · rintro⟨x,hx,hn⟩
   exact⟨x,hx,by simpa using hn⟩
 · rintro⟨x,hx,hn⟩
   exact⟨x,hx,by simpa using hn⟩
theorem EG {ops:Array Oper}{rest:List Oper}{o:Oper}{a:Act}{Q:Exit→Act→World→Prop}(hgd:o.guard=none)(m:Operand)(t:TypeId)
 (hop:o.op= .call { callee:= .builtin .len,args:= #[m],argTypes:= #[t] })
 (hk:P.underlying k=some (.int .i64)) {e:TypeId} (ht:P.underlying t=some (.map k e)) (hm:a.eval m= .map (some b)) (h:Sat ((fD P k b f).star F) w)
 (hK:∀n:Nat,(∀H:List Int,H.Nodup→(∀m v,f m=some v→m∈H)→(n<H.length↔∃x∈H,f x=none))→wpList P ops Q rest (a.put o.dst (.int .i64 n)) w):wpList P ops Q (o :: rest) a w:=by
 refine wpList_plain hgd fun K' hK'=> ?_
 obtain⟨n,hrun,h1⟩:=NA (ty:=o.type) hk ht h;unfold Oper.wp execOp;simp only [hop,resolve,invoke,builtin,Sem.run_bind,Sem.run_pure,Result.andThen_ok,cT,aT,aZ,hm,hrun];exact hK' _ _ (hK n h1)
end
end Go.Sl
namespace Go.Sl
section
variable {P:Program}{ops:Array Oper}
def pT:Op→Bool
 | .move _ | .assign _ | .fieldAddr .. | .indexAddr .. | .load .. | .binOp .. | .unOp .. | .pick .. | .build .. | .nilCheck _ | .extract .. | .lookup .. | .field .. | .index .. | .convert .. =>true
 | _=>false
theorem SA {w w':World}{n:Next}(s:Sem Value)(h:Sem.run P (do pure (.value (← s)):Sem Next) w= .ok n w'):∃v,n= .value v:=by
 rw [Sem.run_bind] at h;cases hr:s.run P w with
 | ok x w1=>
   rw [hr] at h;simp only [Result.andThen,Sem.run_pure] at h;cases h;exact⟨x,rfl⟩
 | halt x w1=>rw [hr] at h;cases h
theorem AK {α β:Type}{s:Sem α}{k:α→Sem β}{w w':World}{n:β}(h:Sem.run P (s >>=k) w= .ok n w'):∃x w1,s.run P w= .ok x w1∧(k x).run P w1= .ok n w':=by
 rw [Sem.run_bind] at h;cases hr:s.run P w with
 | ok x w1=>rw [hr] at h;exact⟨x,w1,rfl,h⟩
 | halt x w1=>rw [hr] at h;cases h
theorem Ch {o:Oper}{ρ:Operand→Value}{w w':World}{n:Next}(hp:pT o.op=true)(h:(execOp ρ o).run P w= .ok n w'):∃v,n= .value v:=by
 unfold execOp at h;cases ho:o.op<;>rw [ho] at hp h<;>first | (cases hp;done) | exact SA _ h | skip
 · cases h;exact⟨_,rfl⟩
 · cases h;exact⟨_,rfl⟩
 · rename_i c a b
   dsimp only at h;rw [Sem.run_bind] at h;cases hr:(asBool (ρ c)).run P w with
   | ok x w1=>
     rw [hr] at h;cases x<;>(cases h;exact⟨_,rfl⟩)
   | halt x w1=>rw [hr] at h;cases h
 · dsimp only at h
   split at h
   any_goals (first | (cases h;exact⟨_,rfl⟩) | (simp [runtimePanic] at h;done) | skip)
   split at h
   · simp [runtimePanic] at h
   · obtain⟨_,_,_,h⟩:=AK h
     obtain⟨_,_,_,h⟩:=AK h;split at h
     · obtain⟨_,_,_,h⟩:=AK h
       cases h;exact⟨_,rfl⟩
     · cases h;exact⟨_,rfl⟩
   · cases h;exact⟨_,rfl⟩
theorem vy {o:Oper}{a:Act}{w:World}{Q:Act→Prop}(hp:pT o.op=true)(h:wpQuiet P ops (fun w'=> ∃n,w'=w.drewN n) Q [o] a):
 (Region.wanted o (yielded ops a.tmps)=true∧∃v,(execOp a.eval o).run P w= .ok (.value v) w∧Q (a.put o.dst v))∨
 (Region.wanted o (yielded ops a.tmps)=false∧Q (a.put o.dst undef)):=by
 unfold wpQuiet at h;split at h
 · rename_i hw
   obtain⟨v,hv,hq⟩:=h;refine .inl ⟨hw,v,?_,hq⟩;have:=hv w ⟨0,rfl⟩
   unfold Oper.quietAt at this;cases hr:(execOp a.eval o).run P w with
   | ok n w1=>
     rw [hr] at this;obtain⟨u,rfl⟩:=Ch hp hr;obtain⟨rfl,rfl⟩:=this;rfl
   | halt x w1=>rw [hr] at this;exact this.elim
 · rename_i hw
   exact .inr ⟨by simpa using hw,h⟩
theorem NC {i:Nat}{l:List Nat}{N:Act→Prop}{a:Act}{w:World}{o:Oper}(ho:ops[i]? =some o)(hp:pT o.op=true)
 (h:wpQuiet P ops (fun w'=> ∃n,w'=w.drewN n) (fun a'=>pO P ops l N a' w) [o] a):pO P ops (i :: l) N a w:=by
 simp only [pO,ho];exact vy hp h
theorem EH {c:Nat}{f:Act}{w:World}{o:Oper}(ho:ops[c]? =some o)(hp:pT o.op=true)(hs:(match o.dst with | some d=>decide (d<f.tmps.size) | none=>true)=true)
 (h:wpQuiet P ops (fun w'=> ∃n,w'=w.drewN n) (fun a'=>a'=f) [o] f):kV P ops c f w:=by
 have put:∀v d,o.dst=some d→f.put o.dst v=f→f.tmps[d]? =some v:=by
  intro v d hd e;rw [hd] at hs e;have hlt:d<f.tmps.size:=by simpa using hs
  have e2:=congrArg Act.tmps e;rw [← e2];simp [Act.put,hlt]
 simp only [kV,ho];rcases vy hp h with⟨h1,v,h2,h3⟩ | ⟨h1,h3⟩
 · exact .inl ⟨h1,v,h2,fun d hd=>put v d hd h3⟩
 · exact .inr ⟨h1,fun d hd=>put undef d hd h3⟩
def pick(L:List Oper):List Nat→List Oper
 | []=> []
 | i :: l=>(L.drop i).take 1++pick L l
theorem zn {L:List Oper}{i:Nat}{l:List Nat}(h:i<L.length):pick L (i :: l)=L[i] :: pick L l:=by
 show (L.drop i).take 1++pick L l=_
 rw [aQ h];rfl
theorem EJ {o:Oper}{l:List Oper}{a:Act}{C:World→Prop}{Q:Act→Prop}(h:wpQuiet P ops C Q (o :: l) a):wpQuiet P ops C (fun a'=>wpQuiet P ops C Q l a') [o] a:=by
 unfold wpQuiet at h ⊢;split at h
 · rename_i hw
   rw [if_pos hw];exact h
 · rename_i hw
   rw [if_neg hw];exact h
theorem dY {L:List Oper}(l:List Nat){N:Act→Prop}{a:Act}{w:World}(hl:(l.all fun i=>decide (i<L.length))=true)(hp:((pick L l).all fun o=>pT o.op)=true)
 (h:wpQuiet P L.toArray (fun w'=> ∃n,w'=w.drewN n) N (pick L l) a):pO P L.toArray l N a w:=by
 induction l generalizing a with
 | nil=>exact h
 | cons i l ih=>
   simp only [List.all_cons,aJ,decide_eq_true_eq] at hl;rw [zn hl.1] at h hp;simp only [List.all_cons,aJ] at hp;refine NC (o:=L[i]) (by simp [hl.1]) hp.1 ?_;have h2:=EJ h;unfold wpQuiet at h2 ⊢;split at h2
   · rename_i hw
     rw [if_pos hw];obtain⟨v,hv,hq⟩:=h2;exact⟨v,hv,ih hl.2 hp.2 hq⟩
   · rename_i hw
     rw [if_neg hw];exact ih hl.2 hp.2 h2
theorem ND {ops:Array Oper}(l1 l2:List Nat){N:Act→Prop}{w:World}:∀ {a:Act},pO P ops l1 (fun a'=>pO P ops l2 N a' w) a w→pO P ops (l1++l2) N a w:=by
 induction l1 with
 | nil=>intro a h;exact h
 | cons i l1 ih=>
   intro a h;simp only [List.cons_append,pO] at h ⊢;split at h
   · exact h.elim
   · rcases h with⟨h1,v,h2,h3⟩ | ⟨h1,h2⟩
     · exact .inl ⟨h1,v,h2,ih h3⟩
     · exact .inr ⟨h1,ih h2⟩
theorem NF {ops:Array Oper}(l1 l2:List Nat){f:Act}{w:World}(h1:B9 P ops l1 f w)(h2:B9 P ops l2 f w):B9 P ops (l1++l2) f w:=fun i hi=>(aK.1 hi).elim (h1 i) (h2 i)
theorem zo {o:Oper}{ρ:Operand→Value}{w:World}{t:TypeId}{m x:Operand}{c:Bool}{v:Value}(ho:o.op= .lookup t m x c)(h:(Instr.lookup t (ρ m) (ρ x) c).run P w= .ok v w):(execOp ρ o).run P w= .ok (.value v) w:=by
 unfold execOp;rw [ho];show Sem.run P (do pure (.value (← Instr.lookup t (ρ m) (ρ x) c)):Sem Next) w=_
 rw [Sem.run_bind,h];rfl
theorem Kw {i:Nat}{l:List Nat}{N:Act→Prop}{a:Act}{w:World}{o:Oper}{t:TypeId}{m x:Operand}{c:Bool}{v:Value}(ho:ops[i]? =some o)(hop:o.op= .lookup t m x c)(hw:Region.wanted o (yielded ops a.tmps)=true)
 (hrun:(Instr.lookup t (a.eval m) (a.eval x) c).run P w= .ok v w) (h:pO P ops l N (a.put o.dst v) w):pO P ops (i :: l) N a w:=by
 simp only [pO,ho];exact .inl ⟨hw,v,zo hop hrun,h⟩
def Same(P:Program)(ops:Array Oper)(C:World→Prop)(f:Act):List Oper→Prop
 | []=>True
 | o :: l=>wpQuiet P ops C (fun a'=>a'=f) [o] f∧Same P ops C f l
theorem GK {L:List Oper}(l:List Nat){f:Act}{w:World}(hl:(l.all fun i=>decide (i<L.length))=true)
 (hp:((pick L l).all fun o=>pT o.op && (match o.dst with | some d=>decide (d<f.tmps.size) | none=>true))=true)
 (h:Same P L.toArray (fun w'=> ∃n,w'=w.drewN n) f (pick L l)):B9 P L.toArray l f w:=by
 induction l with
 | nil=>exact eM
 | cons i l ih=>
   simp only [List.all_cons,aJ,decide_eq_true_eq] at hl;rw [zn hl.1] at h hp;simp only [List.all_cons,aJ] at hp;exact d6 (EH (o:=L[i]) (by simp [hl.1]) hp.1.1 hp.1.2 h.1) (ih hl.2 (by simpa using hp.2) h.2)
end
end Go.Sl
namespace Go.Sl
open Go.RowKit
theorem cQ {P:Program}{L:List Oper}{l:List Nat}{f:Act}{w:World}(hl:(l.all fun i=>decide (i<L.length))=true:=by rfl)(hp:((pick L l).all fun o=>pT o.op && (match o.dst with | some d=>decide (d<f.tmps.size) | none=>true))=true:=by rfl)
 (h:Same P L.toArray (fun w'=>∃n,w'=w.drewN n) f (pick L l):=by
  simp only [Go.Sl.pick,Go.Sl.Same,Go.pQ,and_true]
  repeat' (first | apply And.intro | (go_big_quiet_step (fail);exact Go.wpQuiet_nil rfl))):B9 P L.toArray l f w:=GK l hl hp h
end Go.Sl
namespace Go.Sl
open Go.RowKit
end Go.Sl
namespace Go.Sl
section
variable {P:Program}{sz:Nat}
def qB(P:Program)(Q:Exit→Act→World→Prop)(o:Oper):Exit→Act→World→Prop
 | .normal,a,w=>o.wp P a w (Q .normal) Q
 | e,a,w=>Q e a w
def EK(front:Array Oper)(o:Oper):Bool:=
 o.guard.isNone && (o.after.all fun e=> !Region.binds .any e || decide (e.on<front.size)) && ((List.range front.size).all fun i=>lR o i) &&
  (List.range front.size).all fun i=>match front[i]? with
    | none=>true
    | some p=>p.guard.isNone
theorem NG {o:Oper}{a:Act}{w:World}{K K':Act→World→Prop}{Q Q':Exit→Act→World→Prop}(h:∀a w,K a w→K' a w)(hq:∀e a w,e≠ .normal→Q' e a w→Q e a w)(hh:o.wp P a w K Q'):o.wp P a w K' Q:=by
 unfold Oper.wp at*;generalize (execOp a.eval o).run P w=r at*;cases r with
 | ok n w'=>
   cases n<;>simp only [Oper.upon] at hh ⊢ <;>
    first
     | exact h _ _ hh
     | exact Calls.mono hh (fun e w'' he=>by cases e<;>first | exact h _ _ he | exact hq _ _ _ (by simp) he | (obtain⟨a,w,x⟩:=he;exact⟨a,w,hq _ _ _ (by simp) x⟩))
     | exact Rows.mono hh (fun _ _ he=>h _ _ he)
 | halt x w'=>cases x<;>simp only [Oper.upon] at hh ⊢ <;>first | exact hq _ _ _ (by simp) hh | exact hh
theorem EL {Q:Exit→Act→World→Prop}{o:Oper}:∀e a w,e≠ .normal→qB P Q o e a w→Q e a w:=fun e a w he h=>by
 cases e<;>first | exact(he rfl).elim | exact h
theorem w_ {L:Array Bool}{i:Nat}:lG (L.push false) i↔(i≠L.size∧lG L i):=by
 unfold lG;rcases Nat.lt_trichotomy i L.size with h | h | h
 · simp [dm,show i≠L.size by omega]
 · subst h;simp
 · simp [dm,show i≠L.size by omega]
theorem ru {L:Array Bool}{i:Nat}(h:i<L.size):(L.push false).getD i false=L.getD i false:=by
 simp [dm,show i≠L.size by omega]
theorem vA {L:Array Bool}{i:Nat}(h:i<L.size):L.getD i false=true↔lG L i:=by
 unfold lG;simp [bO h]
theorem set_push {L:Array Bool}{i:Nat}(h:i<L.size):(L.push false).setIfInBounds i true=(L.setIfInBounds i true).push false:=by
 apply Array.ext_getElem?;intro j;simp only [Array.getElem?_setIfInBounds,dm,dB,Array.size_setIfInBounds];by_cases he:i=j
 · subst he
   simp [h,show i≠L.size by omega,show i<L.size+1 by omega]
 · simp [he]
theorem Kx {front:Array Oper}{o:Oper}{Q:Exit→Act→World→Prop}(hs:kD front sz=true)(hl:EK front o=true):
 ∀(fuel:Nat) (L:Array Bool) (a:Act) (w:World),L.size=front.size→wpAny P .any front (qB P Q o) fuel L a w→wpAny P .any (front.push o) Q (fuel+1) (L.push false) a w:=by
 simp only [EK,aJ] at hl;obtain⟨⟨⟨g1,g2⟩,g3⟩,g4⟩:=hl;have hog:o.guard=none:=by simpa using g1
 have Ky:∀i,i<front.size→(front.push o)[i]? =front[i]? :=fun i hi=>by simp [dm,show i≠front.size by omega]
 have GL:(front.push o)[front.size]? =some o:=by simp
 have rd:∀(L:Array Bool),L.size=front.size→∀i,i<front.size→(i∈Region.ready .any (front.push o) (L.push false)↔i∈Region.ready .any front L):=fun L hL i hi=>by
  rw [iH,iH,w_,Ky i hi,dB];constructor
  · rintro⟨_,h2,p,hp,h3⟩
    refine⟨hi,fun h=>h2 ⟨by omega,h⟩,p,hp,fun e he hb=> ?_⟩;have:=(mo hs hp).2.2.1 e he hb
    rw [← ru (by omega)];exact h3 e he hb
  · rintro⟨_,h2,p,hp,h3⟩
    refine⟨by omega,fun h=>h2 h.2,p,hp,fun e he hb=> ?_⟩;have:=(mo hs hp).2.2.1 e he hb
    rw [ru (by omega)];exact h3 e he hb
 have rl:∀(L:Array Bool),L.size=front.size→(front.size∈Region.ready .any (front.push o) (L.push false)↔∀i,i<front.size→lG L i):=fun L hL=>by
  rw [iH,w_,GL,dB];constructor
  · rintro⟨_,_,p,hp,h3⟩ i hi
    cases hp;have hb:=bC.1 g3 i (aP.2 hi);unfold lR at hb;obtain⟨e,hem,AG⟩:=rq hb;simp only [aJ,beq_iff_eq] at AG;have:=h3 e hem AG.1
    rw [AG.2,ru (by omega),vA (by omega)] at this;exact this
  · intro hall
    refine⟨by omega,fun h=>h.1 hL.symm,o,rfl,fun e he hb=> ?_⟩;have h5:=bR.1 g2 e he;have h6:e.on<front.size:=by simpa [hb] using h5
    rw [ru (by omega),vA (by omega)];exact hall _ h6
 have done:∀(L:Array Bool),L.size=front.size→(∀i,i<front.size→lG L i)→Region.ready .any (front.push o) ((L.push false).setIfInBounds front.size true)= []:=fun L hL hall=>by
  rw [List.eq_nil_iff_forall_not_mem];intro i hi;obtain⟨h1,h2,_⟩:=iH.1 hi;apply h2;rw [ft];rw [dB] at h1;by_cases he:i=front.size
  · exact .inl he
  · exact .inr (w_.2 ⟨by omega,hall i (by omega)⟩)
 have Ci:∀(fuel:Nat) (L:Array Bool) (a:Act) (w:World),L.size=front.size→(∀i,i<front.size→lG L i)→qB P Q o .normal a w→
  wpOp P (front.push o) Q front.size (wpAny P .any (front.push o) Q fuel ((L.push false).setIfInBounds front.size true)) a w:=fun fuel L a w hL hall h=>by
  unfold wpOp;rw [GL];simp only [Region.wanted,hog,if_true];refine .inl (Oper.wp_mono (fun a' w' h'=> ?_) h);have hd:=done L hL hall;cases fuel with
  | zero=>exact⟨hd,h'⟩
  | succ n=>exact⟨fun _=>h',fun i hi=>by rw [hd] at hi;cases hi⟩
 have Kz:∀(L:Array Bool),L.size=front.size→Region.ready .any front L= []→∀i,i<front.size→lG L i:=fun L hL hnil i hi=>by
  by_cases h:lG L i
  · exact h
  · obtain⟨j,hj⟩:=kW hs hL i i (aD _) hi h
    rw [hnil] at hj;cases hj
 have cases':∀(L:Array Bool) (i:Nat),i∈Region.ready .any (front.push o) (L.push false)→i<front.size∨i=front.size:=fun L i hi=>by
  have:=(iH.1 hi).1
  rw [dB] at this;omega
 intro fuel;induction fuel with
 | zero=>
   intro L a w hL ⟨h1,h2⟩;have hall:=Kz L hL h1;refine⟨fun hnil=> ?_,fun i hi=> ?_⟩
   · have:=(rl L hL).2 hall
     rw [hnil] at this;cases this
   · rcases cases' L i hi with h | h
     · have:=(rd L hL i h).1 hi
       rw [h1] at this;cases this
     · subst h
       exact Ci 0 L a w hL hall h2
 | succ fuel ih=>
   intro L a w hL ⟨h1,h2⟩;refine⟨fun hnil=> ?_,fun i hi=> ?_⟩
   · exfalso
     by_cases hr:Region.ready .any front L= []
     · have:=(rl L hL).2 (Kz L hL hr)
       rw [hnil] at this;cases this
     · obtain⟨j,hj⟩:=cg _ hr
       have:=(rd L hL j (iH.1 hj).1).2 hj
       rw [hnil] at this;cases this
   · rcases cases' L i hi with h | h
     · have xd:=(rd L hL i h).1 hi
       have h3:=h2 i xd;obtain⟨_,_,p,hp,_⟩:=iH.1 xd
       have oK:p.guard=none:=by
        have:=bC.1 g4 i (aP.2 h)
        simpa [hp] using this
       unfold wpOp at h3 ⊢;rw [Ky i h,hp];simp only [hp,Region.wanted,oK,if_true] at h3 ⊢;rw [set_push (by omega)];rcases h3 with h3 | ⟨h3,h4⟩
       · exact .inl (NG (fun a' w' h'=>ih (L.setIfInBounds i true) a' w' (by simpa using hL) h') EL h3)
       · obtain⟨a',w',h5⟩:=h4
         exact .inr ⟨h3,a',w',h5⟩
     · subst h
       have hall:=(rl L hL).1 hi
       exact Ci (fuel+1) L a w hL hall (h1 (by
        rw [List.eq_nil_iff_forall_not_mem]
        intro j hj
        exact(iH.1 hj).2.1 (hall j (iH.1 hj).1)))
theorem qp {Q:Exit→Act→World→Prop}{id:Nat}{a:Act}{w:World}(hm:P.follows .mixedOrders=true){l L:List Oper}{o:Oper}(E0:List Nat)(rest:List (Nat × List Nat × List Nat))
 (hL:l.dropLast=L) (hlo:l.getLast?=some o) (hsz:a.tmps.size=sz) (hs:kD L.toArray sz=true) (hl:EK L.toArray o=true) (ho:kE L.toArray [] E0=true) (hp:mL L.toArray E0 [] rest=true)
 (h:pO P L.toArray E0 (fun f=>kF P L.toArray (qB P Q o) rest f w.drew) a w.drew):(Code.region id l.toArray true).wp P Q a w:=by
 have e:l.toArray=L.toArray.push o:=by
  obtain⟨ys,rfl⟩:=List.getLast?_eq_some_iff.1 hlo;rw [List.dropLast_concat] at hL;rw [hL];simp
 rw [e];refine wp_region_any hm ?_;rw [dB,show Array.replicate (L.toArray.size+1) false=(Array.replicate L.toArray.size false).push false by simp [Array.replicate_succ]];refine Kx hs hl _ _ _ _ (by simp) ?_;obtain⟨f,hc,hfs,AB,hft,Et⟩:=mU hs E0 _ _ _ ho hsz h
 have hno:∀i,i<L.toArray.size→¬lG (Array.replicate L.toArray.size false) i:=fun i hi h=>by
  have xd:i<L.length:=by simpa using hi
  simp [lG,xd] at h
 refine pP hs _ _ _ _ E0 [] rest f hp (by simp) ?_ hfs ⟨hsz.trans hfs.symm,AB.symm,fun t ht=>(hft t fun j hj e=> ?_).symm⟩ (fun i hi hl=>absurd hl (hno i hi)) (fun i hi=>by cases hi) (fun i hi _=>Et i hi) hc
 · unfold zi
   rw [cJ.2]
   · simp
   · intro i hi
     have:=hno i (aP.1 hi)
     simpa [lG] using this
 · have hj2:=(kq _ _ ho j hj).2
   exact hno j hj2 (ht j e)
end
end Go.Sl
