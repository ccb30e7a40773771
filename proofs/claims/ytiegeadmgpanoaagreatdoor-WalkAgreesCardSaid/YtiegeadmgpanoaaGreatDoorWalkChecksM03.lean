/- A map with integer keys as a function, owned whole: read, written, struck. Plain lemmas over any program. -/
import Derived.Test.YtiegeadmgpanoaaGreatDoorWalkChecksM02
import Derived.Maps.Own
import Derived.Test.YtiegeadmgpanoaaGreatDoorWalkChecksM01
import Derived.BigQuiet
import Derived.OrdersIn
import Derived.TacticsIn
import Derived.Maps.OwnSet
set_option maxRecDepth 100000
set_option maxHeartbeats 16000000
namespace Go.Sl
open Go.Maps Go.ChangeMaps Go.MapKept Go.WideShapes
open Go.WideElems (Fit rd rg pl rd_key rd_val rg_of)
def heldR(v:Value):Option (DataW Value × List MemPlace):=some (.held v,[])
def MapFn(P:Program)(k:TypeId)(es:Array MapEntry)(f:Int→Option Value):Prop:=
 ∀n v,f n=some v↔(Lit.int .i64 n,DataW.held v)∈(es.toList.map (rg P k heldR)).foldr DataW.insert []
def SmallKeys(f:Int→Option Value):Prop:= ∀n v,f n=some v→1≤n∧n≤65536
def MapA(P:Program)(k:TypeId)(b:Nat)(f:Int→Option Value):Pr:=
 Pr.ex fun x:Array MapEntry × Nat=>(Pr.pure (Fit P k heldR x.1 x.2∧MapFn P k x.1 f∧SmallKeys f)).star (Pr.pts b (.map x.1 x.2))
section
variable {P:Program}{k:TypeId}{b:Nat}{f:Int→Option Value}{F:Pr}{w:World}
theorem mapA_iff:Sat ((MapA P k b f).star F) w↔∃es clock,Fit P k heldR es clock∧MapFn P k es f∧SmallKeys f∧Sat ((Pr.pts b (.map es clock)).star F) w:=by
 unfold MapA;rw [Sat.ex];constructor
 · rintro⟨⟨es,c⟩,h⟩
   rw [Pr.star_assoc] at h;obtain⟨⟨h1,h2,h3⟩,h4⟩:=Sat.pure.1 h;exact⟨es,c,h1,h2,h3,h4⟩
 · rintro⟨es,c,h1,h2,h3,h4⟩
   refine⟨(es,c),?_⟩;rw [Pr.star_assoc];exact Sat.pure.2 ⟨⟨h1,h2,h3⟩,h4⟩
theorem key_int(hk:P.underlying k=some (.int .i64)){v:Value}{l:Lit}(h:keyOf P k v=some l):∃n,v= .int .i64 n∧l= .int .i64 n:=by
 simp only [keyOf,hk] at h;cases v<;>simp [mapKey,hk] at h;obtain⟨h1,h2⟩:=h;obtain⟨h3,_⟩:=h1;subst h3;exact⟨_,rfl,h2.symm⟩
theorem key_mk(hk:P.underlying k=some (.int .i64)){n:Int}(hn:1≤n∧n≤65536):keyOf P k (.int .i64 n)=some (.int .i64 n):=by
 refine keyOf_int_mk hk ?_;have h1:IntKind.i64.min= -9223372036854775808:=by decide
 have h2:IntKind.i64.max=9223372036854775807:=by decide
 simp only [Lit.wf,Bool.and_eq_true,decide_eq_true_eq,h1,h2];omega
theorem mem_sorted(hk:P.underlying k=some (.int .i64)){es:Array MapEntry}{clock:Nat}(hF:Fit P k heldR es clock){p:Lit × DataW Value}:
 p∈(es.toList.map (rg P k heldR)).foldr DataW.insert []↔∃x n,x∈es.toList∧x.key= .int .i64 n∧p=(.int .i64 n,.held x.val):=by
 rw [(sorted_perm _).mem_iff,List.mem_map];constructor
 · rintro⟨x,hx,rfl⟩
   obtain⟨y,hy⟩:=hF.reads x hx;obtain⟨n,h1,h2⟩:=key_int hk (rd_key hy);obtain⟨z,h3,h4⟩:=rd_val hy;cases h3;refine⟨x,n,hx,h1,?_⟩;rw [rg_of hy];exact Prod.ext h2 h4
 · rintro⟨x,n,hx,h1,rfl⟩
   obtain⟨y,hy⟩:=hF.reads x hx;obtain⟨m,h2,h3⟩:=key_int hk (rd_key hy);obtain⟨z,h4,h5⟩:=rd_val hy;cases h4;refine⟨x,hx,?_⟩;rw [rg_of hy];rw [h1] at h2;cases h2;exact Prod.ext h3 h5
theorem sorted_len(L:List (Lit × DataW Value)):∀a:Int,L.Pairwise (fun p q=>p.1.before q.1=true)→(∀p∈L,∃n,p.1= .int .i64 n∧a≤n∧n≤65536)→(L.length:Int)≤max 0 (65537-a):=by
 induction L with
 | nil=>intro a _ _;simp;omega
 | cons p L ih=>
   intro a hp hm;obtain⟨h1,h2⟩:=List.pairwise_cons.1 hp;obtain⟨n,e,ha,hb⟩:=hm p (by simp)
   have:=ih (n+1) h2 (fun q hq=>by
    obtain⟨m,e2,_,h4⟩:=hm q (by simp [hq])
    have h5:=h1 q hq
    rw [e,e2] at h5
    simp [Lit.before] at h5
    exact⟨m,e2,by omega,h4⟩)
   simp only [List.length_cons];omega
theorem fit_small(hk:P.underlying k=some (.int .i64)){es:Array MapEntry}{clock:Nat}(hF:Fit P k heldR es clock)(hM:MapFn P k es f)(hs:SmallKeys f):es.size<maxLen:=by
 have K:=int_keyed (P:=P) hk
 have h1:=sorted_len _ 1 (sorted_sorted K.one _ (fit_keys hF) (fit_apart K hF)) (fun p hp=>by
  obtain⟨x,n,hx,hkx,rfl⟩:=(mem_sorted hk hF).1 hp
  have:=hs n x.val ((hM n x.val).2 hp)
  exact⟨n,rfl,this.1,this.2⟩)
 rw [length_sorted] at h1;simp only [List.length_map,Array.length_toList] at h1;simp only [maxLen];omega
theorem map_look(hk:P.underlying k=some (.int .i64)){t e:TypeId}(ht:P.underlying t=some (.map k e)){z:Value}(hz:(zeroValue e).run P w= .ok z w)(c:Bool){n:Int}(hn:1≤n∧n≤65536)(h:Sat ((MapA P k b f).star F) w):
 (Instr.lookup t (.map (some b)) (.int .i64 n) c).run P w= .ok (if c then .tuple #[(f n).getD z,.bool (f n).isSome] else(f n).getD z) w:=by
 obtain⟨es,clock,hF,hM,hs,hp⟩:=mapA_iff.1 h;rcases fit_look c (int_keyed hk) ht hz hp.pts_heap hF (key_mk hk hn) with⟨h1,h2,_⟩ | ⟨e0,y,h1,h2,h3,_⟩
 · have:f n=none:=by
    cases hf:f n with
    | none=>rfl
    | some v=>
      obtain⟨x,m,hx,hkx,hpx⟩:=(mem_sorted hk hF).1 ((hM n v).1 hf);cases hpx;exact absurd hkx (h2 x hx)
   rw [h1,this];rfl
 · have:f n=some e0.val:=(hM n e0.val).2 ((mem_sorted hk hF).2 ⟨e0,n,h1,h2,rfl⟩)
   rw [h3,this];rfl
theorem notKey_int {n m:Int}{v:DataW Value}:notKey (Lit.int .i64 n) (Lit.int .i64 m,v)=true↔m≠n:=by
 simp [notKey,Lit.sameKey]
theorem map_put(hk:P.underlying k=some (.int .i64)){t e:TypeId}(ht:P.underlying t=some (.map k e)){n:Int}(hn:1≤n∧n≤65536)(v:Value)(h:Sat ((MapA P k b f).star F) w):
 ∃w',(Instr.mapUpdate t (.map (some b)) (.int .i64 n) v).run P w= .ok () w'∧Sat ((MapA P k b (fun m=>if m=n then some v else f m)).star F) w'∧w.grownBy w' (some b):=by
 obtain⟨es,clock,hF,hM,hs,hp⟩:=mapA_iff.1 h;have hb:=hp.pts_heap;obtain⟨es',clock',hrun,F',hput,_⟩:=fit_store (R':=heldR) (int_keyed hk) ht hb hF (fit_small hk hF hM hs) (fun _ _ _ _ hz=>hz) (key_mk hk hn) (yv:=(.held v,[])) (val:=v) rfl
 refine⟨_,hrun,mapA_iff.2 ⟨es',clock',F',fun m u=> ?_,fun m u hu=> ?_,?_⟩,⟨rfl,rfl,rfl,by simp [setBlock],fun i _ hi=>heap_setBlock_other hb _ (fun e=>hi (by rw [e]))⟩⟩
 · rw [hput]
   unfold putKey;rw [mem_insert_iff,List.mem_filter,notKey_int, ← hM];by_cases hm:m=n
   · subst hm;simp;exact eq_comm
   · simp [hm]
 · by_cases hm:m=n
   · subst hm;exact hn
   · exact hs m u (by simpa [hm] using hu)
 · exact hp.put (heap_setBlock_same hb _) (fun i _ hi=>heap_setBlock_other hb _ hi)
theorem map_made(h:Sat F w):Sat ((MapA P k w.heap.size fun _=>none).star F) (w.alloc (.map #[] 0)):=
 mapA_iff.2 ⟨#[],0,⟨by simp,stamped_empty 0,by simp⟩,fun n v=>by simp,(fun n v h=>by cases h),h.alloc _⟩
theorem wpList_look {ops:Array Oper}{rest:List Oper}{o:Oper}{a:Act}{Q:Exit→Act→World→Prop}(hgd:o.guard=none)(m x:Operand)(t:TypeId)(c:Bool)(hop:o.op=Op.lookup t m x c)
 (hk:P.underlying k=some (.int .i64)) {e:TypeId} (ht:P.underlying t=some (.map k e)) (z:Value) (hz:(zeroValue e).run P w= .ok z w) (n:Int) (hn:1≤n∧n≤65536)
 (hm:a.eval m= .map (some b)) (hx:a.eval x= .int .i64 n) (h:Sat ((MapA P k b f).star F) w)
 (hK:wpList P ops Q rest (a.put o.dst (if c then .tuple #[(f n).getD z,.bool (f n).isSome] else(f n).getD z)) w):wpList P ops Q (o :: rest) a w:=by
 refine wpList_plain hgd fun K' hK'=> ?_
 have hrun:=map_look hk ht hz c hn h;unfold Oper.wp;simp [execOp,hop,hm,hx,hrun,Result.andThen]
 exact hK' _ _ hK
theorem wpList_put {ops:Array Oper}{rest:List Oper}{o:Oper}{a:Act}{Q:Exit→Act→World→Prop}(hgd:o.guard=none)(m x u:Operand)(t:TypeId)(hop:o.op=Op.mapUpdate t m x u)
 (hk:P.underlying k=some (.int .i64)) {e:TypeId} (ht:P.underlying t=some (.map k e)) (n:Int) (hn:1≤n∧n≤65536) (v:Value)
 (hm:a.eval m= .map (some b)) (hx:a.eval x= .int .i64 n) (hv:a.eval u=v) (h:Sat ((MapA P k b f).star F) w)
 (hK:∀w',Sat ((MapA P k b (fun m=>if m=n then some v else f m)).star F) w'→w.grownBy w' (some b)→wpList P ops Q rest (a.put o.dst undef) w'):wpList P ops Q (o :: rest) a w:=by
 refine wpList_plain hgd fun K' hK'=> ?_
 obtain⟨w',hrun,h1,h2⟩:=map_put hk ht hn v h;unfold Oper.wp;simp [execOp,hop,hm,hx,hv,hrun,Result.andThen]
 exact hK' _ _ (hK w' h1 h2)
end
end Go.Sl
namespace Go.Sl
section
variable {P:Program}{ops:Array Oper}
def plainOp:Op→Bool
 | .move _ | .assign _ | .fieldAddr .. | .indexAddr .. | .load .. | .binOp .. | .unOp .. | .pick .. | .build .. | .nilCheck _ | .extract .. | .lookup .. | .field .. | .index .. | .convert .. =>true
 | _=>false
theorem bindv {w w':World}{n:Next}(s:Sem Value)(h:Sem.run P (do pure (.value (← s)):Sem Next) w= .ok n w'):∃v,n= .value v:=by
 rw [Sem.run_bind] at h;cases hr:s.run P w with
 | ok x w1=>
   rw [hr] at h;simp only [Result.andThen,Sem.run_pure] at h;cases h;exact⟨x,rfl⟩
 | halt x w1=>rw [hr] at h;cases h
theorem bind_ok {α β:Type}{s:Sem α}{k:α→Sem β}{w w':World}{n:β}(h:Sem.run P (s >>=k) w= .ok n w'):∃x w1,s.run P w= .ok x w1∧(k x).run P w1= .ok n w':=by
 rw [Sem.run_bind] at h;cases hr:s.run P w with
 | ok x w1=>rw [hr] at h;exact⟨x,w1,rfl,h⟩
 | halt x w1=>rw [hr] at h;cases h
theorem plain_value {o:Oper}{ρ:Operand→Value}{w w':World}{n:Next}(hp:plainOp o.op=true)(h:(execOp ρ o).run P w= .ok n w'):∃v,n= .value v:=by
 unfold execOp at h;cases ho:o.op<;>rw [ho] at hp h<;>first | (cases hp;done) | exact bindv _ h | skip
 · cases h;exact⟨_,rfl⟩
 · cases h;exact⟨_,rfl⟩
 · rename_i c a b
   dsimp only at h;rw [Sem.run_bind] at h;cases hr:(asBool (ρ c)).run P w with
   | ok x w1=>
     rw [hr] at h;cases x<;>(cases h;exact⟨_,rfl⟩)
   | halt x w1=>rw [hr] at h;cases h
 · dsimp only at h
   split at h
   any_goals (first | (cases h;exact⟨_,rfl⟩) | (simp [runtimePanic] at h;done) | skip)
   split at h
   · simp [runtimePanic] at h
   · obtain⟨_,_,_,h⟩:=bind_ok h
     obtain⟨_,_,_,h⟩:=bind_ok h;split at h
     · obtain⟨_,_,_,h⟩:=bind_ok h
       cases h;exact⟨_,rfl⟩
     · cases h;exact⟨_,rfl⟩
   · cases h;exact⟨_,rfl⟩
theorem quiet_yield {o:Oper}{a:Act}{w:World}{Q:Act→Prop}(hp:plainOp o.op=true)(h:wpQuiet P ops (fun w'=> ∃n,w'=w.drewN n) Q [o] a):
 (Region.wanted o (yielded ops a.tmps)=true∧∃v,(execOp a.eval o).run P w= .ok (.value v) w∧Q (a.put o.dst v))∨
 (Region.wanted o (yielded ops a.tmps)=false∧Q (a.put o.dst undef)):=by
 unfold wpQuiet at h;split at h
 · rename_i hw
   obtain⟨v,hv,hq⟩:=h;refine .inl ⟨hw,v,?_,hq⟩;have:=hv w ⟨0,rfl⟩
   unfold Oper.quietAt at this;cases hr:(execOp a.eval o).run P w with
   | ok n w1=>
     rw [hr] at this;obtain⟨u,rfl⟩:=plain_value hp hr;obtain⟨rfl,rfl⟩:=this;rfl
   | halt x w1=>rw [hr] at this;exact this.elim
 · rename_i hw
   exact .inr ⟨by simpa using hw,h⟩
theorem wpQ_big {i:Nat}{l:List Nat}{N:Act→Prop}{a:Act}{w:World}{o:Oper}(ho:ops[i]? =some o)(hp:plainOp o.op=true)
 (h:wpQuiet P ops (fun w'=> ∃n,w'=w.drewN n) (fun a'=>wpQ P ops l N a' w) [o] a):wpQ P ops (i :: l) N a w:=by
 simp only [wpQ,ho];exact quiet_yield hp h
theorem yieldF_big {c:Nat}{f:Act}{w:World}{o:Oper}(ho:ops[c]? =some o)(hp:plainOp o.op=true)(hs:(match o.dst with | some d=>decide (d<f.tmps.size) | none=>true)=true)
 (h:wpQuiet P ops (fun w'=> ∃n,w'=w.drewN n) (fun a'=>a'=f) [o] f):YieldF P ops c f w:=by
 have put:∀v d,o.dst=some d→f.put o.dst v=f→f.tmps[d]? =some v:=by
  intro v d hd e;rw [hd] at hs e;have hlt:d<f.tmps.size:=by simpa using hs
  have e2:=congrArg Act.tmps e;rw [← e2];simp [Act.put,hlt]
 simp only [YieldF,ho];rcases quiet_yield hp h with⟨h1,v,h2,h3⟩ | ⟨h1,h3⟩
 · exact .inl ⟨h1,v,h2,fun d hd=>put v d hd h3⟩
 · exact .inr ⟨h1,fun d hd=>put undef d hd h3⟩
def pick(L:List Oper):List Nat→List Oper
 | []=> []
 | i :: l=>(L.drop i).take 1++pick L l
theorem pick_cons {L:List Oper}{i:Nat}{l:List Nat}(h:i<L.length):pick L (i :: l)=L[i] :: pick L l:=by
 show (L.drop i).take 1++pick L l=_
 rw [List.drop_eq_getElem_cons h];rfl
theorem quiet_cons {o:Oper}{l:List Oper}{a:Act}{C:World→Prop}{Q:Act→Prop}(h:wpQuiet P ops C Q (o :: l) a):wpQuiet P ops C (fun a'=>wpQuiet P ops C Q l a') [o] a:=by
 unfold wpQuiet at h ⊢;split at h
 · rename_i hw
   rw [if_pos hw];exact h
 · rename_i hw
   rw [if_neg hw];exact h
theorem wpQ_all {L:List Oper}(l:List Nat){N:Act→Prop}{a:Act}{w:World}(hl:(l.all fun i=>decide (i<L.length))=true)(hp:((pick L l).all fun o=>plainOp o.op)=true)
 (h:wpQuiet P L.toArray (fun w'=> ∃n,w'=w.drewN n) N (pick L l) a):wpQ P L.toArray l N a w:=by
 induction l generalizing a with
 | nil=>exact h
 | cons i l ih=>
   simp only [List.all_cons,Bool.and_eq_true,decide_eq_true_eq] at hl;rw [pick_cons hl.1] at h hp;simp only [List.all_cons,Bool.and_eq_true] at hp;refine wpQ_big (o:=L[i]) (by simp [hl.1]) hp.1 ?_;have h2:=quiet_cons h;unfold wpQuiet at h2 ⊢;split at h2
   · rename_i hw
     rw [if_pos hw];obtain⟨v,hv,hq⟩:=h2;exact⟨v,hv,ih hl.2 hp.2 hq⟩
   · rename_i hw
     rw [if_neg hw];exact ih hl.2 hp.2 h2
theorem wpQ_cut {ops:Array Oper}(l1 l2:List Nat){N:Act→Prop}{w:World}:∀ {a:Act},wpQ P ops l1 (fun a'=>wpQ P ops l2 N a' w) a w→wpQ P ops (l1++l2) N a w:=by
 induction l1 with
 | nil=>intro a h;exact h
 | cons i l1 ih=>
   intro a h;simp only [List.cons_append,wpQ] at h ⊢;split at h
   · exact h.elim
   · rcases h with⟨h1,v,h2,h3⟩ | ⟨h1,h2⟩
     · exact .inl ⟨h1,v,h2,ih h3⟩
     · exact .inr ⟨h1,ih h2⟩
theorem chk_cut {ops:Array Oper}(l1 l2:List Nat){f:Act}{w:World}(h1:Chk P ops l1 f w)(h2:Chk P ops l2 f w):Chk P ops (l1++l2) f w:=fun i hi=>(List.mem_append.1 hi).elim (h1 i) (h2 i)
theorem exec_look {o:Oper}{ρ:Operand→Value}{w:World}{t:TypeId}{m x:Operand}{c:Bool}{v:Value}(ho:o.op= .lookup t m x c)(h:(Instr.lookup t (ρ m) (ρ x) c).run P w= .ok v w):(execOp ρ o).run P w= .ok (.value v) w:=by
 unfold execOp;rw [ho];show Sem.run P (do pure (.value (← Instr.lookup t (ρ m) (ρ x) c)):Sem Next) w=_
 rw [Sem.run_bind,h];rfl
theorem wpQ_look {i:Nat}{l:List Nat}{N:Act→Prop}{a:Act}{w:World}{o:Oper}{t:TypeId}{m x:Operand}{c:Bool}{v:Value}(ho:ops[i]? =some o)(hop:o.op= .lookup t m x c)(hw:Region.wanted o (yielded ops a.tmps)=true)
 (hrun:(Instr.lookup t (a.eval m) (a.eval x) c).run P w= .ok v w) (h:wpQ P ops l N (a.put o.dst v) w):wpQ P ops (i :: l) N a w:=by
 simp only [wpQ,ho];exact .inl ⟨hw,v,exec_look hop hrun,h⟩
def Same(P:Program)(ops:Array Oper)(C:World→Prop)(f:Act):List Oper→Prop
 | []=>True
 | o :: l=>wpQuiet P ops C (fun a'=>a'=f) [o] f∧Same P ops C f l
theorem chk_all {L:List Oper}(l:List Nat){f:Act}{w:World}(hl:(l.all fun i=>decide (i<L.length))=true)
 (hp:((pick L l).all fun o=>plainOp o.op && (match o.dst with | some d=>decide (d<f.tmps.size) | none=>true))=true)
 (h:Same P L.toArray (fun w'=> ∃n,w'=w.drewN n) f (pick L l)):Chk P L.toArray l f w:=by
 induction l with
 | nil=>exact chk_nil
 | cons i l ih=>
   simp only [List.all_cons,Bool.and_eq_true,decide_eq_true_eq] at hl;rw [pick_cons hl.1] at h hp;simp only [List.all_cons,Bool.and_eq_true] at hp;exact chk_cons (yieldF_big (o:=L[i]) (by simp [hl.1]) hp.1.1 hp.1.2 h.1) (ih hl.2 (by simpa using hp.2) h.2)
end
end Go.Sl
namespace Go.Sl
open Go.RowKit
theorem cQ {P:Program}{L:List Oper}{l:List Nat}{f:Act}{w:World}(hl:(l.all fun i=>decide (i<L.length))=true:=by rfl)(hp:((pick L l).all fun o=>plainOp o.op && (match o.dst with | some d=>decide (d<f.tmps.size) | none=>true))=true:=by rfl)
 (h:Same P L.toArray (fun w'=>∃n,w'=w.drewN n) f (pick L l):=by
  simp only [Go.Sl.pick,Go.Sl.Same,Go.pQ,and_true]
  repeat' (first | apply And.intro | (go_big_quiet_step (fail);exact Go.wpQuiet_nil rfl))):Chk P L.toArray l f w:=chk_all l hl hp h
end Go.Sl
namespace Go.Sl
def forkOk(ops:Array Oper)(D Fd:List Nat)(alts:List (Nat × List Nat × List Nat × List (Nat × List Nat × List Nat))):Bool:=
 !alts.isEmpty && ((List.range ops.size).all fun i=>D.contains i || alts.any (fun s=>s.1 == i) || (match ops[i]? with
   | none=>true
   | some o=>o.after.any fun e=>Region.binds .any e && !D.contains e.on)) &&
 alts.all fun s=> !D.contains s.1 && decide (s.1<ops.size) &&
  (D.all fun i=>s.2.2.1.contains i || Fd.contains i || (ops[s.1]?).any fun o=>bindsOn o i) &&
  orderOk ops (D++ [s.1]) s.2.1 &&
  planOk ops (D++s.1 :: s.2.1) (Fd++s.1 :: D.filter fun i=>(ops[s.1]?).any fun o=>bindsOn o i) s.2.2.2
section
variable {P:Program}{ops:Array Oper}{sz:Nat}
theorem forked_any {Q:Exit→Act→World→Prop}(hs:slotsOk ops sz=true):∀(fuel:Nat) (L:Array Bool) (a:Act) (w:World) (D Fd:List Nat) (alts:List (Nat × List Nat × List Nat × List (Nat × List Nat × List Nat))) (f:Act),
 forkOk ops D Fd alts=true→L.size=ops.size→unl ops L=fuel→f.tmps.size=sz→Agree ops L a f→(∀i,i<ops.size→Lst L i→i∈D)→(∀i∈Fd,Lst L i)→
 (∀i∈D,¬Lst L i→YieldF P ops i f w)→(∀s∈alts,wpRest P ops Q ((s.1,s.2.1,s.2.2.1) :: s.2.2.2) f w)→wpAny P .any ops Q fuel L a w:=by
 intro fuel;induction fuel with
 | zero=>
   intro L a w D Fd alts f hp hL hu hfs hA hsub hFd hY hc;exfalso
   have hall:∀i,i<ops.size→Lst L i:=fun i hi=>by
    have h0:(List.range ops.size).filter (fun i=> !L.getD i true)= []:=List.eq_nil_of_length_eq_zero hu;have:=List.filter_eq_nil_iff.1 h0 i (List.mem_range.2 hi)
    simpa [Lst] using this
   simp only [forkOk,Bool.and_eq_true] at hp;obtain⟨⟨h1,_⟩,h3⟩:=hp;cases alts with
   | nil=>simp at h1
   | cons s alts=>
     have h4:=List.all_eq_true.1 h3 s (by simp);simp only [Bool.and_eq_true] at h4;obtain⟨⟨⟨⟨h5,h6⟩,_⟩,_⟩,_⟩:=h4;have:=hsub s.1 (by simpa using h6) (hall s.1 (by simpa using h6))
     simp [this] at h5
 | succ fuel ih=>
   intro L a w D Fd alts f hp hL hu hfs hA hsub hFd hY hc;refine⟨fun hnil=> ?_,fun i hi=> ?_⟩
   · exfalso
     have hne:(List.range ops.size).filter (fun i=> !L.getD i true)≠ []:=fun e=>by unfold unl at hu;rw [e] at hu;simp at hu
     obtain⟨j,hj⟩:=List.exists_mem_of_ne_nil _ hne;rw [List.mem_filter,List.mem_range] at hj;obtain⟨k,hk⟩:=unlisted_ready hs hL j j (Nat.le_refl _) hj.1 (by unfold Lst;simpa using hj.2);rw [hnil] at hk;cases hk
   · obtain⟨hin,hul,o,ho,hdeps⟩:=ready_mem.1 hi
     obtain⟨hn,hlt,_,hdd⟩:=slots_at hs ho;have hlook:∀t∈o.looksAt ops,a.tmps[t]? =f.tmps[t]? :=fun t ht=>hA.2.2 t fun j hj=>(dep_listed hdeps ((hdd j t hj).1 ht)).1
     obtain⟨he,hw⟩:=exec_same hn hlook;have hL':(L.setIfInBounds i true).size=ops.size:=by simpa using hL
     have hu':unl ops (L.setIfInBounds i true)=fuel:=by have:=unl_set (L:=L) hin hul;omega
     have hdst:∀j t,dstOf ops j=some t→j<ops.size:=fun j t hj=>by
      unfold dstOf at hj;cases hx:ops[j]? with
      | none=>simp [hx] at hj
      | some _=>exact(Array.getElem?_eq_some_iff.1 hx).1
     by_cases hD:i∈D
     ·
      have put:∀v,(∀d,o.dst=some d→f.tmps[d]? =some v)→wpAny P .any ops Q fuel (L.setIfInBounds i true) (a.put o.dst v) w:=by
       intro v hv;refine ih _ _ w D Fd alts f hp hL' hu' hfs ⟨by rw [put_size];exact hA.1,by rw [put_defs];exact hA.2.1,fun t ht=> ?_⟩ (fun j hj hl=> ?_) (fun j hj=>lst_set.2 (.inr (hFd j hj))) (fun j hj hl=>hY j hj fun h=>hl (lst_set.2 (.inr h))) hc
       · by_cases hdt:o.dst=some t
         · rw [hdt,put_self (by rw [hA.1,hfs];exact hlt t hdt),hv t hdt]
         · rw [put_at hdt]
           refine hA.2.2 t fun j hj=> ?_
           rcases lst_set.1 (ht j hj) with rfl | h
           · rw [dstOf_at ho] at hj;exact absurd hj hdt
           · exact h
       · rcases lst_set.1 hl with rfl | h
         · exact hD
         · exact hsub j hj h
      have hy:=hY i hD hul;simp only [YieldF,ho] at hy;unfold wpOp;simp only [ho];rcases hy with⟨hwt,v,hr,hv⟩ | ⟨hwf,hv⟩
      · rw [hw,hwt]
        simp only [if_true];refine .inl ?_;unfold Oper.wp;rw [he,hr];exact put v hv
      · rw [hw,hwf]
        simp only [Bool.false_eq_true,if_false];exact put undef hv
     ·
      simp only [forkOk,Bool.and_eq_true] at hp;obtain⟨⟨_,g3⟩,g4⟩:=hp
      have hix:alts.any (fun s=>s.1 == i)=true:=by
       have:=List.all_eq_true.1 g3 i (List.mem_range.2 hin)
       simp only [Bool.or_eq_true,ho] at this;rcases this with(t | t) | t
       · exact absurd (by simpa using t) hD
       · exact t
       · exfalso
         obtain⟨e,hem,heb⟩:=any_mem t;simp only [Bool.and_eq_true] at heb;obtain⟨hl,hlt2⟩:=lst_of_getD (hdeps e hem heb.1);have:=hsub e.on (by omega) hl
         simp [this] at heb
      obtain⟨⟨x,E,C,rest⟩,hsm,hx⟩:=List.any_eq_true.1 hix;have hxi:x=i:=by simpa using hx
      subst hxi;have g5:=List.all_eq_true.1 g4 _ hsm;simp only [Bool.and_eq_true] at g5;obtain⟨⟨⟨⟨h1,h2⟩,h4⟩,h5⟩,h6⟩:=g5;have hc:=hc _ hsm;have hnin:=order_nin _ _ h5
      have step:∀v ds w',wpQ P ops E (fun f2=>Chk P ops C f2 w'∧wpRest P ops Q rest f2 w') (({ f with defers:=ds }:Act).put o.dst v) w'→
       wpAny P .any ops Q fuel (L.setIfInBounds x true) (({ a with defers:=ds }:Act).put o.dst v) w':=by
       intro v ds w' hq;obtain⟨f2,⟨hC,hcont⟩,hf2s,hf2d,hf2t,hf2y⟩:=wpQ_out hs E _ _ _ h5 (by rw [put_size];exact hfs) hq;refine staged_any hs fuel _ _ w' (D++x :: E) _ rest f2 h6 hL' hu' hf2s ⟨by rw [put_size,hf2s];exact hA.1.trans hfs,by rw [put_defs,hf2d,put_defs],fun t ht=> ?_⟩ (fun j hj hl=> ?_) (fun j hj=> ?_) (fun j hj hl=> ?_) hcont
       · rw [hf2t t (fun j hj e=>by
          have hl:=ht j e
          obtain⟨hj1,hj2⟩:=hnin j hj
          rcases lst_set.1 hl with rfl | h
          · exact hj1 (by simp)
          · exact hj1 (List.mem_append_left _ (hsub j hj2 h)))]
         by_cases hdt:o.dst=some t
         · rw [hdt,put_self (by show t<a.tmps.size;rw [hA.1,hfs];exact hlt t hdt),put_self (by show t<f.tmps.size;rw [hfs];exact hlt t hdt)]
         · rw [put_at hdt,put_at hdt]
           refine hA.2.2 t fun j hj=> ?_
           rcases lst_set.1 (ht j hj) with rfl | h
           · rw [dstOf_at ho] at hj;exact absurd hj hdt
           · exact h
       · rcases lst_set.1 hl with rfl | h
         · simp
         · exact List.mem_append_left _ (hsub j hj h)
       · rcases List.mem_append.1 hj with h | h
         · exact lst_set.2 (.inr (hFd j h))
         · rcases List.mem_cons.1 h with rfl | h
           · exact lst_set.2 (.inl rfl)
           · rw [List.mem_filter] at h
             have hb:=h.2;simp only [ho,Option.any_some] at hb;exact lst_set.2 (.inr (dep_listed hdeps hb).1)
       · rcases List.mem_append.1 hj with h | h
         · have:=List.all_eq_true.1 h4 j h
           simp only [Bool.or_eq_true,ho,Option.any_some] at this;rcases this with(t | t) | t
           · exact hC j (by simpa using t)
           · exact absurd (lst_set.2 (.inr (hFd j (by simpa using t)))) hl
           · exact absurd (lst_set.2 (.inr (dep_listed hdeps t).1)) hl
         · rcases List.mem_cons.1 h with rfl | h
           · exact absurd (lst_set.2 (.inl rfl)) hl
           · exact hf2y j h
      simp only [wpRest,ho,wpList] at hc;unfold wpOp;simp only [ho];rw [hw];split
      · rename_i hwt
        rw [if_pos hwt] at hc;rcases hc with hc | ⟨_,_,_,hf⟩
        · exact .inl (oper_wp_rel he hA.2.1 (fun v ds w' h=>step v ds w' h) hc)
        · exact(hf:False).elim
      · rename_i hwf
        rw [if_neg hwf] at hc;have:=step undef f.defers w hc
        rw [← hA.2.1] at this;exact this
theorem wp_region_forked {Q:Exit→Act→World→Prop}{id:Nat}{a:Act}{w:World}(hm:P.follows .mixedOrders=true)(E0:List Nat)(alts:List (Nat × List Nat × List Nat × List (Nat × List Nat × List Nat)))
 (hsz:a.tmps.size=sz) (hs:slotsOk ops sz=true) (ho:orderOk ops [] E0=true) (hp:forkOk ops E0 [] alts=true)
 (h:wpQ P ops E0 (fun f=> ∀s∈alts,wpRest P ops Q ((s.1,s.2.1,s.2.2.1) :: s.2.2.2) f w.drew) a w.drew):(Code.region id ops true).wp P Q a w:=by
 refine wp_region_any hm ?_;obtain⟨f,hc,hfs,hfd,hft,hfy⟩:=wpQ_out hs E0 _ _ _ ho hsz h;have hno:∀i,i<ops.size→¬Lst (Array.replicate ops.size false) i:=fun i hi h=>by simp [Lst,hi,Array.getD_eq_getD_getElem?] at h
 refine forked_any hs _ _ _ _ E0 [] alts f hp (by simp) ?_ hfs ⟨hsz.trans hfs.symm,hfd.symm,fun t ht=>(hft t fun j hj e=> ?_).symm⟩ (fun i hi hl=>absurd hl (hno i hi)) (fun i hi=>by cases hi) (fun i hi _=>hfy i hi) hc
 · unfold unl
   rw [List.filter_eq_self.2]
   · simp
   · intro i hi
     have:=hno i (List.mem_range.1 hi)
     simpa [Lst] using this
 · have hj2:=(order_nin _ _ ho j hj).2
   exact hno j hj2 (ht j e)
end
end Go.Sl
namespace Go.Sl
def noDefer:Op→Bool
 | .defer _=>false
 | _=>true
def cutQ(Q:Exit→Act→World→Prop):Exit→Act→World→Prop
 | .normal,a,w=>Q .normal a w
 | .panic c,a,w=>Q (.panic c) a w
 | _,_,_=>False
theorem cutQ_out(Q:Exit→Act→World→Prop):¬LetsOut (cutQ Q):=fun h=>by
 first | exact h | exact h default default | exact h { tmps:= #[],defers:= [] } default | (obtain⟨_,_,h⟩:=h;exact h)
def slotsOkD(ops:Array Oper):Bool:=ops.all fun o=>noDefer o.op
section
variable {P:Program}{ops:Array Oper}{Q:Exit→Act→World→Prop}{l n:Nat}
theorem wpRest_cut:∀(rest:List (Nat × List Nat × List Nat)),wpRest P ops Q rest=wpRest P ops (cutQ Q) rest
 | []=>rfl
 | (x,E,C) :: rest=>by
   funext f w
   simp only [wpRest,wpRest_cut rest]
theorem oper_in {o:Oper}(hd:noDefer o.op=true){a:Act}{w:World}{next next':Act→World→Prop}(hn:∀a w,next a w→next' a w)(h:o.wp P a w next (cutQ Q)):o.wpIn (Fence.wide.inRound l) n P a w next' Q:=by
 refine⟨fun _ _=>trivial,?_⟩;have e:o.semAt (Fence.wide.inRound l).round a.eval=execOp a.eval o:=Oper.semAt_eq _ _ _ (fun c e=>by rw [e] at hd;cases hd);rw [e];unfold Oper.wp at h;generalize (execOp a.eval o).run P w=r at*;cases r with
 | ok x w'=>
   cases x with
   | value v=>exact hn _ _ h
   | skip=>exact hn _ _ h
   | defer d=>exact hn _ _ h
   | enter f args=>
     refine⟨fun h=>by simp [Fence.wide,Fence.inRound] at h,?_⟩;refine((callsIn_wide (n:=n-1)).2 h:CallsIn (Fence.wide.inRound l) (n-1) P f args w' _).mono ?_;intro e w'' he;cases e with
     | returned v=>exact hn _ _ he
     | panicked c=>exact he
     | outgrown=>exact absurd he (cutQ_out Q)
   | row row args=>
     refine⟨fun h=>by simp [Fence.wide,Fence.inRound] at h,?_⟩;have h':Rows P row args w' fun v w''=>next (a.put o.dst v) w'':=h
     exact RowsIn.mono (F:=Fence.wide.inRound l) (fun c cs _=>let ⟨v,w',r,s⟩:=h' c cs;⟨v,w',r,stepsIn_wide.2 s⟩) (fun _ _ he=>hn _ _ he)
   | _=>exact(h:False).elim
 | halt x w'=>
   cases x<;>first | exact h | exact(h:False).elim
theorem any_in(hs:slotsOkD ops=true):∀(fuel:Nat) (L:Array Bool) (a:Act) (w:World),wpAny P .any ops (cutQ Q) fuel L a w→wpAnyIn (Fence.wide.inRound l) n P .any ops Q fuel L a w:=by
 intro fuel;induction fuel with
 | zero=>intro L a w h;exact h
 | succ fuel ih=>
   intro L a w h;refine⟨fun e=>h.1 e,fun i hi=> ?_⟩;have h2:=h.2 i hi;unfold wpOp at h2;unfold wpOpIn;cases ho:ops[i]? with
   | none=>simp only [ho] at h2 ⊢;exact ih _ _ _ h2
   | some o=>
     simp only [ho] at h2 ⊢
     have hd:noDefer o.op=true:=by
      have hi2:=(Array.getElem?_eq_some_iff.1 ho);obtain⟨hi3,e⟩:=hi2;have:=Array.all_eq_true_iff_forall_mem.1 hs o (by rw [← e];exact Array.getElem_mem hi3)
      exact this
     split
     · rename_i hw
       rw [if_pos hw] at h2;rcases h2 with h2 | ⟨_,h2⟩
       · exact oper_in hd (fun a w h=>ih _ a w h) h2
       · exact absurd h2 (cutQ_out Q)
     · rename_i hw
       rw [if_neg hw] at h2;exact⟨fun _ _=>trivial,ih _ _ _ h2⟩
theorem wpIn_region_staged {sz:Nat}{id:Nat}{a:Act}{w:World}(hm:P.follows .mixedOrders=true)(E0:List Nat)(rest:List (Nat × List Nat × List Nat))
 (hsz:a.tmps.size=sz) (hs:slotsOk ops sz=true) (hsd:slotsOkD ops=true) (ho:orderOk ops [] E0=true) (hp:planOk ops E0 [] rest=true)
 (h:wpQ P ops E0 (fun f=>wpRest P ops Q rest f w.drew) a w.drew):(Code.region id ops true).wpIn (Fence.wide.inRound l) n P Q a w:=by
 refine wpIn_region_any hm (any_in hsd _ _ _ _ ?_);rw [wpRest_cut rest] at h;obtain⟨f,hc,hfs,hfd,hft,hfy⟩:=wpQ_out hs E0 _ _ _ ho hsz h;have hno:∀i,i<ops.size→¬Lst (Array.replicate ops.size false) i:=fun i hi h=>by simp [Lst,hi,Array.getD_eq_getD_getElem?] at h
 refine staged_any hs _ _ _ _ E0 [] rest f hp (by simp) ?_ hfs ⟨hsz.trans hfs.symm,hfd.symm,fun t ht=>(hft t fun j hj e=> ?_).symm⟩ (fun i hi hl=>absurd hl (hno i hi)) (fun i hi=>by cases hi) (fun i hi _=>hfy i hi) hc
 · unfold unl
   rw [List.filter_eq_self.2]
   · simp
   · intro i hi
     have:=hno i (List.mem_range.1 hi)
     simpa [Lst] using this
 · have hj2:=(order_nin _ _ ho j hj).2
   exact hno j hj2 (ht j e)
end
end Go.Sl
namespace Go.Sl
open Go.Maps Go.ChangeMaps Go.MapKept Go.WideShapes
open Go.WideElems (Fit rd rg pl rd_key rd_val rg_of)
section
variable {P:Program}{k:TypeId}{b:Nat}{f:Int→Option Value}{F:Pr}{w:World}
theorem map_len(hk:P.underlying k=some (.int .i64)){t e:TypeId}(ht:P.underlying t=some (.map k e))(ty:TypeId)(h:Sat ((MapA P k b f).star F) w):
 ∃n:Nat,(Builtin.len_ #[t] ty #[.map (some b)]).run P w= .ok (.int .i64 n) w∧∀H:List Int,H.Nodup→(∀m v,f m=some v→m∈H)→(n<H.length↔∃x∈H,f x=none):=by
 obtain⟨es,clock,hF,hM,hs,hp⟩:=mapA_iff.1 h;have hb:=hp.pts_heap;refine⟨es.size,by simp [Builtin.len_,run_underlying ht,MapKept.run_getObj_map hb,goInt,Result.andThen],fun H hH hsub=> ?_⟩;have K:=int_keyed (P:=P) hk;have hlen:((es.toList.map (rg P k heldR)).foldr DataW.insert []).length=es.size:=by rw [length_sorted];simp
 have hso:=sorted_sorted K.one _ (fit_keys hF) (fit_apart K hF);generalize hL:(es.toList.map (rg P k heldR)).foldr DataW.insert []=L at*
 have hshape:∀p∈L,∃n v,p=(Lit.int .i64 n,DataW.held v)∧f n=some v:=by
  intro p hp';have:=(mem_sorted hk hF (p:=p)).1 (by rw [hL];exact hp')
  obtain⟨x,n,hx,hkx,rfl⟩:=this;refine⟨n,x.val,rfl,(hM n x.val).2 (by rw [hL];exact hp')⟩
 let num:Lit × DataW Value→Int:=fun p=>match p.1 with | .int _ n=>n | _=>0
 have hnd:(L.map num).Nodup:=by
  rw [List.nodup_iff_pairwise_ne,List.pairwise_map];refine List.Pairwise.imp_of_mem (R:=fun p q=>p.1.before q.1=true) ?_ hso;intro p q hp1 hq1 hpq e;obtain⟨n,v,rfl,_⟩:=hshape p hp1;obtain⟨m,u,rfl,_⟩:=hshape q hq1;have e':n=m:=e;subst e';simp [Lit.before] at hpq
 have hperm:(L.map num).Perm (H.filter fun x=>(f x).isSome):=by
  refine(List.perm_ext_iff_of_nodup hnd (hH.filter _)).2 fun x=> ?_
  rw [List.mem_map,List.mem_filter];constructor
  · rintro⟨p,hp1,rfl⟩
    obtain⟨n,v,rfl,hf⟩:=hshape p hp1;exact⟨hsub n v hf,by show (f n).isSome=true;rw [hf];rfl⟩
  · rintro⟨_,hx⟩
    obtain⟨v,hv⟩:=Option.isSome_iff_exists.1 hx;exact⟨(.int .i64 x,.held v),by have:=(hM x v).1 hv;rw [hL] at this;exact this,rfl⟩
 have e1:=hperm.length_eq;rw [List.length_map,hlen] at e1;rw [e1,List.length_filter_lt_length_iff_exists];constructor
 · rintro⟨x,hx,hn⟩
   exact⟨x,hx,by simpa using hn⟩
 · rintro⟨x,hx,hn⟩
   exact⟨x,hx,by simpa using hn⟩
theorem wpList_len {ops:Array Oper}{rest:List Oper}{o:Oper}{a:Act}{Q:Exit→Act→World→Prop}(hgd:o.guard=none)(m:Operand)(t:TypeId)
 (hop:o.op= .call { callee:= .builtin .len,args:= #[m],argTypes:= #[t] })
 (hk:P.underlying k=some (.int .i64)) {e:TypeId} (ht:P.underlying t=some (.map k e)) (hm:a.eval m= .map (some b)) (h:Sat ((MapA P k b f).star F) w)
 (hK:∀n:Nat,(∀H:List Int,H.Nodup→(∀m v,f m=some v→m∈H)→(n<H.length↔∃x∈H,f x=none))→wpList P ops Q rest (a.put o.dst (.int .i64 n)) w):wpList P ops Q (o :: rest) a w:=by
 refine wpList_plain hgd fun K' hK'=> ?_
 obtain⟨n,hrun,h1⟩:=map_len (ty:=o.type) hk ht h;unfold Oper.wp execOp;simp only [hop,resolve,invoke,builtin,Sem.run_bind,Sem.run_pure,Result.andThen_ok,List.map_toArray,List.map_cons,List.map_nil,hm,hrun];exact hK' _ _ (hK n h1)
end
end Go.Sl
namespace Go.Sl
open Go.RowKit
def IterV {α:Type}(P:Program)(g:Nat)(lb:Array Value)(encs:α→Array Value)(Ok:List α→α→Prop)(Done Stop:List α→Prop)(Give:α→Pr)(Own:Pr):Prop:=
 ∀(l:Nat) (J Jx:List α→Pr) (W:World),
  (∀(Fr:Pr) pre x W1,Ok pre x→Sat (((J pre).star ((Give x).star Own)).star Fr) W1→YieldAt Fence.wide 0 P l (encs x) W1 fun e W'=>
    Stays W1 W'∧((e= .returned (.bool true)∧Sat (((J (pre++ [x])).star Own).star Fr) W')∨(e= .returned (.bool false)∧Sat (((Jx (pre++ [x])).star Own).star Fr) W')))→
  Sat ((J []).star Own) W→
  Calls P g (#[.func (.yield l) #[] #[]]++lb) W fun e W'=>(∃v,e= .returned v)∧Stays W W'∧((∃xs,Done xs∧Sat ((J xs).star Own) W')∨∃pre,Stop pre∧Sat ((Jx pre).star Own) W')
theorem wpIn_rangeFunc_v {α:Type}{n:Nat}{P:Program}{g:Operand}{ps:Array Tmp}{assign body:Code}{Q:Exit→Act→World→Prop}{a:Act}{w:World}
 {gf:Nat} {lb:Array Value} (hg:a.eval g= .func (.func gf) #[] lb) (eg:∀args w,(callFunc gf args).run P w= .ok (.enter gf args) w)
 {encs:α→Array Value} {Ok:List α→α→Prop} {Done Stop:List α→Prop} {Give:α→Pr} {Own:Pr} (hit:IterV P gf lb encs Ok Done Stop Give Own) (hps:∀x,(encs x).size=ps.size)
 (I:List α→Pr) (Ix:Code→List α→Pr) (h0:Sat ((I []).star Own) w)
 (hround:∀(l:Nat) (pre:List α) (x:α) (W:World) (F1:Pr),Ok pre x→Sat (((I pre).star ((Give x).star Own)).star F1) W→
   assign.wpIn (Fence.wide.inRound l) (n-1-1) P (Exit.then (fun a1 W1=> ∃A1:Pr,Stays W W1∧Sat (A1.star F1) W1∧
    ∀(F2:Pr) (W2:World),Stays W1 W2→Sat (A1.star F2) W2→body.wpIn (Fence.wide.inRound l) (n-1-1) P (roundEnd I Ix Own F2 (pre++ [x]) W2) a1 W2) (fun _ _ _=>False))
    { tmps:=(ps.zip (encs x)).foldl (fun t (p,v)=>t.setIfInBounds p v) a.tmps,defers:= [] } W)
 (hdone:∀(D:Nat) (xs:List α) (W:World),Done xs→Stays w W→Sat (((I xs).star Own).star (Pr.pts D (.deferred (some [])))) W→Q .normal { a with defers:= { target:= .collected D,args:= #[] } :: a.defers } W)
 (hstop:∀(D:Nat) (c:Code) (pre:List α) (W:World),Stop pre→Stays w W→Sat (((Ix c pre).star Own).star (Pr.pts D (.deferred (some [])))) W→
   c.wpIn Fence.wide n P Q { a with defers:= { target:= .collected D,args:= #[] } :: a.defers } W):
 (Code.rangeFunc g ps assign body).wpIn Fence.wide n P Q a w:=by
 refine wpIn_rangeFunc ?_;intro fn hfn;obtain⟨rec,hrec⟩:∃rec:LoopState→Option Code→Loop,rec=fun st pe=> { state:=st,pending:=pe,fn,tmps:=a.tmps,params:=ps,assign,body,defers:=w.heap.size }:=⟨_,rfl⟩
 obtain⟨W1,hW1⟩:∃W1,(w.alloc (.deferred (some []))).alloc (.loop (rec .ready none))=W1:=⟨_,rfl⟩
 have hS1:Sat ((Pr.pts (w.heap.size+1) (.loop (rec .ready none))).star ((Pr.pts w.heap.size (.deferred (some []))).star ((I []).star Own))) W1:=by
  rw [← hW1];have:=(h0.alloc (.deferred (some []))).alloc (.loop (rec .ready none))
  rwa [World.size_alloc] at this
 have hR1:Stays w W1:=by rw [← hW1];exact((Stays.refl w).alloc _).alloc _
 refine⟨w.heap.size+1,[{ target:= .collected w.heap.size,args:= #[] }],W1,{ target:= .fn (.func gf) lb,args:= #[.func (.yield (w.heap.size+1)) #[] #[]] },W1,gf,
  #[.func (.yield (w.heap.size+1)) #[] #[]]++lb,W1,?_,?_,?_,?_,fun h=>by simp [Fence.wide] at h,?_⟩
 · rw [← hW1,hrec];exact run_enterLoop_outer _ _ _ _ _
 · simp only [resolve,hg]
   simp [go_sem]
 · intro f' _;exact trivial
 · simp [invoke,go_sem,eg]
 · refine callsIn_wide.2 ((hit (w.heap.size+1)
    (fun pre=>(I pre).star ((Pr.pts (w.heap.size+1) (.loop (rec .ready none))).star (Pr.pts w.heap.size (.deferred (some [])))))
    (fun pre=>Pr.ex fun c=>(Ix c pre).star ((Pr.pts (w.heap.size+1) (.loop (rec .done (some c)))).star (Pr.pts w.heap.size (.deferred (some [])))))
    W1 ?_ (hS1.perm (by ac_rfl))).mono ?_)
   · intro Fr pre x W hpre hs
     have exr:∀(c:Code) {W':World},Sat (((Ix c (pre++ [x])).star ((Pr.pts (w.heap.size+1) (.loop (rec .done (some c)))).star (Pr.pts w.heap.size (.deferred (some []))))).star (Own.star Fr)) W'→
      Sat (((Pr.ex fun c=>(Ix c (pre++ [x])).star ((Pr.pts (w.heap.size+1) (.loop (rec .done (some c)))).star (Pr.pts w.heap.size (.deferred (some []))))).star Own).star Fr) W':=
      fun c W' h=>Sat.perm (Sat.ex.2 ⟨c,h⟩) (Pr.star_assoc _ _ _).symm
     have hs1:Sat ((Pr.pts (w.heap.size+1) (.loop (rec .ready none))).star (((I pre).star ((Give x).star Own)).star ((Pr.pts w.heap.size (.deferred (some []))).star Fr))) W:=hs.perm (by ac_rfl);have hl:=hs1.pts_heap;have hy:=run_yield (P:=P) (args:=encs x) hl (by rw [hrec];exact hps x);rw [hrec] at hy;refine⟨fn,_,assign,body,hy,roundIn_any (n:=n-1-1) (roundIn_of_wpIn hfn ?_)⟩
     refine wpIn_mono (hround (w.heap.size+1) pre x W ((Pr.pts (w.heap.size+1) (.loop (rec .ready none))).star ((Pr.pts w.heap.size (.deferred (some []))).star Fr)) hpre (hs1.perm (by ac_rfl))) ?_;rintro e a1 W2 hp;cases e with
     | normal=>
       obtain⟨A1,hR2,hs2,hb⟩:=hp;have hs3:Sat ((Pr.pts (w.heap.size+1) (.loop (rec .ready none))).star (A1.star ((Pr.pts w.heap.size (.deferred (some []))).star Fr))) W2:=hs2.perm (by ac_rfl);refine⟨_,run_beginRound hs3.pts_heap (by rw [hrec]),?_⟩;have hs4:=hs3.putObj (.loop { rec .ready none with state:= .busy })
       refine wpIn_mono (hb ((Pr.pts (w.heap.size+1) (.loop { rec .ready none with state:= .busy })).star ((Pr.pts w.heap.size (.deferred (some []))).star Fr)) _ ((Stays.refl W2).putObj _ _) (hs4.perm (by ac_rfl))) ?_
       have fin:∀(jump:Option Code) (B:Pr) (W3:World),Sat (B.star ((Pr.pts (w.heap.size+1) (.loop { rec .ready none with state:= .busy })).star ((Pr.pts w.heap.size (.deferred (some []))).star Fr))) W3→
        (Instr.endRound (w.heap.size+1) jump).run P W3= .ok (.bool jump.isNone) (W3.putObj (w.heap.size+1) (.loop (rec (if jump.isNone then .ready else .done) jump)))∧
        Sat (B.star ((Pr.pts (w.heap.size+1) (.loop (rec (if jump.isNone then .ready else .done) jump))).star ((Pr.pts w.heap.size (.deferred (some []))).star Fr))) (W3.putObj (w.heap.size+1) (.loop (rec (if jump.isNone then .ready else .done) jump))):=fun jump B W3 h3=>by
        have h4:Sat ((Pr.pts (w.heap.size+1) (.loop { rec .ready none with state:= .busy })).star (B.star ((Pr.pts w.heap.size (.deferred (some []))).star Fr))) W3:=h3.perm (by ac_rfl);have:=run_endRound (P:=P) jump h4.pts_heap
        rw [hrec] at this ⊢;exact⟨this,(h4.putObj _).perm (by ac_rfl)⟩
       have hRb:Stays W W2:=hR2;rintro e a3 W3 hp3;cases e with
       | normal=>
         obtain⟨hR3,hs5⟩:=hp3;obtain⟨hr,hs6⟩:=fin none _ W3 hs5;exact⟨_,_,hr,(hRb.trans (((Stays.refl W2).putObj _ _).trans hR3)).putObj _ _,.inl ⟨rfl,hs6.perm (by ac_rfl)⟩⟩
       | ret=>
         obtain⟨hR3,hs5⟩:=hp3;obtain⟨hr,hs6⟩:=fin (some .ret) _ W3 hs5;exact⟨_,_,hr,(hRb.trans (((Stays.refl W2).putObj _ _).trans hR3)).putObj _ _,.inr ⟨rfl,exr .ret (hs6.perm (by ac_rfl))⟩⟩
       | exit id=>
         obtain⟨hR3,hs5⟩:=hp3;obtain⟨hr,hs6⟩:=fin (some (.exit id)) _ W3 hs5;exact⟨_,_,hr,(hRb.trans (((Stays.refl W2).putObj _ _).trans hR3)).putObj _ _,.inr ⟨rfl,exr (.exit id) (hs6.perm (by ac_rfl))⟩⟩
       | goto t=>
         obtain⟨hR3,hs5⟩:=hp3;obtain⟨hr,hs6⟩:=fin (some (.goto t)) _ W3 hs5;exact⟨_,_,hr,(hRb.trans (((Stays.refl W2).putObj _ _).trans hR3)).putObj _ _,.inr ⟨rfl,exr (.goto t) (hs6.perm (by ac_rfl))⟩⟩
       | panic ch=>exact hp3.elim
       | outgrown=>exact hp3.elim
     | ret=>exact hp.elim
     | exit id=>exact hp.elim
     | goto t=>exact hp.elim
     | panic ch=>exact hp.elim
     | outgrown=>exact hp.elim
   · rintro e W2 ⟨⟨v,rfl⟩,hR2,(⟨xs,hxs,hs2⟩ | ⟨pre,hpre,hs2⟩)⟩
     · have hs3:Sat ((Pr.pts (w.heap.size+1) (.loop (rec .ready none))).star (((I xs).star Own).star (Pr.pts w.heap.size (.deferred (some []))))) W2:=hs2.perm (by ac_rfl)
       have hs4:=hs3.putObj (.loop { rec .ready none with state:= .exhausted });refine⟨none,_,by have:=run_endLoop (P:=P) hs3.pts_heap (by rw [hrec];simp);rw [hrec] at this;exact this,hdone w.heap.size xs _ hxs ((hR1.trans hR2).putObj _ _) ?_⟩;rw [hrec] at hs4;exact hs4.right
     · obtain⟨c,hs2⟩:=Sat.ex.1 hs2
       have hs3:Sat ((Pr.pts (w.heap.size+1) (.loop (rec .done (some c)))).star (((Ix c pre).star Own).star (Pr.pts w.heap.size (.deferred (some []))))) W2:=hs2.perm (by ac_rfl);have hs4:=hs3.putObj (.loop { rec .done (some c) with state:= .exhausted })
       refine⟨some c,_,by have:=run_endLoop (P:=P) hs3.pts_heap (by rw [hrec];simp);rw [hrec] at this;exact this,hstop w.heap.size c pre _ hpre ((hR1.trans hR2).putObj _ _) ?_⟩;rw [hrec] at hs4;exact hs4.right
theorem wp_rangeFunc_v {α:Type}(n:Nat){P:Program}{g:Operand}{ps:Array Tmp}{assign body:Code}{Q:Exit→Act→World→Prop}{a:Act}{w:World}
 {gf:Nat} {lb:Array Value} (hg:a.eval g= .func (.func gf) #[] lb) (eg:∀args w,(callFunc gf args).run P w= .ok (.enter gf args) w)
 {encs:α→Array Value} {Ok:List α→α→Prop} {Done Stop:List α→Prop} {Give:α→Pr} {Own:Pr} (hit:IterV P gf lb encs Ok Done Stop Give Own) (hps:∀x,(encs x).size=ps.size)
 (I:List α→Pr) (Ix:Code→List α→Pr) (h0:Sat ((I []).star Own) w)
 (hround:∀(l:Nat) (pre:List α) (x:α) (W:World) (F1:Pr),Ok pre x→Sat (((I pre).star ((Give x).star Own)).star F1) W→
   assign.wpIn (Fence.wide.inRound l) (n-1-1) P (Exit.then (fun a1 W1=> ∃A1:Pr,Stays W W1∧Sat (A1.star F1) W1∧
    ∀(F2:Pr) (W2:World),Stays W1 W2→Sat (A1.star F2) W2→body.wpIn (Fence.wide.inRound l) (n-1-1) P (roundEnd I Ix Own F2 (pre++ [x]) W2) a1 W2) (fun _ _ _=>False))
    { tmps:=(ps.zip (encs x)).foldl (fun t (p,v)=>t.setIfInBounds p v) a.tmps,defers:= [] } W)
 (hdone:∀(D:Nat) (xs:List α) (W:World),Done xs→Stays w W→Sat (((I xs).star Own).star (Pr.pts D (.deferred (some [])))) W→Q .normal { a with defers:= { target:= .collected D,args:= #[] } :: a.defers } W)
 (hstop:∀(D:Nat) (c:Code) (pre:List α) (W:World),Stop pre→Stays w W→Sat (((Ix c pre).star Own).star (Pr.pts D (.deferred (some [])))) W→
   c.wp P Q { a with defers:= { target:= .collected D,args:= #[] } :: a.defers } W):
 (Code.rangeFunc g ps assign body).wp P Q a w:=
 wpIn_wide.1 (wpIn_rangeFunc_v (n:=n) hg eg hit hps I Ix h0 hround hdone (fun D c pre W h1 h2 h3=>wpIn_wide.2 (hstop D c pre W h1 h2 h3)))
end Go.Sl
namespace Go.Sl
open Go.RowKit
end Go.Sl
