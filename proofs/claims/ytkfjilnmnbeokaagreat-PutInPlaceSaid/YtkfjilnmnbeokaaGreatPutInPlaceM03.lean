/- A map with integer keys as a function, owned whole: read, written, struck. Plain lemmas over any program. -/
import Derived.Test.YtkfjilnmnbeokaaGreatPutInPlaceM02
import Derived.Maps.Own
import Derived.Test.YtkfjilnmnbeokaaGreatPutInPlaceM01
import Derived.BigQuiet
import Derived.Maps.OwnSet
set_option maxRecDepth 100000
set_option maxHeartbeats 16000000
namespace Go.Sl
open Go.Maps Go.ChangeMaps Go.MapKept Go.WideShapes
open Go.WideElems (Fit rd rg pl rd_key rd_val rg_of)
def heldR(v:Value):Option (DataW Value × List MemPlace):=some (.held v,[])
def MapFn(P:Program)(k:TypeId)(es:Array MapEntry)(f:Int→Option Value):Prop:=
 ∀n v,f n=some v↔(Lit.int .i64 n,DataW.held v)∈(es.toList.map (rg P k heldR)).foldr DataW.insert []
def SmallKeys(f:Int→Option Value):Prop:= ∀n v,f n=some v→1≤n∧n≤65536
def MapA(P:Program)(k:TypeId)(b:Nat)(f:Int→Option Value):Pr:=
 Pr.ex fun x:Array MapEntry × Nat=>(Pr.pure (Fit P k heldR x.1 x.2∧MapFn P k x.1 f∧SmallKeys f)).star (Pr.pts b (.map x.1 x.2))
section
variable {P:Program}{k:TypeId}{b:Nat}{f:Int→Option Value}{F:Pr}{w:World}
theorem mapA_iff:Sat ((MapA P k b f).star F) w↔∃es clock,Fit P k heldR es clock∧MapFn P k es f∧SmallKeys f∧Sat ((Pr.pts b (.map es clock)).star F) w:=by
 unfold MapA;rw [Sat.ex];constructor
 · rintro⟨⟨es,c⟩,h⟩
   rw [Pr.star_assoc] at h;obtain⟨⟨h1,h2,h3⟩,h4⟩:=Sat.pure.1 h;exact⟨es,c,h1,h2,h3,h4⟩
 · rintro⟨es,c,h1,h2,h3,h4⟩
   refine⟨(es,c),?_⟩;rw [Pr.star_assoc];exact Sat.pure.2 ⟨⟨h1,h2,h3⟩,h4⟩
theorem key_int(hk:P.underlying k=some (.int .i64)){v:Value}{l:Lit}(h:keyOf P k v=some l):∃n,v= .int .i64 n∧l= .int .i64 n:=by
 simp only [keyOf,hk] at h;cases v<;>simp [mapKey,hk] at h;obtain⟨h1,h2⟩:=h;obtain⟨h3,_⟩:=h1;subst h3;exact⟨_,rfl,h2.symm⟩
theorem key_mk(hk:P.underlying k=some (.int .i64)){n:Int}(hn:1≤n∧n≤65536):keyOf P k (.int .i64 n)=some (.int .i64 n):=by
 refine keyOf_int_mk hk ?_;have h1:IntKind.i64.min= -9223372036854775808:=by decide
 have h2:IntKind.i64.max=9223372036854775807:=by decide
 simp only [Lit.wf,Bool.and_eq_true,decide_eq_true_eq,h1,h2];omega
theorem mem_sorted(hk:P.underlying k=some (.int .i64)){es:Array MapEntry}{clock:Nat}(hF:Fit P k heldR es clock){p:Lit × DataW Value}:
 p∈(es.toList.map (rg P k heldR)).foldr DataW.insert []↔∃x n,x∈es.toList∧x.key= .int .i64 n∧p=(.int .i64 n,.held x.val):=by
 rw [(sorted_perm _).mem_iff,List.mem_map];constructor
 · rintro⟨x,hx,rfl⟩
   obtain⟨y,hy⟩:=hF.reads x hx;obtain⟨n,h1,h2⟩:=key_int hk (rd_key hy);obtain⟨z,h3,h4⟩:=rd_val hy;cases h3;refine⟨x,n,hx,h1,?_⟩;rw [rg_of hy];exact Prod.ext h2 h4
 · rintro⟨x,n,hx,h1,rfl⟩
   obtain⟨y,hy⟩:=hF.reads x hx;obtain⟨m,h2,h3⟩:=key_int hk (rd_key hy);obtain⟨z,h4,h5⟩:=rd_val hy;cases h4;refine⟨x,hx,?_⟩;rw [rg_of hy];rw [h1] at h2;cases h2;exact Prod.ext h3 h5
theorem sorted_len(L:List (Lit × DataW Value)):∀a:Int,L.Pairwise (fun p q=>p.1.before q.1=true)→(∀p∈L,∃n,p.1= .int .i64 n∧a≤n∧n≤65536)→(L.length:Int)≤max 0 (65537-a):=by
 induction L with
 | nil=>intro a _ _;simp;omega
 | cons p L ih=>
   intro a hp hm;obtain⟨h1,h2⟩:=List.pairwise_cons.1 hp;obtain⟨n,e,ha,hb⟩:=hm p (by simp)
   have:=ih (n+1) h2 (fun q hq=>by
    obtain⟨m,e2,_,h4⟩:=hm q (by simp [hq])
    have h5:=h1 q hq
    rw [e,e2] at h5
    simp [Lit.before] at h5
    exact⟨m,e2,by omega,h4⟩)
   simp only [List.length_cons];omega
theorem fit_small(hk:P.underlying k=some (.int .i64)){es:Array MapEntry}{clock:Nat}(hF:Fit P k heldR es clock)(hM:MapFn P k es f)(hs:SmallKeys f):es.size<maxLen:=by
 have K:=int_keyed (P:=P) hk
 have h1:=sorted_len _ 1 (sorted_sorted K.one _ (fit_keys hF) (fit_apart K hF)) (fun p hp=>by
  obtain⟨x,n,hx,hkx,rfl⟩:=(mem_sorted hk hF).1 hp
  have:=hs n x.val ((hM n x.val).2 hp)
  exact⟨n,rfl,this.1,this.2⟩)
 rw [length_sorted] at h1;simp only [List.length_map,Array.length_toList] at h1;simp only [maxLen];omega
theorem map_look(hk:P.underlying k=some (.int .i64)){t e:TypeId}(ht:P.underlying t=some (.map k e)){z:Value}(hz:(zeroValue e).run P w= .ok z w)(c:Bool){n:Int}(hn:1≤n∧n≤65536)(h:Sat ((MapA P k b f).star F) w):
 (Instr.lookup t (.map (some b)) (.int .i64 n) c).run P w= .ok (if c then .tuple #[(f n).getD z,.bool (f n).isSome] else(f n).getD z) w:=by
 obtain⟨es,clock,hF,hM,hs,hp⟩:=mapA_iff.1 h;rcases fit_look c (int_keyed hk) ht hz hp.pts_heap hF (key_mk hk hn) with⟨h1,h2,_⟩ | ⟨e0,y,h1,h2,h3,_⟩
 · have:f n=none:=by
    cases hf:f n with
    | none=>rfl
    | some v=>
      obtain⟨x,m,hx,hkx,hpx⟩:=(mem_sorted hk hF).1 ((hM n v).1 hf);cases hpx;exact absurd hkx (h2 x hx)
   rw [h1,this];rfl
 · have:f n=some e0.val:=(hM n e0.val).2 ((mem_sorted hk hF).2 ⟨e0,n,h1,h2,rfl⟩)
   rw [h3,this];rfl
theorem notKey_int {n m:Int}{v:DataW Value}:notKey (Lit.int .i64 n) (Lit.int .i64 m,v)=true↔m≠n:=by
 simp [notKey,Lit.sameKey]
theorem map_put(hk:P.underlying k=some (.int .i64)){t e:TypeId}(ht:P.underlying t=some (.map k e)){n:Int}(hn:1≤n∧n≤65536)(v:Value)(h:Sat ((MapA P k b f).star F) w):
 ∃w',(Instr.mapUpdate t (.map (some b)) (.int .i64 n) v).run P w= .ok () w'∧Sat ((MapA P k b (fun m=>if m=n then some v else f m)).star F) w'∧w.grownBy w' (some b):=by
 obtain⟨es,clock,hF,hM,hs,hp⟩:=mapA_iff.1 h;have hb:=hp.pts_heap;obtain⟨es',clock',hrun,F',hput,_⟩:=fit_store (R':=heldR) (int_keyed hk) ht hb hF (fit_small hk hF hM hs) (fun _ _ _ _ hz=>hz) (key_mk hk hn) (yv:=(.held v,[])) (val:=v) rfl
 refine⟨_,hrun,mapA_iff.2 ⟨es',clock',F',fun m u=> ?_,fun m u hu=> ?_,?_⟩,⟨rfl,rfl,rfl,by simp [setBlock],fun i _ hi=>heap_setBlock_other hb _ (fun e=>hi (by rw [e]))⟩⟩
 · rw [hput]
   unfold putKey;rw [mem_insert_iff,List.mem_filter,notKey_int, ← hM];by_cases hm:m=n
   · subst hm;simp;exact eq_comm
   · simp [hm]
 · by_cases hm:m=n
   · subst hm;exact hn
   · exact hs m u (by simpa [hm] using hu)
 · exact hp.put (heap_setBlock_same hb _) (fun i _ hi=>heap_setBlock_other hb _ hi)
theorem map_del(hk:P.underlying k=some (.int .i64)){t e ty:TypeId}(ht:P.underlying t=some (.map k e)){n:Int}(hn:1≤n∧n≤65536)(h:Sat ((MapA P k b f).star F) w):
 ∃w',(Builtin.delete_ #[t,k] ty #[.map (some b),.int .i64 n]).run P w= .ok (.tuple #[]) w'∧Sat ((MapA P k b (fun m=>if m=n then none else f m)).star F) w'∧w.grownBy w' (some b):=by
 obtain⟨es,clock,hF,hM,hs,hp⟩:=mapA_iff.1 h;have hb:=hp.pts_heap;obtain⟨es',hrun,F',_,hput,_⟩:=fit_drop (ty:=ty) (int_keyed hk) ht hb hF (key_mk hk hn);refine⟨_,hrun,mapA_iff.2 ⟨es',clock,F',fun m u=> ?_,fun m u hu=> ?_,?_⟩,⟨rfl,rfl,rfl,by simp [setBlock],fun i _ hi=>heap_setBlock_other hb _ (fun e=>hi (by rw [e]))⟩⟩
 · rw [hput]
   unfold delKey;rw [List.mem_filter,notKey_int, ← hM];by_cases hm:m=n
   · subst hm;simp
   · simp [hm]
 · by_cases hm:m=n
   · simp [hm] at hu
   · exact hs m u (by simpa [hm] using hu)
 · exact hp.put (heap_setBlock_same hb _) (fun i _ hi=>heap_setBlock_other hb _ hi)
theorem map_made(h:Sat F w):Sat ((MapA P k w.heap.size fun _=>none).star F) (w.alloc (.map #[] 0)):=
 mapA_iff.2 ⟨#[],0,⟨by simp,stamped_empty 0,by simp⟩,fun n v=>by simp,(fun n v h=>by cases h),h.alloc _⟩
theorem wpList_look {ops:Array Oper}{rest:List Oper}{o:Oper}{a:Act}{Q:Exit→Act→World→Prop}(hgd:o.guard=none)(m x:Operand)(t:TypeId)(c:Bool)(hop:o.op=Op.lookup t m x c)
 (hk:P.underlying k=some (.int .i64)) {e:TypeId} (ht:P.underlying t=some (.map k e)) (z:Value) (hz:(zeroValue e).run P w= .ok z w) (n:Int) (hn:1≤n∧n≤65536)
 (hm:a.eval m= .map (some b)) (hx:a.eval x= .int .i64 n) (h:Sat ((MapA P k b f).star F) w)
 (hK:wpList P ops Q rest (a.put o.dst (if c then .tuple #[(f n).getD z,.bool (f n).isSome] else(f n).getD z)) w):wpList P ops Q (o :: rest) a w:=by
 refine wpList_plain hgd fun K' hK'=> ?_
 have hrun:=map_look hk ht hz c hn h;unfold Oper.wp;simp [execOp,hop,hm,hx,hrun,Result.andThen]
 exact hK' _ _ hK
theorem wpList_put {ops:Array Oper}{rest:List Oper}{o:Oper}{a:Act}{Q:Exit→Act→World→Prop}(hgd:o.guard=none)(m x u:Operand)(t:TypeId)(hop:o.op=Op.mapUpdate t m x u)
 (hk:P.underlying k=some (.int .i64)) {e:TypeId} (ht:P.underlying t=some (.map k e)) (n:Int) (hn:1≤n∧n≤65536) (v:Value)
 (hm:a.eval m= .map (some b)) (hx:a.eval x= .int .i64 n) (hv:a.eval u=v) (h:Sat ((MapA P k b f).star F) w)
 (hK:∀w',Sat ((MapA P k b (fun m=>if m=n then some v else f m)).star F) w'→w.grownBy w' (some b)→wpList P ops Q rest (a.put o.dst undef) w'):wpList P ops Q (o :: rest) a w:=by
 refine wpList_plain hgd fun K' hK'=> ?_
 obtain⟨w',hrun,h1,h2⟩:=map_put hk ht hn v h;unfold Oper.wp;simp [execOp,hop,hm,hx,hv,hrun,Result.andThen]
 exact hK' _ _ (hK w' h1 h2)
theorem wpList_del {ops:Array Oper}{rest:List Oper}{o:Oper}{a:Act}{Q:Exit→Act→World→Prop}(hgd:o.guard=none)(m x:Operand)(t:TypeId)
 (hop:o.op= .call { callee:= .builtin .delete,args:= #[m,x],argTypes:= #[t,k] })
 (hk:P.underlying k=some (.int .i64)) {e:TypeId} (ht:P.underlying t=some (.map k e)) (n:Int) (hn:1≤n∧n≤65536)
 (hm:a.eval m= .map (some b)) (hx:a.eval x= .int .i64 n) (h:Sat ((MapA P k b f).star F) w)
 (hK:∀w',Sat ((MapA P k b (fun m=>if m=n then none else f m)).star F) w'→w.grownBy w' (some b)→wpList P ops Q rest (a.put o.dst (.tuple #[])) w'):wpList P ops Q (o :: rest) a w:=by
 refine wpList_plain hgd fun K' hK'=> ?_
 obtain⟨w',hrun,h1,h2⟩:=map_del (ty:=o.type) hk ht hn h;unfold Oper.wp execOp;simp only [hop,resolve,invoke,builtin,Sem.run_bind,Sem.run_pure,Result.andThen_ok,List.map_toArray,List.map_cons,List.map_nil,hm,hx,hrun];exact hK' _ _ (hK w' h1 h2)
end
end Go.Sl
namespace Go.Sl
section
variable {P:Program}{ops:Array Oper}
def plainOp:Op→Bool
 | .move _ | .assign _ | .fieldAddr .. | .indexAddr .. | .load .. | .binOp .. | .unOp .. | .pick .. | .build .. | .nilCheck _ | .extract .. | .lookup .. | .field .. | .index .. | .convert .. =>true
 | _=>false
theorem bindv {w w':World}{n:Next}(s:Sem Value)(h:Sem.run P (do pure (.value (← s)):Sem Next) w= .ok n w'):∃v,n= .value v:=by
 rw [Sem.run_bind] at h;cases hr:s.run P w with
 | ok x w1=>
   rw [hr] at h;simp only [Result.andThen,Sem.run_pure] at h;cases h;exact⟨x,rfl⟩
 | halt x w1=>rw [hr] at h;cases h
theorem bind_ok {α β:Type}{s:Sem α}{k:α→Sem β}{w w':World}{n:β}(h:Sem.run P (s >>=k) w= .ok n w'):∃x w1,s.run P w= .ok x w1∧(k x).run P w1= .ok n w':=by
 rw [Sem.run_bind] at h;cases hr:s.run P w with
 | ok x w1=>rw [hr] at h;exact⟨x,w1,rfl,h⟩
 | halt x w1=>rw [hr] at h;cases h
theorem plain_value {o:Oper}{ρ:Operand→Value}{w w':World}{n:Next}(hp:plainOp o.op=true)(h:(execOp ρ o).run P w= .ok n w'):∃v,n= .value v:=by
 unfold execOp at h;cases ho:o.op<;>rw [ho] at hp h<;>first | (cases hp;done) | exact bindv _ h | skip
 · cases h;exact⟨_,rfl⟩
 · cases h;exact⟨_,rfl⟩
 · rename_i c a b
   dsimp only at h;rw [Sem.run_bind] at h;cases hr:(asBool (ρ c)).run P w with
   | ok x w1=>
     rw [hr] at h;cases x<;>(cases h;exact⟨_,rfl⟩)
   | halt x w1=>rw [hr] at h;cases h
 · dsimp only at h
   split at h
   any_goals (first | (cases h;exact⟨_,rfl⟩) | (simp [runtimePanic] at h;done) | skip)
   split at h
   · simp [runtimePanic] at h
   · obtain⟨_,_,_,h⟩:=bind_ok h
     obtain⟨_,_,_,h⟩:=bind_ok h;split at h
     · obtain⟨_,_,_,h⟩:=bind_ok h
       cases h;exact⟨_,rfl⟩
     · cases h;exact⟨_,rfl⟩
   · cases h;exact⟨_,rfl⟩
theorem quiet_yield {o:Oper}{a:Act}{w:World}{Q:Act→Prop}(hp:plainOp o.op=true)(h:wpQuiet P ops (fun w'=> ∃n,w'=w.drewN n) Q [o] a):
 (Region.wanted o (yielded ops a.tmps)=true∧∃v,(execOp a.eval o).run P w= .ok (.value v) w∧Q (a.put o.dst v))∨
 (Region.wanted o (yielded ops a.tmps)=false∧Q (a.put o.dst undef)):=by
 unfold wpQuiet at h;split at h
 · rename_i hw
   obtain⟨v,hv,hq⟩:=h;refine .inl ⟨hw,v,?_,hq⟩;have:=hv w ⟨0,rfl⟩
   unfold Oper.quietAt at this;cases hr:(execOp a.eval o).run P w with
   | ok n w1=>
     rw [hr] at this;obtain⟨u,rfl⟩:=plain_value hp hr;obtain⟨rfl,rfl⟩:=this;rfl
   | halt x w1=>rw [hr] at this;exact this.elim
 · rename_i hw
   exact .inr ⟨by simpa using hw,h⟩
theorem wpQ_big {i:Nat}{l:List Nat}{N:Act→Prop}{a:Act}{w:World}{o:Oper}(ho:ops[i]? =some o)(hp:plainOp o.op=true)
 (h:wpQuiet P ops (fun w'=> ∃n,w'=w.drewN n) (fun a'=>wpQ P ops l N a' w) [o] a):wpQ P ops (i :: l) N a w:=by
 simp only [wpQ,ho];exact quiet_yield hp h
theorem yieldF_big {c:Nat}{f:Act}{w:World}{o:Oper}(ho:ops[c]? =some o)(hp:plainOp o.op=true)(hs:(match o.dst with | some d=>decide (d<f.tmps.size) | none=>true)=true)
 (h:wpQuiet P ops (fun w'=> ∃n,w'=w.drewN n) (fun a'=>a'=f) [o] f):YieldF P ops c f w:=by
 have put:∀v d,o.dst=some d→f.put o.dst v=f→f.tmps[d]? =some v:=by
  intro v d hd e;rw [hd] at hs e;have hlt:d<f.tmps.size:=by simpa using hs
  have e2:=congrArg Act.tmps e;rw [← e2];simp [Act.put,hlt]
 simp only [YieldF,ho];rcases quiet_yield hp h with⟨h1,v,h2,h3⟩ | ⟨h1,h3⟩
 · exact .inl ⟨h1,v,h2,fun d hd=>put v d hd h3⟩
 · exact .inr ⟨h1,fun d hd=>put undef d hd h3⟩
def pick(L:List Oper):List Nat→List Oper
 | []=> []
 | i :: l=>(L.drop i).take 1++pick L l
theorem pick_cons {L:List Oper}{i:Nat}{l:List Nat}(h:i<L.length):pick L (i :: l)=L[i] :: pick L l:=by
 show (L.drop i).take 1++pick L l=_
 rw [List.drop_eq_getElem_cons h];rfl
theorem quiet_cons {o:Oper}{l:List Oper}{a:Act}{C:World→Prop}{Q:Act→Prop}(h:wpQuiet P ops C Q (o :: l) a):wpQuiet P ops C (fun a'=>wpQuiet P ops C Q l a') [o] a:=by
 unfold wpQuiet at h ⊢;split at h
 · rename_i hw
   rw [if_pos hw];exact h
 · rename_i hw
   rw [if_neg hw];exact h
theorem wpQ_all {L:List Oper}(l:List Nat){N:Act→Prop}{a:Act}{w:World}(hl:(l.all fun i=>decide (i<L.length))=true)(hp:((pick L l).all fun o=>plainOp o.op)=true)
 (h:wpQuiet P L.toArray (fun w'=> ∃n,w'=w.drewN n) N (pick L l) a):wpQ P L.toArray l N a w:=by
 induction l generalizing a with
 | nil=>exact h
 | cons i l ih=>
   simp only [List.all_cons,Bool.and_eq_true,decide_eq_true_eq] at hl;rw [pick_cons hl.1] at h hp;simp only [List.all_cons,Bool.and_eq_true] at hp;refine wpQ_big (o:=L[i]) (by simp [hl.1]) hp.1 ?_;have h2:=quiet_cons h;unfold wpQuiet at h2 ⊢;split at h2
   · rename_i hw
     rw [if_pos hw];obtain⟨v,hv,hq⟩:=h2;exact⟨v,hv,ih hl.2 hp.2 hq⟩
   · rename_i hw
     rw [if_neg hw];exact ih hl.2 hp.2 h2
theorem wpQ_cut {ops:Array Oper}(l1 l2:List Nat){N:Act→Prop}{w:World}:∀ {a:Act},wpQ P ops l1 (fun a'=>wpQ P ops l2 N a' w) a w→wpQ P ops (l1++l2) N a w:=by
 induction l1 with
 | nil=>intro a h;exact h
 | cons i l1 ih=>
   intro a h;simp only [List.cons_append,wpQ] at h ⊢;split at h
   · exact h.elim
   · rcases h with⟨h1,v,h2,h3⟩ | ⟨h1,h2⟩
     · exact .inl ⟨h1,v,h2,ih h3⟩
     · exact .inr ⟨h1,ih h2⟩
theorem chk_cut {ops:Array Oper}(l1 l2:List Nat){f:Act}{w:World}(h1:Chk P ops l1 f w)(h2:Chk P ops l2 f w):Chk P ops (l1++l2) f w:=fun i hi=>(List.mem_append.1 hi).elim (h1 i) (h2 i)
theorem exec_look {o:Oper}{ρ:Operand→Value}{w:World}{t:TypeId}{m x:Operand}{c:Bool}{v:Value}(ho:o.op= .lookup t m x c)(h:(Instr.lookup t (ρ m) (ρ x) c).run P w= .ok v w):(execOp ρ o).run P w= .ok (.value v) w:=by
 unfold execOp;rw [ho];show Sem.run P (do pure (.value (← Instr.lookup t (ρ m) (ρ x) c)):Sem Next) w=_
 rw [Sem.run_bind,h];rfl
theorem wpQ_look {i:Nat}{l:List Nat}{N:Act→Prop}{a:Act}{w:World}{o:Oper}{t:TypeId}{m x:Operand}{c:Bool}{v:Value}(ho:ops[i]? =some o)(hop:o.op= .lookup t m x c)(hw:Region.wanted o (yielded ops a.tmps)=true)
 (hrun:(Instr.lookup t (a.eval m) (a.eval x) c).run P w= .ok v w) (h:wpQ P ops l N (a.put o.dst v) w):wpQ P ops (i :: l) N a w:=by
 simp only [wpQ,ho];exact .inl ⟨hw,v,exec_look hop hrun,h⟩
def Same(P:Program)(ops:Array Oper)(C:World→Prop)(f:Act):List Oper→Prop
 | []=>True
 | o :: l=>wpQuiet P ops C (fun a'=>a'=f) [o] f∧Same P ops C f l
theorem chk_all {L:List Oper}(l:List Nat){f:Act}{w:World}(hl:(l.all fun i=>decide (i<L.length))=true)
 (hp:((pick L l).all fun o=>plainOp o.op && (match o.dst with | some d=>decide (d<f.tmps.size) | none=>true))=true)
 (h:Same P L.toArray (fun w'=> ∃n,w'=w.drewN n) f (pick L l)):Chk P L.toArray l f w:=by
 induction l with
 | nil=>exact chk_nil
 | cons i l ih=>
   simp only [List.all_cons,Bool.and_eq_true,decide_eq_true_eq] at hl;rw [pick_cons hl.1] at h hp;simp only [List.all_cons,Bool.and_eq_true] at hp;exact chk_cons (yieldF_big (o:=L[i]) (by simp [hl.1]) hp.1.1 hp.1.2 h.1) (ih hl.2 (by simpa using hp.2) h.2)
end
end Go.Sl
namespace Go.Sl
open Go.RowKit
theorem cQ {P:Program}{L:List Oper}{l:List Nat}{f:Act}{w:World}(hl:(l.all fun i=>decide (i<L.length))=true:=by rfl)(hp:((pick L l).all fun o=>plainOp o.op && (match o.dst with | some d=>decide (d<f.tmps.size) | none=>true))=true:=by rfl)
 (h:Same P L.toArray (fun w'=>∃n,w'=w.drewN n) f (pick L l):=by
  simp only [Go.Sl.pick,Go.Sl.Same,Go.pQ,and_true]
  repeat' (first | apply And.intro | (go_big_quiet_step (fail);exact Go.wpQuiet_nil rfl))):Chk P L.toArray l f w:=chk_all l hl hp h
end Go.Sl
namespace Go.Sl
def forkOk(ops:Array Oper)(D Fd:List Nat)(alts:List (Nat × List Nat × List Nat × List (Nat × List Nat × List Nat))):Bool:=
 !alts.isEmpty && ((List.range ops.size).all fun i=>D.contains i || alts.any (fun s=>s.1 == i) || (match ops[i]? with
   | none=>true
   | some o=>o.after.any fun e=>Region.binds .any e && !D.contains e.on)) &&
 alts.all fun s=> !D.contains s.1 && decide (s.1<ops.size) &&
  (D.all fun i=>s.2.2.1.contains i || Fd.contains i || (ops[s.1]?).any fun o=>bindsOn o i) &&
  orderOk ops (D++ [s.1]) s.2.1 &&
  planOk ops (D++s.1 :: s.2.1) (Fd++s.1 :: D.filter fun i=>(ops[s.1]?).any fun o=>bindsOn o i) s.2.2.2
section
variable {P:Program}{ops:Array Oper}{sz:Nat}
theorem forked_any {Q:Exit→Act→World→Prop}(hs:slotsOk ops sz=true):∀(fuel:Nat) (L:Array Bool) (a:Act) (w:World) (D Fd:List Nat) (alts:List (Nat × List Nat × List Nat × List (Nat × List Nat × List Nat))) (f:Act),
 forkOk ops D Fd alts=true→L.size=ops.size→unl ops L=fuel→f.tmps.size=sz→Agree ops L a f→(∀i,i<ops.size→Lst L i→i∈D)→(∀i∈Fd,Lst L i)→
 (∀i∈D,¬Lst L i→YieldF P ops i f w)→(∀s∈alts,wpRest P ops Q ((s.1,s.2.1,s.2.2.1) :: s.2.2.2) f w)→wpAny P .any ops Q fuel L a w:=by
 intro fuel;induction fuel with
 | zero=>
   intro L a w D Fd alts f hp hL hu hfs hA hsub hFd hY hc;exfalso
   have hall:∀i,i<ops.size→Lst L i:=fun i hi=>by
    have h0:(List.range ops.size).filter (fun i=> !L.getD i true)= []:=List.eq_nil_of_length_eq_zero hu;have:=List.filter_eq_nil_iff.1 h0 i (List.mem_range.2 hi)
    simpa [Lst] using this
   simp only [forkOk,Bool.and_eq_true] at hp;obtain⟨⟨h1,_⟩,h3⟩:=hp;cases alts with
   | nil=>simp at h1
   | cons s alts=>
     have h4:=List.all_eq_true.1 h3 s (by simp);simp only [Bool.and_eq_true] at h4;obtain⟨⟨⟨⟨h5,h6⟩,_⟩,_⟩,_⟩:=h4;have:=hsub s.1 (by simpa using h6) (hall s.1 (by simpa using h6))
     simp [this] at h5
 | succ fuel ih=>
   intro L a w D Fd alts f hp hL hu hfs hA hsub hFd hY hc;refine⟨fun hnil=> ?_,fun i hi=> ?_⟩
   · exfalso
     have hne:(List.range ops.size).filter (fun i=> !L.getD i true)≠ []:=fun e=>by unfold unl at hu;rw [e] at hu;simp at hu
     obtain⟨j,hj⟩:=List.exists_mem_of_ne_nil _ hne;rw [List.mem_filter,List.mem_range] at hj;obtain⟨k,hk⟩:=unlisted_ready hs hL j j (Nat.le_refl _) hj.1 (by unfold Lst;simpa using hj.2);rw [hnil] at hk;cases hk
   · obtain⟨hin,hul,o,ho,hdeps⟩:=ready_mem.1 hi
     obtain⟨hn,hlt,_,hdd⟩:=slots_at hs ho;have hlook:∀t∈o.looksAt ops,a.tmps[t]? =f.tmps[t]? :=fun t ht=>hA.2.2 t fun j hj=>(dep_listed hdeps ((hdd j t hj).1 ht)).1
     obtain⟨he,hw⟩:=exec_same hn hlook;have hL':(L.setIfInBounds i true).size=ops.size:=by simpa using hL
     have hu':unl ops (L.setIfInBounds i true)=fuel:=by have:=unl_set (L:=L) hin hul;omega
     have hdst:∀j t,dstOf ops j=some t→j<ops.size:=fun j t hj=>by
      unfold dstOf at hj;cases hx:ops[j]? with
      | none=>simp [hx] at hj
      | some _=>exact(Array.getElem?_eq_some_iff.1 hx).1
     by_cases hD:i∈D
     ·
      have put:∀v,(∀d,o.dst=some d→f.tmps[d]? =some v)→wpAny P .any ops Q fuel (L.setIfInBounds i true) (a.put o.dst v) w:=by
       intro v hv;refine ih _ _ w D Fd alts f hp hL' hu' hfs ⟨by rw [put_size];exact hA.1,by rw [put_defs];exact hA.2.1,fun t ht=> ?_⟩ (fun j hj hl=> ?_) (fun j hj=>lst_set.2 (.inr (hFd j hj))) (fun j hj hl=>hY j hj fun h=>hl (lst_set.2 (.inr h))) hc
       · by_cases hdt:o.dst=some t
         · rw [hdt,put_self (by rw [hA.1,hfs];exact hlt t hdt),hv t hdt]
         · rw [put_at hdt]
           refine hA.2.2 t fun j hj=> ?_
           rcases lst_set.1 (ht j hj) with rfl | h
           · rw [dstOf_at ho] at hj;exact absurd hj hdt
           · exact h
       · rcases lst_set.1 hl with rfl | h
         · exact hD
         · exact hsub j hj h
      have hy:=hY i hD hul;simp only [YieldF,ho] at hy;unfold wpOp;simp only [ho];rcases hy with⟨hwt,v,hr,hv⟩ | ⟨hwf,hv⟩
      · rw [hw,hwt]
        simp only [if_true];refine .inl ?_;unfold Oper.wp;rw [he,hr];exact put v hv
      · rw [hw,hwf]
        simp only [Bool.false_eq_true,if_false];exact put undef hv
     ·
      simp only [forkOk,Bool.and_eq_true] at hp;obtain⟨⟨_,g3⟩,g4⟩:=hp
      have hix:alts.any (fun s=>s.1 == i)=true:=by
       have:=List.all_eq_true.1 g3 i (List.mem_range.2 hin)
       simp only [Bool.or_eq_true,ho] at this;rcases this with(t | t) | t
       · exact absurd (by simpa using t) hD
       · exact t
       · exfalso
         obtain⟨e,hem,heb⟩:=any_mem t;simp only [Bool.and_eq_true] at heb;obtain⟨hl,hlt2⟩:=lst_of_getD (hdeps e hem heb.1);have:=hsub e.on (by omega) hl
         simp [this] at heb
      obtain⟨⟨x,E,C,rest⟩,hsm,hx⟩:=List.any_eq_true.1 hix;have hxi:x=i:=by simpa using hx
      subst hxi;have g5:=List.all_eq_true.1 g4 _ hsm;simp only [Bool.and_eq_true] at g5;obtain⟨⟨⟨⟨h1,h2⟩,h4⟩,h5⟩,h6⟩:=g5;have hc:=hc _ hsm;have hnin:=order_nin _ _ h5
      have step:∀v ds w',wpQ P ops E (fun f2=>Chk P ops C f2 w'∧wpRest P ops Q rest f2 w') (({ f with defers:=ds }:Act).put o.dst v) w'→
       wpAny P .any ops Q fuel (L.setIfInBounds x true) (({ a with defers:=ds }:Act).put o.dst v) w':=by
       intro v ds w' hq;obtain⟨f2,⟨hC,hcont⟩,hf2s,hf2d,hf2t,hf2y⟩:=wpQ_out hs E _ _ _ h5 (by rw [put_size];exact hfs) hq;refine staged_any hs fuel _ _ w' (D++x :: E) _ rest f2 h6 hL' hu' hf2s ⟨by rw [put_size,hf2s];exact hA.1.trans hfs,by rw [put_defs,hf2d,put_defs],fun t ht=> ?_⟩ (fun j hj hl=> ?_) (fun j hj=> ?_) (fun j hj hl=> ?_) hcont
       · rw [hf2t t (fun j hj e=>by
          have hl:=ht j e
          obtain⟨hj1,hj2⟩:=hnin j hj
          rcases lst_set.1 hl with rfl | h
          · exact hj1 (by simp)
          · exact hj1 (List.mem_append_left _ (hsub j hj2 h)))]
         by_cases hdt:o.dst=some t
         · rw [hdt,put_self (by show t<a.tmps.size;rw [hA.1,hfs];exact hlt t hdt),put_self (by show t<f.tmps.size;rw [hfs];exact hlt t hdt)]
         · rw [put_at hdt,put_at hdt]
           refine hA.2.2 t fun j hj=> ?_
           rcases lst_set.1 (ht j hj) with rfl | h
           · rw [dstOf_at ho] at hj;exact absurd hj hdt
           · exact h
       · rcases lst_set.1 hl with rfl | h
         · simp
         · exact List.mem_append_left _ (hsub j hj h)
       · rcases List.mem_append.1 hj with h | h
         · exact lst_set.2 (.inr (hFd j h))
         · rcases List.mem_cons.1 h with rfl | h
           · exact lst_set.2 (.inl rfl)
           · rw [List.mem_filter] at h
             have hb:=h.2;simp only [ho,Option.any_some] at hb;exact lst_set.2 (.inr (dep_listed hdeps hb).1)
       · rcases List.mem_append.1 hj with h | h
         · have:=List.all_eq_true.1 h4 j h
           simp only [Bool.or_eq_true,ho,Option.any_some] at this;rcases this with(t | t) | t
           · exact hC j (by simpa using t)
           · exact absurd (lst_set.2 (.inr (hFd j (by simpa using t)))) hl
           · exact absurd (lst_set.2 (.inr (dep_listed hdeps t).1)) hl
         · rcases List.mem_cons.1 h with rfl | h
           · exact absurd (lst_set.2 (.inl rfl)) hl
           · exact hf2y j h
      simp only [wpRest,ho,wpList] at hc;unfold wpOp;simp only [ho];rw [hw];split
      · rename_i hwt
        rw [if_pos hwt] at hc;rcases hc with hc | ⟨_,_,_,hf⟩
        · exact .inl (oper_wp_rel he hA.2.1 (fun v ds w' h=>step v ds w' h) hc)
        · exact(hf:False).elim
      · rename_i hwf
        rw [if_neg hwf] at hc;have:=step undef f.defers w hc
        rw [← hA.2.1] at this;exact this
theorem wp_region_forked {Q:Exit→Act→World→Prop}{id:Nat}{a:Act}{w:World}(hm:P.follows .mixedOrders=true)(E0:List Nat)(alts:List (Nat × List Nat × List Nat × List (Nat × List Nat × List Nat)))
 (hsz:a.tmps.size=sz) (hs:slotsOk ops sz=true) (ho:orderOk ops [] E0=true) (hp:forkOk ops E0 [] alts=true)
 (h:wpQ P ops E0 (fun f=> ∀s∈alts,wpRest P ops Q ((s.1,s.2.1,s.2.2.1) :: s.2.2.2) f w.drew) a w.drew):(Code.region id ops true).wp P Q a w:=by
 refine wp_region_any hm ?_;obtain⟨f,hc,hfs,hfd,hft,hfy⟩:=wpQ_out hs E0 _ _ _ ho hsz h;have hno:∀i,i<ops.size→¬Lst (Array.replicate ops.size false) i:=fun i hi h=>by simp [Lst,hi,Array.getD_eq_getD_getElem?] at h
 refine forked_any hs _ _ _ _ E0 [] alts f hp (by simp) ?_ hfs ⟨hsz.trans hfs.symm,hfd.symm,fun t ht=>(hft t fun j hj e=> ?_).symm⟩ (fun i hi hl=>absurd hl (hno i hi)) (fun i hi=>by cases hi) (fun i hi _=>hfy i hi) hc
 · unfold unl
   rw [List.filter_eq_self.2]
   · simp
   · intro i hi
     have:=hno i (List.mem_range.1 hi)
     simpa [Lst] using this
 · have hj2:=(order_nin _ _ ho j hj).2
   exact hno j hj2 (ht j e)
end
end Go.Sl
namespace Go.Sl
section
variable {P:Program}{ops:Array Oper}{sz:Nat}
theorem op_of_list {K:Act→World→Prop}{Q:Exit→Act→World→Prop}{x:Nat}{o:Oper}{f:Act}{w:World}(ho:ops[x]? =some o)(h:wpList P ops (onN K) [o] f w):wpOp P ops Q x K f w:=by
 simp only [wpList] at h;unfold wpOp;simp only [ho];split
 · rename_i hw
   rw [if_pos hw] at h;rcases h with hc | ⟨_,_,_,hf⟩
   · exact .inl (oper_wp_rel rfl rfl (fun v ds w' h=>h) hc)
   · exact(hf:False).elim
 · rename_i hw
   rw [if_neg hw] at h;exact h
theorem getD_set {L:Array Bool}{x i:Nat}(hx:x<L.size):(L.setIfInBounds x true).getD i false=if i=x then true else L.getD i false:=by
 by_cases h:i=x
 · subst h
   rw [if_pos rfl];simp [Array.getD_eq_getD_getElem?,hx]
 · rw [if_neg h]
   simp [Array.getD_eq_getD_getElem?,Array.getElem?_setIfInBounds_ne (fun e=>h e.symm)]
theorem inv_any {Q:Exit→Act→World→Prop}(hs:slotsOk ops sz=true)(I:(Nat→Bool)→Act→World→Prop)
 (step:∀(D:Nat→Bool) f w x o,ops[x]? =some o→D x=false→(∀e∈o.after,Region.binds .any e=true→D e.on=true)→I D f w→wpOp P ops Q x (I fun i=>if i=x then true else D i) f w)
 (fin:∀(D:Nat→Bool) f w,(∀i,i<ops.size→D i=true)→I D f w→Q .normal f w):
 ∀(fuel:Nat) (L:Array Bool) (f:Act) (w:World),L.size=ops.size→unl ops L=fuel→I (fun i=>L.getD i false) f w→wpAny P .any ops Q fuel L f w:=by
 have all:∀(L:Array Bool) f w,L.size=ops.size→(∀i,i<ops.size→Lst L i)→I (fun i=>L.getD i false) f w→Q .normal f w:=fun L f w hL h hI=>by
  refine fin _ f w (fun i hi=> ?_) hI;have:=h i hi
  unfold Lst at this;simpa [Array.getD_eq_getD_getElem?,hL,hi] using this
 intro fuel;induction fuel with
 | zero=>
   intro L f w hL hu hI
   have hall:∀i,i<ops.size→Lst L i:=fun i hi=>by
    have h0:(List.range ops.size).filter (fun i=> !L.getD i true)= []:=List.eq_nil_of_length_eq_zero hu;have:=List.filter_eq_nil_iff.1 h0 i (List.mem_range.2 hi)
    simpa [Lst] using this
   refine⟨?_,all L f w hL hall hI⟩;cases hr:Region.ready .any ops L with
   | nil=>rfl
   | cons j js=>
     have hj:j∈Region.ready .any ops L:=by rw [hr];exact List.mem_cons_self
     obtain⟨h1,h2,_⟩:=ready_mem.1 hj;exact absurd (hall j h1) h2
 | succ fuel ih=>
   intro L f w hL hu hI;refine⟨fun hnil=> ?_,fun i hi=> ?_⟩
   · exfalso
     have hne:(List.range ops.size).filter (fun i=> !L.getD i true)≠ []:=fun e=>by unfold unl at hu;rw [e] at hu;simp at hu
     obtain⟨j,hj⟩:=List.exists_mem_of_ne_nil _ hne;rw [List.mem_filter,List.mem_range] at hj;obtain⟨k,hk⟩:=unlisted_ready hs hL j j (Nat.le_refl _) hj.1 (by unfold Lst;simpa using hj.2);rw [hnil] at hk;cases hk
   · obtain⟨hin,hul,o,ho,hdeps⟩:=ready_mem.1 hi
     have hL':(L.setIfInBounds i true).size=ops.size:=by simpa using hL
     have hu':unl ops (L.setIfInBounds i true)=fuel:=by have:=unl_set (L:=L) hin hul;omega
     have hf:L.getD i false=false:=by
      unfold Lst at hul;simpa [Array.getD_eq_getD_getElem?,hL,hin] using hul
     refine wpOp_mono (fun f' w' h=>ih _ f' w' hL' hu' ?_) (step _ f w i o ho hf hdeps hI);have e:(fun j=>(L.setIfInBounds i true).getD j false)=fun j=>if j=i then true else L.getD j false:=funext fun j=>getD_set (by omega)
     rw [e];exact h
theorem wp_region_inv {Q:Exit→Act→World→Prop}{id:Nat}{a:Act}{w:World}(hm:P.follows .mixedOrders=true)(hs:slotsOk ops sz=true)(I:(Nat→Bool)→Act→World→Prop)(hI:I (fun _=>false) a w.drew)
 (step:∀(D:Nat→Bool) f w x o,ops[x]? =some o→D x=false→(∀e∈o.after,Region.binds .any e=true→D e.on=true)→I D f w→wpOp P ops Q x (I fun i=>if i=x then true else D i) f w)
 (fin:∀(D:Nat→Bool) f w,(∀i,i<ops.size→D i=true)→I D f w→Q .normal f w):(Code.region id ops true).wp P Q a w:=by
 refine wp_region_any hm ?_;refine inv_any hs I step fin _ _ _ _ (by simp) ?_ ?_
 · unfold unl
   rw [List.filter_eq_self.2]
   · simp
   · intro i hi
     have hi2:=List.mem_range.1 hi;simp [Array.getD_eq_getD_getElem?,hi2]
 · have e:(fun i=>(Array.replicate ops.size false).getD i false)=fun _=>false:=funext fun i=>by
    by_cases h:i<ops.size
    · simp [Array.getD_eq_getD_getElem?,h]
    · simp [Array.getD_eq_getD_getElem?,h]
   rw [e];exact hI
end
end Go.Sl
namespace Go.Sl
open Go.Maps Go.ChangeMaps Go.MapKept Go.WideShapes
open Go.WideElems (Fit rd rg pl rd_key rd_val rg_of)
section
variable {P:Program}{k:TypeId}{b:Nat}{f:Int→Option Value}{F:Pr}{w:World}
end
end Go.Sl
namespace Go.Sl
open Go.RowKit
theorem wpList_appN {P:Program}{F:Pr}{w:World}{ops:Array Oper}{rest:List Oper}{o:Oper}{a:Act}{Q:Exit→Act→World→Prop}(hgd:o.guard=none)(s x:Operand)(t:TypeId)
 (ho:o.op= .call { callee:= .builtin .append,args:= #[s,x],argTypes:= #[t,t] })
 (e:TypeId) (i:TypeInfo) (z:Value) (size bytes:Nat) (ht:P.underlying t=some (.slice e)) (hi:P.info? e=some i) (hz:i.zero=some z)
 (hsize:i.size=size) (hby:i.bytes=bytes) (hzs:z.cells.size=size)
 (v:Value) (n:Nat) (xs:List Value) (hs:a.eval s=v) (hown:Sat ((Row e size v n xs).star F) w)
 (ad:Addr) (m c:Nat) (news:List Value) (hx:a.eval x= .slice (some ad) m c) (hl:news.length=m*size) (hnews:∀j u,news[j]? =some u→w.cell? (ad.add j)=some u) (h1:∀u∈news,u.oneCell'=true)
 (h63:n+m≤maxLen) (hbytes:(n+m)*bytes≤140737488355328)
 (h:∀v' w',Sat ((Row e size v' (n+m) (xs++news)).star F) w'→w.grownBy w' v.ownBlock→∀K:Act→Prop,(∀a',wpList P ops Q rest a' w'→K a')→K (a.put o.dst v')):wpList P ops Q (o :: rest) a w:=
 wpList_append_sl hgd s x t ho e i z size bytes ht hi hz hsize hby hzs v n xs hs hown ad m c news hx hl hnews h1 h63 hbytes fun v' w' h2 h3 _=>h v' w' h2 h3 _ fun _ h=>h
end Go.Sl
