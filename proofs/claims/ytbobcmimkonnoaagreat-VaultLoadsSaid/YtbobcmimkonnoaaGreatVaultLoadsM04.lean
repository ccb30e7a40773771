/- A map with integer keys as a function, owned whole: read, written, struck. Plain lemmas over any program. -/
import Derived.Test.YtbobcmimkonnoaaGreatVaultLoadsM02
import Derived.Maps.Own
import Derived.Test.YtbobcmimkonnoaaGreatVaultLoadsM01
import Derived.BigQuiet
import Derived.Maps.OwnSet
set_option maxRecDepth 100000
set_option maxHeartbeats 16000000
namespace Go.Sl
open Go.Maps Go.ChangeMaps Go.MapKept Go.WideShapes
open Go.WideElems (Fit rd rg pl rd_key rd_val rg_of)
def heldR(v:Value):Option (DataW Value × List MemPlace):=some (.held v,[])
def MapFn(P:Program)(k:TypeId)(es:Array MapEntry)(f:Int→Option Value):Prop:=
 ∀n v,f n=some v↔(Lit.int .i64 n,DataW.held v)∈(es.toList.map (rg P k heldR)).foldr DataW.insert []
def SmallKeys(f:Int→Option Value):Prop:= ∀n v,f n=some v→1≤n∧n≤65536
def MapA(P:Program)(k:TypeId)(b:Nat)(f:Int→Option Value):Pr:=
 Pr.ex fun x:Array MapEntry × Nat=>(Pr.pure (Fit P k heldR x.1 x.2∧MapFn P k x.1 f∧SmallKeys f)).star (Pr.pts b (.map x.1 x.2))
section
variable {P:Program}{k:TypeId}{b:Nat}{f:Int→Option Value}{F:Pr}{w:World}
theorem mapA_iff:Sat ((MapA P k b f).star F) w↔∃es clock,Fit P k heldR es clock∧MapFn P k es f∧SmallKeys f∧Sat ((Pr.pts b (.map es clock)).star F) w:=by
 unfold MapA;rw [Sat.ex];constructor
 · rintro⟨⟨es,c⟩,h⟩
   rw [Pr.star_assoc] at h;obtain⟨⟨h1,h2,h3⟩,h4⟩:=Sat.pure.1 h;exact⟨es,c,h1,h2,h3,h4⟩
 · rintro⟨es,c,h1,h2,h3,h4⟩
   refine⟨(es,c),?_⟩;rw [Pr.star_assoc];exact Sat.pure.2 ⟨⟨h1,h2,h3⟩,h4⟩
theorem key_int(hk:P.underlying k=some (.int .i64)){v:Value}{l:Lit}(h:keyOf P k v=some l):∃n,v= .int .i64 n∧l= .int .i64 n:=by
 simp only [keyOf,hk] at h;cases v<;>simp [mapKey,hk] at h;obtain⟨h1,h2⟩:=h;obtain⟨h3,_⟩:=h1;subst h3;exact⟨_,rfl,h2.symm⟩
theorem key_mk(hk:P.underlying k=some (.int .i64)){n:Int}(hn:1≤n∧n≤65536):keyOf P k (.int .i64 n)=some (.int .i64 n):=by
 refine keyOf_int_mk hk ?_;have h1:IntKind.i64.min= -9223372036854775808:=by decide
 have h2:IntKind.i64.max=9223372036854775807:=by decide
 simp only [Lit.wf,Bool.and_eq_true,decide_eq_true_eq,h1,h2];omega
theorem mem_sorted(hk:P.underlying k=some (.int .i64)){es:Array MapEntry}{clock:Nat}(hF:Fit P k heldR es clock){p:Lit × DataW Value}:
 p∈(es.toList.map (rg P k heldR)).foldr DataW.insert []↔∃x n,x∈es.toList∧x.key= .int .i64 n∧p=(.int .i64 n,.held x.val):=by
 rw [(sorted_perm _).mem_iff,List.mem_map];constructor
 · rintro⟨x,hx,rfl⟩
   obtain⟨y,hy⟩:=hF.reads x hx;obtain⟨n,h1,h2⟩:=key_int hk (rd_key hy);obtain⟨z,h3,h4⟩:=rd_val hy;cases h3;refine⟨x,n,hx,h1,?_⟩;rw [rg_of hy];exact Prod.ext h2 h4
 · rintro⟨x,n,hx,h1,rfl⟩
   obtain⟨y,hy⟩:=hF.reads x hx;obtain⟨m,h2,h3⟩:=key_int hk (rd_key hy);obtain⟨z,h4,h5⟩:=rd_val hy;cases h4;refine⟨x,hx,?_⟩;rw [rg_of hy];rw [h1] at h2;cases h2;exact Prod.ext h3 h5
theorem sorted_len(L:List (Lit × DataW Value)):∀a:Int,L.Pairwise (fun p q=>p.1.before q.1=true)→(∀p∈L,∃n,p.1= .int .i64 n∧a≤n∧n≤65536)→(L.length:Int)≤max 0 (65537-a):=by
 induction L with
 | nil=>intro a _ _;simp;omega
 | cons p L ih=>
   intro a hp hm;obtain⟨h1,h2⟩:=List.pairwise_cons.1 hp;obtain⟨n,e,ha,hb⟩:=hm p (by simp)
   have:=ih (n+1) h2 (fun q hq=>by
    obtain⟨m,e2,_,h4⟩:=hm q (by simp [hq])
    have h5:=h1 q hq
    rw [e,e2] at h5
    simp [Lit.before] at h5
    exact⟨m,e2,by omega,h4⟩)
   simp only [List.length_cons];omega
theorem fit_small(hk:P.underlying k=some (.int .i64)){es:Array MapEntry}{clock:Nat}(hF:Fit P k heldR es clock)(hM:MapFn P k es f)(hs:SmallKeys f):es.size<maxLen:=by
 have K:=int_keyed (P:=P) hk
 have h1:=sorted_len _ 1 (sorted_sorted K.one _ (fit_keys hF) (fit_apart K hF)) (fun p hp=>by
  obtain⟨x,n,hx,hkx,rfl⟩:=(mem_sorted hk hF).1 hp
  have:=hs n x.val ((hM n x.val).2 hp)
  exact⟨n,rfl,this.1,this.2⟩)
 rw [length_sorted] at h1;simp only [List.length_map,Array.length_toList] at h1;simp only [maxLen];omega
theorem map_look(hk:P.underlying k=some (.int .i64)){t e:TypeId}(ht:P.underlying t=some (.map k e)){z:Value}(hz:(zeroValue e).run P w= .ok z w)(c:Bool){n:Int}(hn:1≤n∧n≤65536)(h:Sat ((MapA P k b f).star F) w):
 (Instr.lookup t (.map (some b)) (.int .i64 n) c).run P w= .ok (if c then .tuple #[(f n).getD z,.bool (f n).isSome] else(f n).getD z) w:=by
 obtain⟨es,clock,hF,hM,hs,hp⟩:=mapA_iff.1 h;rcases fit_look c (int_keyed hk) ht hz hp.pts_heap hF (key_mk hk hn) with⟨h1,h2,_⟩ | ⟨e0,y,h1,h2,h3,_⟩
 · have:f n=none:=by
    cases hf:f n with
    | none=>rfl
    | some v=>
      obtain⟨x,m,hx,hkx,hpx⟩:=(mem_sorted hk hF).1 ((hM n v).1 hf);cases hpx;exact absurd hkx (h2 x hx)
   rw [h1,this];rfl
 · have:f n=some e0.val:=(hM n e0.val).2 ((mem_sorted hk hF).2 ⟨e0,n,h1,h2,rfl⟩)
   rw [h3,this];rfl
theorem notKey_int {n m:Int}{v:DataW Value}:notKey (Lit.int .i64 n) (Lit.int .i64 m,v)=true↔m≠n:=by
 simp [notKey,Lit.sameKey]
theorem map_put(hk:P.underlying k=some (.int .i64)){t e:TypeId}(ht:P.underlying t=some (.map k e)){n:Int}(hn:1≤n∧n≤65536)(v:Value)(h:Sat ((MapA P k b f).star F) w):
 ∃w',(Instr.mapUpdate t (.map (some b)) (.int .i64 n) v).run P w= .ok () w'∧Sat ((MapA P k b (fun m=>if m=n then some v else f m)).star F) w'∧w.grownBy w' (some b):=by
 obtain⟨es,clock,hF,hM,hs,hp⟩:=mapA_iff.1 h;have hb:=hp.pts_heap;obtain⟨es',clock',hrun,F',hput,_⟩:=fit_store (R':=heldR) (int_keyed hk) ht hb hF (fit_small hk hF hM hs) (fun _ _ _ _ hz=>hz) (key_mk hk hn) (yv:=(.held v,[])) (val:=v) rfl
 refine⟨_,hrun,mapA_iff.2 ⟨es',clock',F',fun m u=> ?_,fun m u hu=> ?_,?_⟩,⟨rfl,rfl,rfl,by simp [setBlock],fun i _ hi=>heap_setBlock_other hb _ (fun e=>hi (by rw [e]))⟩⟩
 · rw [hput]
   unfold putKey;rw [mem_insert_iff,List.mem_filter,notKey_int, ← hM];by_cases hm:m=n
   · subst hm;simp;exact eq_comm
   · simp [hm]
 · by_cases hm:m=n
   · subst hm;exact hn
   · exact hs m u (by simpa [hm] using hu)
 · exact hp.put (heap_setBlock_same hb _) (fun i _ hi=>heap_setBlock_other hb _ hi)
theorem map_del(hk:P.underlying k=some (.int .i64)){t e ty:TypeId}(ht:P.underlying t=some (.map k e)){n:Int}(hn:1≤n∧n≤65536)(h:Sat ((MapA P k b f).star F) w):
 ∃w',(Builtin.delete_ #[t,k] ty #[.map (some b),.int .i64 n]).run P w= .ok (.tuple #[]) w'∧Sat ((MapA P k b (fun m=>if m=n then none else f m)).star F) w'∧w.grownBy w' (some b):=by
 obtain⟨es,clock,hF,hM,hs,hp⟩:=mapA_iff.1 h;have hb:=hp.pts_heap;obtain⟨es',hrun,F',_,hput,_⟩:=fit_drop (ty:=ty) (int_keyed hk) ht hb hF (key_mk hk hn);refine⟨_,hrun,mapA_iff.2 ⟨es',clock,F',fun m u=> ?_,fun m u hu=> ?_,?_⟩,⟨rfl,rfl,rfl,by simp [setBlock],fun i _ hi=>heap_setBlock_other hb _ (fun e=>hi (by rw [e]))⟩⟩
 · rw [hput]
   unfold delKey;rw [List.mem_filter,notKey_int, ← hM];by_cases hm:m=n
   · subst hm;simp
   · simp [hm]
 · by_cases hm:m=n
   · simp [hm] at hu
   · exact hs m u (by simpa [hm] using hu)
 · exact hp.put (heap_setBlock_same hb _) (fun i _ hi=>heap_setBlock_other hb _ hi)
theorem map_made(h:Sat F w):Sat ((MapA P k w.heap.size fun _=>none).star F) (w.alloc (.map #[] 0)):=
 mapA_iff.2 ⟨#[],0,⟨by simp,stamped_empty 0,by simp⟩,fun n v=>by simp,(fun n v h=>by cases h),h.alloc _⟩
theorem wpList_look {ops:Array Oper}{rest:List Oper}{o:Oper}{a:Act}{Q:Exit→Act→World→Prop}(hgd:o.guard=none)(m x:Operand)(t:TypeId)(c:Bool)(hop:o.op=Op.lookup t m x c)
 (hk:P.underlying k=some (.int .i64)) {e:TypeId} (ht:P.underlying t=some (.map k e)) (z:Value) (hz:(zeroValue e).run P w= .ok z w) (n:Int) (hn:1≤n∧n≤65536)
 (hm:a.eval m= .map (some b)) (hx:a.eval x= .int .i64 n) (h:Sat ((MapA P k b f).star F) w)
 (hK:wpList P ops Q rest (a.put o.dst (if c then .tuple #[(f n).getD z,.bool (f n).isSome] else(f n).getD z)) w):wpList P ops Q (o :: rest) a w:=by
 refine wpList_plain hgd fun K' hK'=> ?_
 have hrun:=map_look hk ht hz c hn h;unfold Oper.wp;simp [execOp,hop,hm,hx,hrun,Result.andThen]
 exact hK' _ _ hK
theorem wpList_put {ops:Array Oper}{rest:List Oper}{o:Oper}{a:Act}{Q:Exit→Act→World→Prop}(hgd:o.guard=none)(m x u:Operand)(t:TypeId)(hop:o.op=Op.mapUpdate t m x u)
 (hk:P.underlying k=some (.int .i64)) {e:TypeId} (ht:P.underlying t=some (.map k e)) (n:Int) (hn:1≤n∧n≤65536) (v:Value)
 (hm:a.eval m= .map (some b)) (hx:a.eval x= .int .i64 n) (hv:a.eval u=v) (h:Sat ((MapA P k b f).star F) w)
 (hK:∀w',Sat ((MapA P k b (fun m=>if m=n then some v else f m)).star F) w'→w.grownBy w' (some b)→wpList P ops Q rest (a.put o.dst undef) w'):wpList P ops Q (o :: rest) a w:=by
 refine wpList_plain hgd fun K' hK'=> ?_
 obtain⟨w',hrun,h1,h2⟩:=map_put hk ht hn v h;unfold Oper.wp;simp [execOp,hop,hm,hx,hv,hrun,Result.andThen]
 exact hK' _ _ (hK w' h1 h2)
theorem wpList_del {ops:Array Oper}{rest:List Oper}{o:Oper}{a:Act}{Q:Exit→Act→World→Prop}(hgd:o.guard=none)(m x:Operand)(t:TypeId)
 (hop:o.op= .call { callee:= .builtin .delete,args:= #[m,x],argTypes:= #[t,k] })
 (hk:P.underlying k=some (.int .i64)) {e:TypeId} (ht:P.underlying t=some (.map k e)) (n:Int) (hn:1≤n∧n≤65536)
 (hm:a.eval m= .map (some b)) (hx:a.eval x= .int .i64 n) (h:Sat ((MapA P k b f).star F) w)
 (hK:∀w',Sat ((MapA P k b (fun m=>if m=n then none else f m)).star F) w'→w.grownBy w' (some b)→wpList P ops Q rest (a.put o.dst (.tuple #[])) w'):wpList P ops Q (o :: rest) a w:=by
 refine wpList_plain hgd fun K' hK'=> ?_
 obtain⟨w',hrun,h1,h2⟩:=map_del (ty:=o.type) hk ht hn h;unfold Oper.wp execOp;simp only [hop,resolve,invoke,builtin,Sem.run_bind,Sem.run_pure,Result.andThen_ok,List.map_toArray,List.map_cons,List.map_nil,hm,hx,hrun];exact hK' _ _ (hK w' h1 h2)
end
end Go.Sl
namespace Go.Sl
section
variable {P:Program}{ops:Array Oper}
def plainOp:Op→Bool
 | .move _ | .assign _ | .fieldAddr .. | .indexAddr .. | .load .. | .binOp .. | .unOp .. | .pick .. | .build .. | .nilCheck _ | .extract .. | .lookup .. | .field .. | .index .. | .convert .. =>true
 | _=>false
theorem bindv {w w':World}{n:Next}(s:Sem Value)(h:Sem.run P (do pure (.value (← s)):Sem Next) w= .ok n w'):∃v,n= .value v:=by
 rw [Sem.run_bind] at h;cases hr:s.run P w with
 | ok x w1=>
   rw [hr] at h;simp only [Result.andThen,Sem.run_pure] at h;cases h;exact⟨x,rfl⟩
 | halt x w1=>rw [hr] at h;cases h
theorem bind_ok {α β:Type}{s:Sem α}{k:α→Sem β}{w w':World}{n:β}(h:Sem.run P (s >>=k) w= .ok n w'):∃x w1,s.run P w= .ok x w1∧(k x).run P w1= .ok n w':=by
 rw [Sem.run_bind] at h;cases hr:s.run P w with
 | ok x w1=>rw [hr] at h;exact⟨x,w1,rfl,h⟩
 | halt x w1=>rw [hr] at h;cases h
theorem plain_value {o:Oper}{ρ:Operand→Value}{w w':World}{n:Next}(hp:plainOp o.op=true)(h:(execOp ρ o).run P w= .ok n w'):∃v,n= .value v:=by
 unfold execOp at h;cases ho:o.op<;>rw [ho] at hp h<;>first | (cases hp;done) | exact bindv _ h | skip
 · cases h;exact⟨_,rfl⟩
 · cases h;exact⟨_,rfl⟩
 · rename_i c a b
   dsimp only at h;rw [Sem.run_bind] at h;cases hr:(asBool (ρ c)).run P w with
   | ok x w1=>
     rw [hr] at h;cases x<;>(cases h;exact⟨_,rfl⟩)
   | halt x w1=>rw [hr] at h;cases h
 · dsimp only at h
   split at h
   any_goals (first | (cases h;exact⟨_,rfl⟩) | (simp [runtimePanic] at h;done) | skip)
   split at h
   · simp [runtimePanic] at h
   · obtain⟨_,_,_,h⟩:=bind_ok h
     obtain⟨_,_,_,h⟩:=bind_ok h;split at h
     · obtain⟨_,_,_,h⟩:=bind_ok h
       cases h;exact⟨_,rfl⟩
     · cases h;exact⟨_,rfl⟩
   · cases h;exact⟨_,rfl⟩
theorem quiet_yield {o:Oper}{a:Act}{w:World}{Q:Act→Prop}(hp:plainOp o.op=true)(h:wpQuiet P ops (fun w'=> ∃n,w'=w.drewN n) Q [o] a):
 (Region.wanted o (yielded ops a.tmps)=true∧∃v,(execOp a.eval o).run P w= .ok (.value v) w∧Q (a.put o.dst v))∨
 (Region.wanted o (yielded ops a.tmps)=false∧Q (a.put o.dst undef)):=by
 unfold wpQuiet at h;split at h
 · rename_i hw
   obtain⟨v,hv,hq⟩:=h;refine .inl ⟨hw,v,?_,hq⟩;have:=hv w ⟨0,rfl⟩
   unfold Oper.quietAt at this;cases hr:(execOp a.eval o).run P w with
   | ok n w1=>
     rw [hr] at this;obtain⟨u,rfl⟩:=plain_value hp hr;obtain⟨rfl,rfl⟩:=this;rfl
   | halt x w1=>rw [hr] at this;exact this.elim
 · rename_i hw
   exact .inr ⟨by simpa using hw,h⟩
theorem wpQ_big {i:Nat}{l:List Nat}{N:Act→Prop}{a:Act}{w:World}{o:Oper}(ho:ops[i]? =some o)(hp:plainOp o.op=true)
 (h:wpQuiet P ops (fun w'=> ∃n,w'=w.drewN n) (fun a'=>wpQ P ops l N a' w) [o] a):wpQ P ops (i :: l) N a w:=by
 simp only [wpQ,ho];exact quiet_yield hp h
theorem yieldF_big {c:Nat}{f:Act}{w:World}{o:Oper}(ho:ops[c]? =some o)(hp:plainOp o.op=true)(hs:(match o.dst with | some d=>decide (d<f.tmps.size) | none=>true)=true)
 (h:wpQuiet P ops (fun w'=> ∃n,w'=w.drewN n) (fun a'=>a'=f) [o] f):YieldF P ops c f w:=by
 have put:∀v d,o.dst=some d→f.put o.dst v=f→f.tmps[d]? =some v:=by
  intro v d hd e;rw [hd] at hs e;have hlt:d<f.tmps.size:=by simpa using hs
  have e2:=congrArg Act.tmps e;rw [← e2];simp [Act.put,hlt]
 simp only [YieldF,ho];rcases quiet_yield hp h with⟨h1,v,h2,h3⟩ | ⟨h1,h3⟩
 · exact .inl ⟨h1,v,h2,fun d hd=>put v d hd h3⟩
 · exact .inr ⟨h1,fun d hd=>put undef d hd h3⟩
def pick(L:List Oper):List Nat→List Oper
 | []=> []
 | i :: l=>(L.drop i).take 1++pick L l
theorem pick_cons {L:List Oper}{i:Nat}{l:List Nat}(h:i<L.length):pick L (i :: l)=L[i] :: pick L l:=by
 show (L.drop i).take 1++pick L l=_
 rw [List.drop_eq_getElem_cons h];rfl
theorem quiet_cons {o:Oper}{l:List Oper}{a:Act}{C:World→Prop}{Q:Act→Prop}(h:wpQuiet P ops C Q (o :: l) a):wpQuiet P ops C (fun a'=>wpQuiet P ops C Q l a') [o] a:=by
 unfold wpQuiet at h ⊢;split at h
 · rename_i hw
   rw [if_pos hw];exact h
 · rename_i hw
   rw [if_neg hw];exact h
theorem wpQ_all {L:List Oper}(l:List Nat){N:Act→Prop}{a:Act}{w:World}(hl:(l.all fun i=>decide (i<L.length))=true)(hp:((pick L l).all fun o=>plainOp o.op)=true)
 (h:wpQuiet P L.toArray (fun w'=> ∃n,w'=w.drewN n) N (pick L l) a):wpQ P L.toArray l N a w:=by
 induction l generalizing a with
 | nil=>exact h
 | cons i l ih=>
   simp only [List.all_cons,Bool.and_eq_true,decide_eq_true_eq] at hl;rw [pick_cons hl.1] at h hp;simp only [List.all_cons,Bool.and_eq_true] at hp;refine wpQ_big (o:=L[i]) (by simp [hl.1]) hp.1 ?_;have h2:=quiet_cons h;unfold wpQuiet at h2 ⊢;split at h2
   · rename_i hw
     rw [if_pos hw];obtain⟨v,hv,hq⟩:=h2;exact⟨v,hv,ih hl.2 hp.2 hq⟩
   · rename_i hw
     rw [if_neg hw];exact ih hl.2 hp.2 h2
theorem wpQ_cut {ops:Array Oper}(l1 l2:List Nat){N:Act→Prop}{w:World}:∀ {a:Act},wpQ P ops l1 (fun a'=>wpQ P ops l2 N a' w) a w→wpQ P ops (l1++l2) N a w:=by
 induction l1 with
 | nil=>intro a h;exact h
 | cons i l1 ih=>
   intro a h;simp only [List.cons_append,wpQ] at h ⊢;split at h
   · exact h.elim
   · rcases h with⟨h1,v,h2,h3⟩ | ⟨h1,h2⟩
     · exact .inl ⟨h1,v,h2,ih h3⟩
     · exact .inr ⟨h1,ih h2⟩
theorem chk_cut {ops:Array Oper}(l1 l2:List Nat){f:Act}{w:World}(h1:Chk P ops l1 f w)(h2:Chk P ops l2 f w):Chk P ops (l1++l2) f w:=fun i hi=>(List.mem_append.1 hi).elim (h1 i) (h2 i)
theorem exec_look {o:Oper}{ρ:Operand→Value}{w:World}{t:TypeId}{m x:Operand}{c:Bool}{v:Value}(ho:o.op= .lookup t m x c)(h:(Instr.lookup t (ρ m) (ρ x) c).run P w= .ok v w):(execOp ρ o).run P w= .ok (.value v) w:=by
 unfold execOp;rw [ho];show Sem.run P (do pure (.value (← Instr.lookup t (ρ m) (ρ x) c)):Sem Next) w=_
 rw [Sem.run_bind,h];rfl
theorem wpQ_look {i:Nat}{l:List Nat}{N:Act→Prop}{a:Act}{w:World}{o:Oper}{t:TypeId}{m x:Operand}{c:Bool}{v:Value}(ho:ops[i]? =some o)(hop:o.op= .lookup t m x c)(hw:Region.wanted o (yielded ops a.tmps)=true)
 (hrun:(Instr.lookup t (a.eval m) (a.eval x) c).run P w= .ok v w) (h:wpQ P ops l N (a.put o.dst v) w):wpQ P ops (i :: l) N a w:=by
 simp only [wpQ,ho];exact .inl ⟨hw,v,exec_look hop hrun,h⟩
def Same(P:Program)(ops:Array Oper)(C:World→Prop)(f:Act):List Oper→Prop
 | []=>True
 | o :: l=>wpQuiet P ops C (fun a'=>a'=f) [o] f∧Same P ops C f l
theorem chk_all {L:List Oper}(l:List Nat){f:Act}{w:World}(hl:(l.all fun i=>decide (i<L.length))=true)
 (hp:((pick L l).all fun o=>plainOp o.op && (match o.dst with | some d=>decide (d<f.tmps.size) | none=>true))=true)
 (h:Same P L.toArray (fun w'=> ∃n,w'=w.drewN n) f (pick L l)):Chk P L.toArray l f w:=by
 induction l with
 | nil=>exact chk_nil
 | cons i l ih=>
   simp only [List.all_cons,Bool.and_eq_true,decide_eq_true_eq] at hl;rw [pick_cons hl.1] at h hp;simp only [List.all_cons,Bool.and_eq_true] at hp;exact chk_cons (yieldF_big (o:=L[i]) (by simp [hl.1]) hp.1.1 hp.1.2 h.1) (ih hl.2 (by simpa using hp.2) h.2)
end
end Go.Sl
namespace Go.Sl
open Go.RowKit
theorem cQ {P:Program}{L:List Oper}{l:List Nat}{f:Act}{w:World}(hl:(l.all fun i=>decide (i<L.length))=true:=by rfl)(hp:((pick L l).all fun o=>plainOp o.op && (match o.dst with | some d=>decide (d<f.tmps.size) | none=>true))=true:=by rfl)
 (h:Same P L.toArray (fun w'=>∃n,w'=w.drewN n) f (pick L l):=by
  simp only [Go.Sl.pick,Go.Sl.Same,Go.pQ,and_true]
  repeat' (first | apply And.intro | (go_big_quiet_step (fail);exact Go.wpQuiet_nil rfl))):Chk P L.toArray l f w:=chk_all l hl hp h
end Go.Sl
namespace Go.Sl
open Go.Maps Go.ChangeMaps Go.MapKept Go.WideShapes
open Go.WideElems (Fit rd rg pl rd_key rd_val rg_of)
section
variable {P:Program}{k:TypeId}{b:Nat}{f:Int→Option Value}{F:Pr}{w:World}
theorem map_len(hk:P.underlying k=some (.int .i64)){t e:TypeId}(ht:P.underlying t=some (.map k e))(ty:TypeId)(h:Sat ((MapA P k b f).star F) w):
 ∃n:Nat,(Builtin.len_ #[t] ty #[.map (some b)]).run P w= .ok (.int .i64 n) w∧∀H:List Int,H.Nodup→(∀m v,f m=some v→m∈H)→(n<H.length↔∃x∈H,f x=none):=by
 obtain⟨es,clock,hF,hM,hs,hp⟩:=mapA_iff.1 h;have hb:=hp.pts_heap;refine⟨es.size,by simp [Builtin.len_,run_underlying ht,MapKept.run_getObj_map hb,goInt,Result.andThen],fun H hH hsub=> ?_⟩;have K:=int_keyed (P:=P) hk;have hlen:((es.toList.map (rg P k heldR)).foldr DataW.insert []).length=es.size:=by rw [length_sorted];simp
 have hso:=sorted_sorted K.one _ (fit_keys hF) (fit_apart K hF);generalize hL:(es.toList.map (rg P k heldR)).foldr DataW.insert []=L at*
 have hshape:∀p∈L,∃n v,p=(Lit.int .i64 n,DataW.held v)∧f n=some v:=by
  intro p hp';have:=(mem_sorted hk hF (p:=p)).1 (by rw [hL];exact hp')
  obtain⟨x,n,hx,hkx,rfl⟩:=this;refine⟨n,x.val,rfl,(hM n x.val).2 (by rw [hL];exact hp')⟩
 let num:Lit × DataW Value→Int:=fun p=>match p.1 with | .int _ n=>n | _=>0
 have hnd:(L.map num).Nodup:=by
  rw [List.nodup_iff_pairwise_ne,List.pairwise_map];refine List.Pairwise.imp_of_mem (R:=fun p q=>p.1.before q.1=true) ?_ hso;intro p q hp1 hq1 hpq e;obtain⟨n,v,rfl,_⟩:=hshape p hp1;obtain⟨m,u,rfl,_⟩:=hshape q hq1;have e':n=m:=e;subst e';simp [Lit.before] at hpq
 have hperm:(L.map num).Perm (H.filter fun x=>(f x).isSome):=by
  refine(List.perm_ext_iff_of_nodup hnd (hH.filter _)).2 fun x=> ?_
  rw [List.mem_map,List.mem_filter];constructor
  · rintro⟨p,hp1,rfl⟩
    obtain⟨n,v,rfl,hf⟩:=hshape p hp1;exact⟨hsub n v hf,by show (f n).isSome=true;rw [hf];rfl⟩
  · rintro⟨_,hx⟩
    obtain⟨v,hv⟩:=Option.isSome_iff_exists.1 hx;exact⟨(.int .i64 x,.held v),by have:=(hM x v).1 hv;rw [hL] at this;exact this,rfl⟩
 have e1:=hperm.length_eq;rw [List.length_map,hlen] at e1;rw [e1,List.length_filter_lt_length_iff_exists];constructor
 · rintro⟨x,hx,hn⟩
   exact⟨x,hx,by simpa using hn⟩
 · rintro⟨x,hx,hn⟩
   exact⟨x,hx,by simpa using hn⟩
theorem wpList_len {ops:Array Oper}{rest:List Oper}{o:Oper}{a:Act}{Q:Exit→Act→World→Prop}(hgd:o.guard=none)(m:Operand)(t:TypeId)
 (hop:o.op= .call { callee:= .builtin .len,args:= #[m],argTypes:= #[t] })
 (hk:P.underlying k=some (.int .i64)) {e:TypeId} (ht:P.underlying t=some (.map k e)) (hm:a.eval m= .map (some b)) (h:Sat ((MapA P k b f).star F) w)
 (hK:∀n:Nat,(∀H:List Int,H.Nodup→(∀m v,f m=some v→m∈H)→(n<H.length↔∃x∈H,f x=none))→wpList P ops Q rest (a.put o.dst (.int .i64 n)) w):wpList P ops Q (o :: rest) a w:=by
 refine wpList_plain hgd fun K' hK'=> ?_
 obtain⟨n,hrun,h1⟩:=map_len (ty:=o.type) hk ht h;unfold Oper.wp execOp;simp only [hop,resolve,invoke,builtin,Sem.run_bind,Sem.run_pure,Result.andThen_ok,List.map_toArray,List.map_cons,List.map_nil,hm,hrun];exact hK' _ _ (hK n h1)
end
end Go.Sl
namespace Go.Sl
section
variable {P:Program}{sz:Nat}
def lastPost(P:Program)(Q:Exit→Act→World→Prop)(o:Oper):Exit→Act→World→Prop
 | .normal,a,w=>o.wp P a w (Q .normal) Q
 | e,a,w=>Q e a w
def lastOk(front:Array Oper)(o:Oper):Bool:=
 o.guard.isNone && (o.after.all fun e=> !Region.binds .any e || decide (e.on<front.size)) && ((List.range front.size).all fun i=>bindsOn o i) &&
  (List.range front.size).all fun i=>match front[i]? with
    | none=>true
    | some p=>p.guard.isNone
theorem wp_both {o:Oper}{a:Act}{w:World}{K K':Act→World→Prop}{Q Q':Exit→Act→World→Prop}(h:∀a w,K a w→K' a w)(hq:∀e a w,e≠ .normal→Q' e a w→Q e a w)(hh:o.wp P a w K Q'):o.wp P a w K' Q:=by
 unfold Oper.wp at*;generalize (execOp a.eval o).run P w=r at*;cases r with
 | ok n w'=>
   cases n<;>simp only [Oper.upon] at hh ⊢ <;>
    first
     | exact h _ _ hh
     | exact Calls.mono hh (fun e w'' he=>by cases e<;>first | exact h _ _ he | exact hq _ _ _ (by simp) he | (obtain⟨a,w,x⟩:=he;exact⟨a,w,hq _ _ _ (by simp) x⟩))
     | exact Rows.mono hh (fun _ _ he=>h _ _ he)
 | halt x w'=>cases x<;>simp only [Oper.upon] at hh ⊢ <;>first | exact hq _ _ _ (by simp) hh | exact hh
theorem post_other {Q:Exit→Act→World→Prop}{o:Oper}:∀e a w,e≠ .normal→lastPost P Q o e a w→Q e a w:=fun e a w he h=>by
 cases e<;>first | exact(he rfl).elim | exact h
theorem lst_push {L:Array Bool}{i:Nat}:Lst (L.push false) i↔(i≠L.size∧Lst L i):=by
 unfold Lst;rcases Nat.lt_trichotomy i L.size with h | h | h
 · simp [Array.getD_eq_getD_getElem?,Array.getElem?_push,show i≠L.size by omega]
 · subst h;simp [Array.getD_eq_getD_getElem?]
 · simp [Array.getD_eq_getD_getElem?,Array.getElem?_push,show i≠L.size by omega]
theorem getD_push {L:Array Bool}{i:Nat}(h:i<L.size):(L.push false).getD i false=L.getD i false:=by
 simp [Array.getD_eq_getD_getElem?,Array.getElem?_push,show i≠L.size by omega]
theorem getD_of_lst {L:Array Bool}{i:Nat}(h:i<L.size):L.getD i false=true↔Lst L i:=by
 unfold Lst;simp [Array.getD_eq_getD_getElem?,Array.getElem?_eq_getElem h]
theorem set_push {L:Array Bool}{i:Nat}(h:i<L.size):(L.push false).setIfInBounds i true=(L.setIfInBounds i true).push false:=by
 apply Array.ext_getElem?;intro j;simp only [Array.getElem?_setIfInBounds,Array.getElem?_push,Array.size_push,Array.size_setIfInBounds];by_cases he:i=j
 · subst he
   simp [h,show i≠L.size by omega,show i<L.size+1 by omega]
 · simp [he]
theorem any_last {front:Array Oper}{o:Oper}{Q:Exit→Act→World→Prop}(hs:slotsOk front sz=true)(hl:lastOk front o=true):
 ∀(fuel:Nat) (L:Array Bool) (a:Act) (w:World),L.size=front.size→wpAny P .any front (lastPost P Q o) fuel L a w→wpAny P .any (front.push o) Q (fuel+1) (L.push false) a w:=by
 simp only [lastOk,Bool.and_eq_true] at hl;obtain⟨⟨⟨g1,g2⟩,g3⟩,g4⟩:=hl;have hog:o.guard=none:=by simpa using g1
 have hfront:∀i,i<front.size→(front.push o)[i]? =front[i]? :=fun i hi=>by simp [Array.getElem?_push,show i≠front.size by omega]
 have hlastat:(front.push o)[front.size]? =some o:=by simp
 have rd:∀(L:Array Bool),L.size=front.size→∀i,i<front.size→(i∈Region.ready .any (front.push o) (L.push false)↔i∈Region.ready .any front L):=fun L hL i hi=>by
  rw [ready_mem,ready_mem,lst_push,hfront i hi,Array.size_push];constructor
  · rintro⟨_,h2,p,hp,h3⟩
    refine⟨hi,fun h=>h2 ⟨by omega,h⟩,p,hp,fun e he hb=> ?_⟩;have:=(slots_at hs hp).2.2.1 e he hb
    rw [← getD_push (by omega)];exact h3 e he hb
  · rintro⟨_,h2,p,hp,h3⟩
    refine⟨by omega,fun h=>h2 h.2,p,hp,fun e he hb=> ?_⟩;have:=(slots_at hs hp).2.2.1 e he hb
    rw [getD_push (by omega)];exact h3 e he hb
 have rl:∀(L:Array Bool),L.size=front.size→(front.size∈Region.ready .any (front.push o) (L.push false)↔∀i,i<front.size→Lst L i):=fun L hL=>by
  rw [ready_mem,lst_push,hlastat,Array.size_push];constructor
  · rintro⟨_,_,p,hp,h3⟩ i hi
    cases hp;have hb:=List.all_eq_true.1 g3 i (List.mem_range.2 hi);unfold bindsOn at hb;obtain⟨e,hem,heb⟩:=any_mem hb;simp only [Bool.and_eq_true,beq_iff_eq] at heb;have:=h3 e hem heb.1
    rw [heb.2,getD_push (by omega),getD_of_lst (by omega)] at this;exact this
  · intro hall
    refine⟨by omega,fun h=>h.1 hL.symm,o,rfl,fun e he hb=> ?_⟩;have h5:=Array.all_eq_true_iff_forall_mem.1 g2 e he;have h6:e.on<front.size:=by simpa [hb] using h5
    rw [getD_push (by omega),getD_of_lst (by omega)];exact hall _ h6
 have done:∀(L:Array Bool),L.size=front.size→(∀i,i<front.size→Lst L i)→Region.ready .any (front.push o) ((L.push false).setIfInBounds front.size true)= []:=fun L hL hall=>by
  rw [List.eq_nil_iff_forall_not_mem];intro i hi;obtain⟨h1,h2,_⟩:=ready_mem.1 hi;apply h2;rw [lst_set];rw [Array.size_push] at h1;by_cases he:i=front.size
  · exact .inl he
  · exact .inr (lst_push.2 ⟨by omega,hall i (by omega)⟩)
 have lastStep:∀(fuel:Nat) (L:Array Bool) (a:Act) (w:World),L.size=front.size→(∀i,i<front.size→Lst L i)→lastPost P Q o .normal a w→
  wpOp P (front.push o) Q front.size (wpAny P .any (front.push o) Q fuel ((L.push false).setIfInBounds front.size true)) a w:=fun fuel L a w hL hall h=>by
  unfold wpOp;rw [hlastat];simp only [Region.wanted,hog,if_true];refine .inl (Oper.wp_mono (fun a' w' h'=> ?_) h);have hd:=done L hL hall;cases fuel with
  | zero=>exact⟨hd,h'⟩
  | succ n=>exact⟨fun _=>h',fun i hi=>by rw [hd] at hi;cases hi⟩
 have lastOr:∀(L:Array Bool),L.size=front.size→Region.ready .any front L= []→∀i,i<front.size→Lst L i:=fun L hL hnil i hi=>by
  by_cases h:Lst L i
  · exact h
  · obtain⟨j,hj⟩:=unlisted_ready hs hL i i (Nat.le_refl _) hi h
    rw [hnil] at hj;cases hj
 have cases':∀(L:Array Bool) (i:Nat),i∈Region.ready .any (front.push o) (L.push false)→i<front.size∨i=front.size:=fun L i hi=>by
  have:=(ready_mem.1 hi).1
  rw [Array.size_push] at this;omega
 intro fuel;induction fuel with
 | zero=>
   intro L a w hL ⟨h1,h2⟩;have hall:=lastOr L hL h1;refine⟨fun hnil=> ?_,fun i hi=> ?_⟩
   · have:=(rl L hL).2 hall
     rw [hnil] at this;cases this
   · rcases cases' L i hi with h | h
     · have:=(rd L hL i h).1 hi
       rw [h1] at this;cases this
     · subst h
       exact lastStep 0 L a w hL hall h2
 | succ fuel ih=>
   intro L a w hL ⟨h1,h2⟩;refine⟨fun hnil=> ?_,fun i hi=> ?_⟩
   · exfalso
     by_cases hr:Region.ready .any front L= []
     · have:=(rl L hL).2 (lastOr L hL hr)
       rw [hnil] at this;cases this
     · obtain⟨j,hj⟩:=List.exists_mem_of_ne_nil _ hr
       have:=(rd L hL j (ready_mem.1 hj).1).2 hj
       rw [hnil] at this;cases this
   · rcases cases' L i hi with h | h
     · have hi2:=(rd L hL i h).1 hi
       have h3:=h2 i hi2;obtain⟨_,_,p,hp,_⟩:=ready_mem.1 hi2
       have hpg:p.guard=none:=by
        have:=List.all_eq_true.1 g4 i (List.mem_range.2 h)
        simpa [hp] using this
       unfold wpOp at h3 ⊢;rw [hfront i h,hp];simp only [hp,Region.wanted,hpg,if_true] at h3 ⊢;rw [set_push (by omega)];rcases h3 with h3 | ⟨h3,h4⟩
       · exact .inl (wp_both (fun a' w' h'=>ih (L.setIfInBounds i true) a' w' (by simpa using hL) h') post_other h3)
       · obtain⟨a',w',h5⟩:=h4
         exact .inr ⟨h3,a',w',h5⟩
     · subst h
       have hall:=(rl L hL).1 hi
       exact lastStep (fuel+1) L a w hL hall (h1 (by
        rw [List.eq_nil_iff_forall_not_mem]
        intro j hj
        exact(ready_mem.1 hj).2.1 (hall j (ready_mem.1 hj).1)))
theorem wp_region_staged_last {Q:Exit→Act→World→Prop}{id:Nat}{a:Act}{w:World}(hm:P.follows .mixedOrders=true){l L:List Oper}{o:Oper}(E0:List Nat)(rest:List (Nat × List Nat × List Nat))
 (hL:l.dropLast=L) (hlo:l.getLast?=some o) (hsz:a.tmps.size=sz) (hs:slotsOk L.toArray sz=true) (hl:lastOk L.toArray o=true) (ho:orderOk L.toArray [] E0=true) (hp:planOk L.toArray E0 [] rest=true)
 (h:wpQ P L.toArray E0 (fun f=>wpRest P L.toArray (lastPost P Q o) rest f w.drew) a w.drew):(Code.region id l.toArray true).wp P Q a w:=by
 have e:l.toArray=L.toArray.push o:=by
  obtain⟨ys,rfl⟩:=List.getLast?_eq_some_iff.1 hlo;rw [List.dropLast_concat] at hL;rw [hL];simp
 rw [e];refine wp_region_any hm ?_;rw [Array.size_push,show Array.replicate (L.toArray.size+1) false=(Array.replicate L.toArray.size false).push false by simp [Array.replicate_succ]];refine any_last hs hl _ _ _ _ (by simp) ?_;obtain⟨f,hc,hfs,hfd,hft,hfy⟩:=wpQ_out hs E0 _ _ _ ho hsz h
 have hno:∀i,i<L.toArray.size→¬Lst (Array.replicate L.toArray.size false) i:=fun i hi h=>by
  have hi2:i<L.length:=by simpa using hi
  simp [Lst,hi2,Array.getD_eq_getD_getElem?] at h
 refine staged_any hs _ _ _ _ E0 [] rest f hp (by simp) ?_ hfs ⟨hsz.trans hfs.symm,hfd.symm,fun t ht=>(hft t fun j hj e=> ?_).symm⟩ (fun i hi hl=>absurd hl (hno i hi)) (fun i hi=>by cases hi) (fun i hi _=>hfy i hi) hc
 · unfold unl
   rw [List.filter_eq_self.2]
   · simp
   · intro i hi
     have:=hno i (List.mem_range.1 hi)
     simpa [Lst] using this
 · have hj2:=(order_nin _ _ ho j hj).2
   exact hno j hj2 (ht j e)
end
end Go.Sl
namespace Go.Sl
open Go.RowKit
theorem wpList_appN {P:Program}{F:Pr}{w:World}{ops:Array Oper}{rest:List Oper}{o:Oper}{a:Act}{Q:Exit→Act→World→Prop}(hgd:o.guard=none)(s x:Operand)(t:TypeId)
 (ho:o.op= .call { callee:= .builtin .append,args:= #[s,x],argTypes:= #[t,t] })
 (e:TypeId) (i:TypeInfo) (z:Value) (size bytes:Nat) (ht:P.underlying t=some (.slice e)) (hi:P.info? e=some i) (hz:i.zero=some z)
 (hsize:i.size=size) (hby:i.bytes=bytes) (hzs:z.cells.size=size)
 (v:Value) (n:Nat) (xs:List Value) (hs:a.eval s=v) (hown:Sat ((Row e size v n xs).star F) w)
 (ad:Addr) (m c:Nat) (news:List Value) (hx:a.eval x= .slice (some ad) m c) (hl:news.length=m*size) (hnews:∀j u,news[j]? =some u→w.cell? (ad.add j)=some u) (h1:∀u∈news,u.oneCell'=true)
 (h63:n+m≤maxLen) (hbytes:(n+m)*bytes≤140737488355328)
 (h:∀v' w',Sat ((Row e size v' (n+m) (xs++news)).star F) w'→w.grownBy w' v.ownBlock→∀K:Act→Prop,(∀a',wpList P ops Q rest a' w'→K a')→K (a.put o.dst v')):wpList P ops Q (o :: rest) a w:=
 wpList_append_sl hgd s x t ho e i z size bytes ht hi hz hsize hby hzs v n xs hs hown ad m c news hx hl hnews h1 h63 hbytes fun v' w' h2 h3 _=>h v' w' h2 h3 _ fun _ h=>h
theorem wpQ_lookN {P:Program}{ops:Array Oper}{i:Nat}{l:List Nat}{N:Act→Prop}{a:Act}{w:World}{o:Oper}{t:TypeId}{m x:Operand}{c:Bool}{v:Value}(ho:ops[i]? =some o)(hop:o.op= .lookup t m x c)(hw:Region.wanted o (yielded ops a.tmps)=true)
 (hrun:(Instr.lookup t (a.eval m) (a.eval x) c).run P w= .ok v w) (h:∀K:Act→Prop,(∀a',wpQ P ops l N a' w→K a')→K (a.put o.dst v)):wpQ P ops (i :: l) N a w:=
 wpQ_look ho hop hw hrun (h _ fun _ h=>h)
end Go.Sl
