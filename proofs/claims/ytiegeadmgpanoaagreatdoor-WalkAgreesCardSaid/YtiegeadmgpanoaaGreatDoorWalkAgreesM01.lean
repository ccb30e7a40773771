/- Small separation logic over the heap's blocks: what a call owns, and what it leaves as it was. Plain lemmas, no condition. -/
import Derived.WalkKit
import Derived.Below
import Derived.Deep.QuietTactic
import Derived.BigQuiet
import Derived.Test.YtiegeadmgpanoaaGreatDoorWalkChecksM02
import Derived.Orders
import Derived.Tactics
import Derived.Test.YtiegeadmgpanoaaGreatDoorWalkChecksM01
import Derived.Test.YtiegeadmgpanoaaGreatDoorRows
import Derived.ProofKit
import Derived.OpenShut
import Derived.WalkSpells
import Derived.WalkLawsBesides
import Derived.OwnWalkIn
import Derived.RangeFuncNested
import Derived.RangeFuncBound
import Derived.RangeFuncCalls
import Derived.RangeFuncLeaves
import Derived.Shelf.Abstract
import Derived.Shelf.RegionOpen
import Derived.TacticsInMore
import Derived.LoopNIn
import Derived.LoopIn
import Derived.Maps.Own
import Derived.Test.YtiegeadmgpanoaaGreatDoorWalkChecksM03
import Derived.OrdersIn
import Derived.TacticsIn
import Derived.Lib.AppendZeros
import Derived.Test.YtiegeadmgpanoaaGreatDoorWalkChecksM05
import Derived.Lib.Hide
import Derived.Test.YtiegeadmgpanoaaGreatDoorWalkChecksM04
import Derived.Maps.OwnSet
import Derived.Lib.SliceRun
import Derived.BigFrame
import Derived.Lib.Bytealg
import Derived.Lib.BytesEntry
import Derived.Test.YtiegeadmgpanoaaGreatDoorWalkChecksM06
import Derived.Test.YtiegeadmgpanoaaGreatDoorWalkChecksM08
import Derived.Test.YtiegeadmgpanoaaGreatDoorWalkChecksM07
set_option maxRecDepth 100000
set_option maxHeartbeats 16000000











namespace Go.Sl
def wpRestIn(F:Fence)(n:Nat)(P:Program)(ops:Array Oper)(Q:Exit→Act→World→Prop):List (Nat × List Nat × List Nat)→Act→World→Prop
 | [],f,w=>Q .normal f w
 | (x,E,C) :: rest,f,w=>match ops[x]? with
   | none=>False
   | some o=>wpListIn F n P ops (onN fun f1 w1=>wpQ P ops E (fun f2=>Chk P ops C f2 w1∧wpRestIn F n P ops Q rest f2 w1) f1 w1) [o] f w
section
variable {F:Fence}{n:Nat}{P:Program}{ops:Array Oper}{sz:Nat}
theorem nodef_at(hs:slotsOkD ops=true){i:Nat}{o:Oper}(ho:ops[i]? =some o):∀c,o.op≠ .defer c:=by
 intro c e;obtain⟨hi3,e2⟩:=Array.getElem?_eq_some_iff.1 ho;have:=Array.all_eq_true_iff_forall_mem.1 hs o (by rw [← e2];exact Array.getElem_mem hi3)
 rw [e] at this;cases this
theorem oper_wpIn_rel(hF:∀f,F.fn f){o:Oper}(hd2:∀c,o.op≠ .defer c){a f:Act}{w:World}{K Kr:Act→World→Prop}{Q:Exit→Act→World→Prop}{K2:Act→World→Prop}(he:execOp a.eval o=execOp f.eval o)(hd:a.defers=f.defers)
 (hK:∀v ds w',K (({ f with defers:=ds }:Act).put o.dst v) w'→Kr (({ a with defers:=ds }:Act).put o.dst v) w') (h:o.wpIn F n P f w K (onN K2)):o.wpIn F n P a w Kr Q:=by
 refine⟨fun g _=>hF g,?_⟩;have h:=h.2;rw [Oper.semAt_eq _ _ _ hd2] at h ⊢;rw [he];generalize (execOp f.eval o).run P w=r at*
 have hK0:∀v w',K (f.put o.dst v) w'→Kr (a.put o.dst v) w':=fun v w' h=>by
  have:=hK v f.defers w' h
  rw [← hd] at this;exact this
 have hend:∀(e:Ending) (w'':World),(match (motive:=Ending→World→Prop) e,w'' with | .returned v,w''=>K (f.put o.dst v) w'' | .panicked c,w''=>onN K2 (.panic c) f w'' | .outgrown,_=>LetsOut (onN K2))→
  (match (motive:=Ending→World→Prop) e,w'' with | .returned v,w''=>Kr (a.put o.dst v) w'' | .panicked c,w''=>Q (.panic c) a w'' | .outgrown,_=>LetsOut Q):=by
  intro e w'' he;cases e with
  | returned v=>exact hK0 _ _ he
  | panicked c=>exact(he:False).elim
  | outgrown=>obtain⟨_,_,hf⟩:=he;exact(hf:False).elim
 cases r with
 | ok x w'=>
   cases x<;>simp only [Oper.uponIn] at h ⊢ <;>
    first
     | exact hK0 _ _ h
     | (rw [hd];exact hK _ _ _ h)
     | exact⟨h.1,CallsIn.mono h.2 hend⟩
     | exact⟨h.1,RoundIn.mono h.2 hend⟩
     | exact⟨h.1,RowsIn.mono h.2 (fun _ _ he=>hK0 _ _ he)⟩
 | halt x w'=>cases x<;>simp only [Oper.uponIn] at h ⊢ <;>first | exact h | exact(h:False).elim
theorem staged_anyIn {Q:Exit→Act→World→Prop}(hF:∀f,F.fn f)(hsd:slotsOkD ops=true)(hs:slotsOk ops sz=true):∀(fuel:Nat) (L:Array Bool) (a:Act) (w:World) (D Fd:List Nat) (rest:List (Nat × List Nat × List Nat)) (f:Act),
 planOk ops D Fd rest=true→L.size=ops.size→unl ops L=fuel→f.tmps.size=sz→Agree ops L a f→(∀i,i<ops.size→Lst L i→i∈D)→(∀i∈Fd,Lst L i)→
 (∀i∈D,¬Lst L i→YieldF P ops i f w)→wpRestIn F n P ops Q rest f w→wpAnyIn F n P .any ops Q fuel L a w:=by
 intro fuel;induction fuel with
 | zero=>
   intro L a w D Fd rest f hp hL hu hfs hA hsub hFd hY hc
   have hall:∀i,i<ops.size→Lst L i:=fun i hi=>by
    have h0:(List.range ops.size).filter (fun i=> !L.getD i true)= []:=List.eq_nil_of_length_eq_zero hu;have:=List.filter_eq_nil_iff.1 h0 i (List.mem_range.2 hi)
    simpa [Lst] using this
   have hnil:Region.ready .any ops L= []:=by
    cases hr:Region.ready .any ops L with
    | nil=>rfl
    | cons j js=>
      have hj:j∈Region.ready .any ops L:=by rw [hr];exact List.mem_cons_self
      obtain⟨h1,h2,_⟩:=ready_mem.1 hj;exact absurd (hall j h1) h2
   refine⟨hnil,?_⟩;cases rest with
   | nil=>rw [agree_all hA hall];exact hc
   | cons s rest=>
     obtain⟨x,E,C⟩:=s;simp only [planOk,Bool.and_eq_true] at hp;obtain⟨⟨⟨⟨⟨h1,h2⟩,_⟩,_⟩,_⟩,_⟩:=hp;have hx:x<ops.size:=by simpa using h2
     have:=hsub x hx (hall x hx)
     simp [this] at h1
 | succ fuel ih=>
   intro L a w D Fd rest f hp hL hu hfs hA hsub hFd hY hc;refine⟨fun hnil=> ?_,fun i hi=> ?_⟩
   · exfalso
     have hne:(List.range ops.size).filter (fun i=> !L.getD i true)≠ []:=fun e=>by unfold unl at hu;rw [e] at hu;simp at hu
     obtain⟨j,hj⟩:=List.exists_mem_of_ne_nil _ hne;rw [List.mem_filter,List.mem_range] at hj;obtain⟨k,hk⟩:=unlisted_ready hs hL j j (Nat.le_refl _) hj.1 (by unfold Lst;simpa using hj.2);rw [hnil] at hk;cases hk
   · obtain⟨hin,hul,o,ho,hdeps⟩:=ready_mem.1 hi
     obtain⟨hn,hlt,_,hdd⟩:=slots_at hs ho;have hlook:∀t∈o.looksAt ops,a.tmps[t]? =f.tmps[t]? :=fun t ht=>hA.2.2 t fun j hj=>(dep_listed hdeps ((hdd j t hj).1 ht)).1
     obtain⟨he,hw⟩:=exec_same hn hlook;have hL':(L.setIfInBounds i true).size=ops.size:=by simpa using hL
     have hu':unl ops (L.setIfInBounds i true)=fuel:=by have:=unl_set (L:=L) hin hul;omega
     have hdst:∀j t,dstOf ops j=some t→j<ops.size:=fun j t hj=>by
      unfold dstOf at hj;cases hx:ops[j]? with
      | none=>simp [hx] at hj
      | some _=>exact(Array.getElem?_eq_some_iff.1 hx).1
     by_cases hD:i∈D
     ·
      have put:∀v,(∀d,o.dst=some d→f.tmps[d]? =some v)→wpAnyIn F n P .any ops Q fuel (L.setIfInBounds i true) (a.put o.dst v) w:=by
       intro v hv;refine ih _ _ w D Fd rest f hp hL' hu' hfs ⟨by rw [put_size];exact hA.1,by rw [put_defs];exact hA.2.1,fun t ht=> ?_⟩ (fun j hj hl=> ?_) (fun j hj=>lst_set.2 (.inr (hFd j hj))) (fun j hj hl=>hY j hj fun h=>hl (lst_set.2 (.inr h))) hc
       · by_cases hdt:o.dst=some t
         · rw [hdt,put_self (by rw [hA.1,hfs];exact hlt t hdt),hv t hdt]
         · rw [put_at hdt]
           refine hA.2.2 t fun j hj=> ?_
           rcases lst_set.1 (ht j hj) with rfl | h
           · rw [dstOf_at ho] at hj;exact absurd hj hdt
           · exact h
       · rcases lst_set.1 hl with rfl | h
         · exact hD
         · exact hsub j hj h
      have hy:=hY i hD hul;simp only [YieldF,ho] at hy;unfold wpOpIn;simp only [ho];rcases hy with⟨hwt,v,hr,hv⟩ | ⟨hwf,hv⟩
      · rw [hw,hwt]
        simp only [if_true];refine⟨fun g _=>hF g,?_⟩;rw [Oper.semAt_eq _ _ _ (nodef_at hsd ho),he,hr];exact put v hv
      · rw [hw,hwf]
        simp only [Bool.false_eq_true,if_false];exact⟨fun g _=>hF g,put undef hv⟩
     ·
      cases rest with
      | nil=>
        have:=List.all_eq_true.1 hp i (List.mem_range.2 hin)
        exact absurd (by simpa using this) hD
      | cons s rest=>
        obtain⟨x,E,C⟩:=s;simp only [planOk,Bool.and_eq_true] at hp;obtain⟨⟨⟨⟨⟨h1,h2⟩,h3⟩,h4⟩,h5⟩,h6⟩:=hp;have hxD:x ∉ D:=by simpa using h1
        have hix:i=x:=by
         have:=List.all_eq_true.1 h3 i (List.mem_range.2 hin)
         simp only [Bool.or_eq_true,ho] at this;rcases this with(t | t) | t
         · exact absurd (by simpa using t) hD
         · simpa using t
         · exfalso
           obtain⟨e,hem,heb⟩:=any_mem t;simp only [Bool.and_eq_true] at heb;obtain⟨hl,hlt2⟩:=lst_of_getD (hdeps e hem heb.1);have:=hsub e.on (by omega) hl
           simp [this] at heb
        subst hix;have hnin:=order_nin _ _ h5
        have step:∀v ds w',wpQ P ops E (fun f2=>Chk P ops C f2 w'∧wpRestIn F n P ops Q rest f2 w') (({ f with defers:=ds }:Act).put o.dst v) w'→
         wpAnyIn F n P .any ops Q fuel (L.setIfInBounds i true) (({ a with defers:=ds }:Act).put o.dst v) w':=by
         intro v ds w' hq;obtain⟨f2,⟨hC,hcont⟩,hf2s,hf2d,hf2t,hf2y⟩:=wpQ_out hs E _ _ _ h5 (by rw [put_size];exact hfs) hq;refine ih _ _ w' (D++i :: E) _ rest f2 h6 hL' hu' hf2s ⟨by rw [put_size,hf2s];exact hA.1.trans hfs,by rw [put_defs,hf2d,put_defs],fun t ht=> ?_⟩ (fun j hj hl=> ?_) (fun j hj=> ?_) (fun j hj hl=> ?_) hcont
         · rw [hf2t t (fun j hj e=>by
            have hl:=ht j e
            obtain⟨hj1,hj2⟩:=hnin j hj
            rcases lst_set.1 hl with rfl | h
            · exact hj1 (by simp)
            · exact hj1 (List.mem_append_left _ (hsub j hj2 h)))]
           by_cases hdt:o.dst=some t
           · rw [hdt,put_self (by show t<a.tmps.size;rw [hA.1,hfs];exact hlt t hdt),put_self (by show t<f.tmps.size;rw [hfs];exact hlt t hdt)]
           · rw [put_at hdt,put_at hdt]
             refine hA.2.2 t fun j hj=> ?_
             rcases lst_set.1 (ht j hj) with rfl | h
             · rw [dstOf_at ho] at hj;exact absurd hj hdt
             · exact h
         · rcases lst_set.1 hl with rfl | h
           · simp
           · exact List.mem_append_left _ (hsub j hj h)
         · rcases List.mem_append.1 hj with h | h
           · exact lst_set.2 (.inr (hFd j h))
           · rcases List.mem_cons.1 h with rfl | h
             · exact lst_set.2 (.inl rfl)
             · rw [List.mem_filter] at h
               have hb:=h.2;simp only [ho,Option.any_some] at hb;exact lst_set.2 (.inr (dep_listed hdeps hb).1)
         · rcases List.mem_append.1 hj with h | h
           · have:=List.all_eq_true.1 h4 j h
             simp only [Bool.or_eq_true,ho,Option.any_some] at this;rcases this with(t | t) | t
             · exact hC j (by simpa using t)
             · exact absurd (lst_set.2 (.inr (hFd j (by simpa using t)))) hl
             · exact absurd (lst_set.2 (.inr (dep_listed hdeps t).1)) hl
           · rcases List.mem_cons.1 h with rfl | h
             · exact absurd (lst_set.2 (.inl rfl)) hl
             · exact hf2y j h
        simp only [wpRestIn,ho,wpListIn] at hc;unfold wpOpIn;simp only [ho];rw [hw];split
        · rename_i hwt
          rw [if_pos hwt] at hc;exact oper_wpIn_rel hF (nodef_at hsd ho) he hA.2.1 (fun v ds w' h=>step v ds w' h) hc
        · rename_i hwf
          rw [if_neg hwf] at hc;have:=step undef f.defers w hc.2
          rw [← hA.2.1] at this;exact⟨fun g _=>hF g,this⟩
theorem wpIn_region_stagedY {Q:Exit→Act→World→Prop}(hF:∀f,F.fn f){id:Nat}{a:Act}{w:World}(hm:P.follows .mixedOrders=true)(E0:List Nat)(rest:List (Nat × List Nat × List Nat))
 (hsz:a.tmps.size=sz) (hs:slotsOk ops sz=true) (hsd:slotsOkD ops=true) (ho:orderOk ops [] E0=true) (hp:planOk ops E0 [] rest=true)
 (h:wpQ P ops E0 (fun f=>wpRestIn F n P ops Q rest f w.drew) a w.drew):(Code.region id ops true).wpIn F n P Q a w:=by
 refine wpIn_region_any hm ?_;obtain⟨f,hc,hfs,hfd,hft,hfy⟩:=wpQ_out hs E0 _ _ _ ho hsz h;have hno:∀i,i<ops.size→¬Lst (Array.replicate ops.size false) i:=fun i hi h=>by simp [Lst,hi,Array.getD_eq_getD_getElem?] at h
 refine staged_anyIn hF hsd hs _ _ _ _ E0 [] rest f hp (by simp) ?_ hfs ⟨hsz.trans hfs.symm,hfd.symm,fun t ht=>(hft t fun j hj e=> ?_).symm⟩ (fun i hi hl=>absurd hl (hno i hi)) (fun i hi=>by cases hi) (fun i hi _=>hfy i hi) hc
 · unfold unl
   rw [List.filter_eq_self.2]
   · simp
   · intro i hi
     have:=hno i (List.mem_range.1 hi)
     simpa [Lst] using this
 · have hj2:=(order_nin _ _ ho j hj).2
   exact hno j hj2 (ht j e)
theorem wpRestIn_nil {Q:Exit→Act→World→Prop}{f:Act}{w:World}(h:Q .normal f w):wpRestIn F n P ops Q [] f w:=h
theorem wpRestIn_act {Q:Exit→Act→World→Prop}{x:Nat}{E C:List Nat}{rest:List (Nat × List Nat × List Nat)}{f:Act}{w:World}{o:Oper}(ho:ops[x]? =some o)
 (h:wpListIn F n P ops (onN fun f1 w1=>wpQ P ops E (fun f2=>Chk P ops C f2 w1∧wpRestIn F n P ops Q rest f2 w1) f1 w1) [o] f w):wpRestIn F n P ops Q ((x,E,C) :: rest) f w:=by
 simp only [wpRestIn,ho];exact h
end
end Go.Sl





























