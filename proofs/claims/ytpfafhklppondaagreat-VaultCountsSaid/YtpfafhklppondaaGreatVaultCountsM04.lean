/- A region that draws its order, walked once, where its acts may hand over to a loop's body. Plain lemmas over any program. -/
import Derived.Test.YtpfafhklppondaaGreatVaultCountsM01
import Derived.Test.YtpfafhklppondaaGreatVaultCountsM02
set_option maxRecDepth 100000
set_option maxHeartbeats 16000000
namespace Go.Sl
def wpRestIn(F:Fence)(n:Nat)(P:Program)(ops:Array Oper)(Q:Exit→Act→World→Prop):List (Nat × List Nat × List Nat)→Act→World→Prop
 | [],f,w=>Q .normal f w
 | (x,E,C) :: rest,f,w=>match ops[x]? with
   | none=>False
   | some o=>wpListIn F n P ops (onN fun f1 w1=>wpQ P ops E (fun f2=>Chk P ops C f2 w1∧wpRestIn F n P ops Q rest f2 w1) f1 w1) [o] f w
section
variable {F:Fence}{n:Nat}{P:Program}{ops:Array Oper}{sz:Nat}
theorem nodef_at(hs:slotsOkD ops=true){i:Nat}{o:Oper}(ho:ops[i]? =some o):∀c,o.op≠ .defer c:=by
 intro c e;obtain⟨hi3,e2⟩:=Array.getElem?_eq_some_iff.1 ho;have:=Array.all_eq_true_iff_forall_mem.1 hs o (by rw [← e2];exact Array.getElem_mem hi3)
 rw [e] at this;cases this
theorem oper_wpIn_rel(hF:∀f,F.fn f){o:Oper}(hd2:∀c,o.op≠ .defer c){a f:Act}{w:World}{K Kr:Act→World→Prop}{Q:Exit→Act→World→Prop}{K2:Act→World→Prop}(he:execOp a.eval o=execOp f.eval o)(hd:a.defers=f.defers)
 (hK:∀v ds w',K (({ f with defers:=ds }:Act).put o.dst v) w'→Kr (({ a with defers:=ds }:Act).put o.dst v) w') (h:o.wpIn F n P f w K (onN K2)):o.wpIn F n P a w Kr Q:=by
 refine⟨fun g _=>hF g,?_⟩;have h:=h.2;rw [Oper.semAt_eq _ _ _ hd2] at h ⊢;rw [he];generalize (execOp f.eval o).run P w=r at*
 have hK0:∀v w',K (f.put o.dst v) w'→Kr (a.put o.dst v) w':=fun v w' h=>by
  have:=hK v f.defers w' h
  rw [← hd] at this;exact this
 have hend:∀(e:Ending) (w'':World),(match (motive:=Ending→World→Prop) e,w'' with | .returned v,w''=>K (f.put o.dst v) w'' | .panicked c,w''=>onN K2 (.panic c) f w'' | .outgrown,_=>LetsOut (onN K2))→
  (match (motive:=Ending→World→Prop) e,w'' with | .returned v,w''=>Kr (a.put o.dst v) w'' | .panicked c,w''=>Q (.panic c) a w'' | .outgrown,_=>LetsOut Q):=by
  intro e w'' he;cases e with
  | returned v=>exact hK0 _ _ he
  | panicked c=>exact(he:False).elim
  | outgrown=>obtain⟨_,_,hf⟩:=he;exact(hf:False).elim
 cases r with
 | ok x w'=>
   cases x<;>simp only [Oper.uponIn] at h ⊢ <;>
    first
     | exact hK0 _ _ h
     | (rw [hd];exact hK _ _ _ h)
     | exact⟨h.1,CallsIn.mono h.2 hend⟩
     | exact⟨h.1,RoundIn.mono h.2 hend⟩
     | exact⟨h.1,RowsIn.mono h.2 (fun _ _ he=>hK0 _ _ he)⟩
 | halt x w'=>cases x<;>simp only [Oper.uponIn] at h ⊢ <;>first | exact h | exact(h:False).elim
theorem staged_anyIn {Q:Exit→Act→World→Prop}(hF:∀f,F.fn f)(hsd:slotsOkD ops=true)(hs:slotsOk ops sz=true):∀(fuel:Nat) (L:Array Bool) (a:Act) (w:World) (D Fd:List Nat) (rest:List (Nat × List Nat × List Nat)) (f:Act),
 planOk ops D Fd rest=true→L.size=ops.size→unl ops L=fuel→f.tmps.size=sz→Agree ops L a f→(∀i,i<ops.size→Lst L i→i∈D)→(∀i∈Fd,Lst L i)→
 (∀i∈D,¬Lst L i→YieldF P ops i f w)→wpRestIn F n P ops Q rest f w→wpAnyIn F n P .any ops Q fuel L a w:=by
 intro fuel;induction fuel with
 | zero=>
   intro L a w D Fd rest f hp hL hu hfs hA hsub hFd hY hc
   have hall:∀i,i<ops.size→Lst L i:=fun i hi=>by
    have h0:(List.range ops.size).filter (fun i=> !L.getD i true)= []:=List.eq_nil_of_length_eq_zero hu;have:=List.filter_eq_nil_iff.1 h0 i (List.mem_range.2 hi)
    simpa [Lst] using this
   have hnil:Region.ready .any ops L= []:=by
    cases hr:Region.ready .any ops L with
    | nil=>rfl
    | cons j js=>
      have hj:j∈Region.ready .any ops L:=by rw [hr];exact List.mem_cons_self
      obtain⟨h1,h2,_⟩:=ready_mem.1 hj;exact absurd (hall j h1) h2
   refine⟨hnil,?_⟩;cases rest with
   | nil=>rw [agree_all hA hall];exact hc
   | cons s rest=>
     obtain⟨x,E,C⟩:=s;simp only [planOk,Bool.and_eq_true] at hp;obtain⟨⟨⟨⟨⟨h1,h2⟩,_⟩,_⟩,_⟩,_⟩:=hp;have hx:x<ops.size:=by simpa using h2
     have:=hsub x hx (hall x hx)
     simp [this] at h1
 | succ fuel ih=>
   intro L a w D Fd rest f hp hL hu hfs hA hsub hFd hY hc;refine⟨fun hnil=> ?_,fun i hi=> ?_⟩
   · exfalso
     have hne:(List.range ops.size).filter (fun i=> !L.getD i true)≠ []:=fun e=>by unfold unl at hu;rw [e] at hu;simp at hu
     obtain⟨j,hj⟩:=List.exists_mem_of_ne_nil _ hne;rw [List.mem_filter,List.mem_range] at hj;obtain⟨k,hk⟩:=unlisted_ready hs hL j j (Nat.le_refl _) hj.1 (by unfold Lst;simpa using hj.2);rw [hnil] at hk;cases hk
   · obtain⟨hin,hul,o,ho,hdeps⟩:=ready_mem.1 hi
     obtain⟨hn,hlt,_,hdd⟩:=slots_at hs ho;have hlook:∀t∈o.looksAt ops,a.tmps[t]? =f.tmps[t]? :=fun t ht=>hA.2.2 t fun j hj=>(dep_listed hdeps ((hdd j t hj).1 ht)).1
     obtain⟨he,hw⟩:=exec_same hn hlook;have hL':(L.setIfInBounds i true).size=ops.size:=by simpa using hL
     have hu':unl ops (L.setIfInBounds i true)=fuel:=by have:=unl_set (L:=L) hin hul;omega
     have hdst:∀j t,dstOf ops j=some t→j<ops.size:=fun j t hj=>by
      unfold dstOf at hj;cases hx:ops[j]? with
      | none=>simp [hx] at hj
      | some _=>exact(Array.getElem?_eq_some_iff.1 hx).1
     by_cases hD:i∈D
     ·
      have put:∀v,(∀d,o.dst=some d→f.tmps[d]? =some v)→wpAnyIn F n P .any ops Q fuel (L.setIfInBounds i true) (a.put o.dst v) w:=by
       intro v hv;refine ih _ _ w D Fd rest f hp hL' hu' hfs ⟨by rw [put_size];exact hA.1,by rw [put_defs];exact hA.2.1,fun t ht=> ?_⟩ (fun j hj hl=> ?_) (fun j hj=>lst_set.2 (.inr (hFd j hj))) (fun j hj hl=>hY j hj fun h=>hl (lst_set.2 (.inr h))) hc
       · by_cases hdt:o.dst=some t
         · rw [hdt,put_self (by rw [hA.1,hfs];exact hlt t hdt),hv t hdt]
         · rw [put_at hdt]
           refine hA.2.2 t fun j hj=> ?_
           rcases lst_set.1 (ht j hj) with rfl | h
           · rw [dstOf_at ho] at hj;exact absurd hj hdt
           · exact h
       · rcases lst_set.1 hl with rfl | h
         · exact hD
         · exact hsub j hj h
      have hy:=hY i hD hul;simp only [YieldF,ho] at hy;unfold wpOpIn;simp only [ho];rcases hy with⟨hwt,v,hr,hv⟩ | ⟨hwf,hv⟩
      · rw [hw,hwt]
        simp only [if_true];refine⟨fun g _=>hF g,?_⟩;rw [Oper.semAt_eq _ _ _ (nodef_at hsd ho),he,hr];exact put v hv
      · rw [hw,hwf]
        simp only [Bool.false_eq_true,if_false];exact⟨fun g _=>hF g,put undef hv⟩
     ·
      cases rest with
      | nil=>
        have:=List.all_eq_true.1 hp i (List.mem_range.2 hin)
        exact absurd (by simpa using this) hD
      | cons s rest=>
        obtain⟨x,E,C⟩:=s;simp only [planOk,Bool.and_eq_true] at hp;obtain⟨⟨⟨⟨⟨h1,h2⟩,h3⟩,h4⟩,h5⟩,h6⟩:=hp;have hxD:x ∉ D:=by simpa using h1
        have hix:i=x:=by
         have:=List.all_eq_true.1 h3 i (List.mem_range.2 hin)
         simp only [Bool.or_eq_true,ho] at this;rcases this with(t | t) | t
         · exact absurd (by simpa using t) hD
         · simpa using t
         · exfalso
           obtain⟨e,hem,heb⟩:=any_mem t;simp only [Bool.and_eq_true] at heb;obtain⟨hl,hlt2⟩:=lst_of_getD (hdeps e hem heb.1);have:=hsub e.on (by omega) hl
           simp [this] at heb
        subst hix;have hnin:=order_nin _ _ h5
        have step:∀v ds w',wpQ P ops E (fun f2=>Chk P ops C f2 w'∧wpRestIn F n P ops Q rest f2 w') (({ f with defers:=ds }:Act).put o.dst v) w'→
         wpAnyIn F n P .any ops Q fuel (L.setIfInBounds i true) (({ a with defers:=ds }:Act).put o.dst v) w':=by
         intro v ds w' hq;obtain⟨f2,⟨hC,hcont⟩,hf2s,hf2d,hf2t,hf2y⟩:=wpQ_out hs E _ _ _ h5 (by rw [put_size];exact hfs) hq;refine ih _ _ w' (D++i :: E) _ rest f2 h6 hL' hu' hf2s ⟨by rw [put_size,hf2s];exact hA.1.trans hfs,by rw [put_defs,hf2d,put_defs],fun t ht=> ?_⟩ (fun j hj hl=> ?_) (fun j hj=> ?_) (fun j hj hl=> ?_) hcont
         · rw [hf2t t (fun j hj e=>by
            have hl:=ht j e
            obtain⟨hj1,hj2⟩:=hnin j hj
            rcases lst_set.1 hl with rfl | h
            · exact hj1 (by simp)
            · exact hj1 (List.mem_append_left _ (hsub j hj2 h)))]
           by_cases hdt:o.dst=some t
           · rw [hdt,put_self (by show t<a.tmps.size;rw [hA.1,hfs];exact hlt t hdt),put_self (by show t<f.tmps.size;rw [hfs];exact hlt t hdt)]
           · rw [put_at hdt,put_at hdt]
             refine hA.2.2 t fun j hj=> ?_
             rcases lst_set.1 (ht j hj) with rfl | h
             · rw [dstOf_at ho] at hj;exact absurd hj hdt
             · exact h
         · rcases lst_set.1 hl with rfl | h
           · simp
           · exact List.mem_append_left _ (hsub j hj h)
         · rcases List.mem_append.1 hj with h | h
           · exact lst_set.2 (.inr (hFd j h))
           · rcases List.mem_cons.1 h with rfl | h
             · exact lst_set.2 (.inl rfl)
             · rw [List.mem_filter] at h
               have hb:=h.2;simp only [ho,Option.any_some] at hb;exact lst_set.2 (.inr (dep_listed hdeps hb).1)
         · rcases List.mem_append.1 hj with h | h
           · have:=List.all_eq_true.1 h4 j h
             simp only [Bool.or_eq_true,ho,Option.any_some] at this;rcases this with(t | t) | t
             · exact hC j (by simpa using t)
             · exact absurd (lst_set.2 (.inr (hFd j (by simpa using t)))) hl
             · exact absurd (lst_set.2 (.inr (dep_listed hdeps t).1)) hl
           · rcases List.mem_cons.1 h with rfl | h
             · exact absurd (lst_set.2 (.inl rfl)) hl
             · exact hf2y j h
        simp only [wpRestIn,ho,wpListIn] at hc;unfold wpOpIn;simp only [ho];rw [hw];split
        · rename_i hwt
          rw [if_pos hwt] at hc;exact oper_wpIn_rel hF (nodef_at hsd ho) he hA.2.1 (fun v ds w' h=>step v ds w' h) hc
        · rename_i hwf
          rw [if_neg hwf] at hc;have:=step undef f.defers w hc.2
          rw [← hA.2.1] at this;exact⟨fun g _=>hF g,this⟩
theorem wpIn_region_stagedY {Q:Exit→Act→World→Prop}(hF:∀f,F.fn f){id:Nat}{a:Act}{w:World}(hm:P.follows .mixedOrders=true)(E0:List Nat)(rest:List (Nat × List Nat × List Nat))
 (hsz:a.tmps.size=sz) (hs:slotsOk ops sz=true) (hsd:slotsOkD ops=true) (ho:orderOk ops [] E0=true) (hp:planOk ops E0 [] rest=true)
 (h:wpQ P ops E0 (fun f=>wpRestIn F n P ops Q rest f w.drew) a w.drew):(Code.region id ops true).wpIn F n P Q a w:=by
 refine wpIn_region_any hm ?_;obtain⟨f,hc,hfs,hfd,hft,hfy⟩:=wpQ_out hs E0 _ _ _ ho hsz h;have hno:∀i,i<ops.size→¬Lst (Array.replicate ops.size false) i:=fun i hi h=>by simp [Lst,hi,Array.getD_eq_getD_getElem?] at h
 refine staged_anyIn hF hsd hs _ _ _ _ E0 [] rest f hp (by simp) ?_ hfs ⟨hsz.trans hfs.symm,hfd.symm,fun t ht=>(hft t fun j hj e=> ?_).symm⟩ (fun i hi hl=>absurd hl (hno i hi)) (fun i hi=>by cases hi) (fun i hi _=>hfy i hi) hc
 · unfold unl
   rw [List.filter_eq_self.2]
   · simp
   · intro i hi
     have:=hno i (List.mem_range.1 hi)
     simpa [Lst] using this
 · have hj2:=(order_nin _ _ ho j hj).2
   exact hno j hj2 (ht j e)
theorem wpRestIn_nil {Q:Exit→Act→World→Prop}{f:Act}{w:World}(h:Q .normal f w):wpRestIn F n P ops Q [] f w:=h
theorem wpRestIn_act {Q:Exit→Act→World→Prop}{x:Nat}{E C:List Nat}{rest:List (Nat × List Nat × List Nat)}{f:Act}{w:World}{o:Oper}(ho:ops[x]? =some o)
 (h:wpListIn F n P ops (onN fun f1 w1=>wpQ P ops E (fun f2=>Chk P ops C f2 w1∧wpRestIn F n P ops Q rest f2 w1) f1 w1) [o] f w):wpRestIn F n P ops Q ((x,E,C) :: rest) f w:=by
 simp only [wpRestIn,ho];exact h
end
end Go.Sl
namespace Go.Sl
section
variable {P:Program}{sz:Nat}
def lastPost(P:Program)(Q:Exit→Act→World→Prop)(o:Oper):Exit→Act→World→Prop
 | .normal,a,w=>o.wp P a w (Q .normal) Q
 | e,a,w=>Q e a w
def lastOk(front:Array Oper)(o:Oper):Bool:=
 o.guard.isNone && (o.after.all fun e=> !Region.binds .any e || decide (e.on<front.size)) && ((List.range front.size).all fun i=>bindsOn o i) &&
  (List.range front.size).all fun i=>match front[i]? with
    | none=>true
    | some p=>p.guard.isNone
theorem wp_both {o:Oper}{a:Act}{w:World}{K K':Act→World→Prop}{Q Q':Exit→Act→World→Prop}(h:∀a w,K a w→K' a w)(hq:∀e a w,e≠ .normal→Q' e a w→Q e a w)(hh:o.wp P a w K Q'):o.wp P a w K' Q:=by
 unfold Oper.wp at*;generalize (execOp a.eval o).run P w=r at*;cases r with
 | ok n w'=>
   cases n<;>simp only [Oper.upon] at hh ⊢ <;>
    first
     | exact h _ _ hh
     | exact Calls.mono hh (fun e w'' he=>by cases e<;>first | exact h _ _ he | exact hq _ _ _ (by simp) he | (obtain⟨a,w,x⟩:=he;exact⟨a,w,hq _ _ _ (by simp) x⟩))
     | exact Rows.mono hh (fun _ _ he=>h _ _ he)
 | halt x w'=>cases x<;>simp only [Oper.upon] at hh ⊢ <;>first | exact hq _ _ _ (by simp) hh | exact hh
theorem post_other {Q:Exit→Act→World→Prop}{o:Oper}:∀e a w,e≠ .normal→lastPost P Q o e a w→Q e a w:=fun e a w he h=>by
 cases e<;>first | exact(he rfl).elim | exact h
theorem lst_push {L:Array Bool}{i:Nat}:Lst (L.push false) i↔(i≠L.size∧Lst L i):=by
 unfold Lst;rcases Nat.lt_trichotomy i L.size with h | h | h
 · simp [Array.getD_eq_getD_getElem?,Array.getElem?_push,show i≠L.size by omega]
 · subst h;simp [Array.getD_eq_getD_getElem?]
 · simp [Array.getD_eq_getD_getElem?,Array.getElem?_push,show i≠L.size by omega]
theorem getD_push {L:Array Bool}{i:Nat}(h:i<L.size):(L.push false).getD i false=L.getD i false:=by
 simp [Array.getD_eq_getD_getElem?,Array.getElem?_push,show i≠L.size by omega]
theorem getD_of_lst {L:Array Bool}{i:Nat}(h:i<L.size):L.getD i false=true↔Lst L i:=by
 unfold Lst;simp [Array.getD_eq_getD_getElem?,Array.getElem?_eq_getElem h]
theorem set_push {L:Array Bool}{i:Nat}(h:i<L.size):(L.push false).setIfInBounds i true=(L.setIfInBounds i true).push false:=by
 apply Array.ext_getElem?;intro j;simp only [Array.getElem?_setIfInBounds,Array.getElem?_push,Array.size_push,Array.size_setIfInBounds];by_cases he:i=j
 · subst he
   simp [h,show i≠L.size by omega,show i<L.size+1 by omega]
 · simp [he]
theorem any_last {front:Array Oper}{o:Oper}{Q:Exit→Act→World→Prop}(hs:slotsOk front sz=true)(hl:lastOk front o=true):
 ∀(fuel:Nat) (L:Array Bool) (a:Act) (w:World),L.size=front.size→wpAny P .any front (lastPost P Q o) fuel L a w→wpAny P .any (front.push o) Q (fuel+1) (L.push false) a w:=by
 simp only [lastOk,Bool.and_eq_true] at hl;obtain⟨⟨⟨g1,g2⟩,g3⟩,g4⟩:=hl;have hog:o.guard=none:=by simpa using g1
 have hfront:∀i,i<front.size→(front.push o)[i]? =front[i]? :=fun i hi=>by simp [Array.getElem?_push,show i≠front.size by omega]
 have hlastat:(front.push o)[front.size]? =some o:=by simp
 have rd:∀(L:Array Bool),L.size=front.size→∀i,i<front.size→(i∈Region.ready .any (front.push o) (L.push false)↔i∈Region.ready .any front L):=fun L hL i hi=>by
  rw [ready_mem,ready_mem,lst_push,hfront i hi,Array.size_push];constructor
  · rintro⟨_,h2,p,hp,h3⟩
    refine⟨hi,fun h=>h2 ⟨by omega,h⟩,p,hp,fun e he hb=> ?_⟩;have:=(slots_at hs hp).2.2.1 e he hb
    rw [← getD_push (by omega)];exact h3 e he hb
  · rintro⟨_,h2,p,hp,h3⟩
    refine⟨by omega,fun h=>h2 h.2,p,hp,fun e he hb=> ?_⟩;have:=(slots_at hs hp).2.2.1 e he hb
    rw [getD_push (by omega)];exact h3 e he hb
 have rl:∀(L:Array Bool),L.size=front.size→(front.size∈Region.ready .any (front.push o) (L.push false)↔∀i,i<front.size→Lst L i):=fun L hL=>by
  rw [ready_mem,lst_push,hlastat,Array.size_push];constructor
  · rintro⟨_,_,p,hp,h3⟩ i hi
    cases hp;have hb:=List.all_eq_true.1 g3 i (List.mem_range.2 hi);unfold bindsOn at hb;obtain⟨e,hem,heb⟩:=any_mem hb;simp only [Bool.and_eq_true,beq_iff_eq] at heb;have:=h3 e hem heb.1
    rw [heb.2,getD_push (by omega),getD_of_lst (by omega)] at this;exact this
  · intro hall
    refine⟨by omega,fun h=>h.1 hL.symm,o,rfl,fun e he hb=> ?_⟩;have h5:=Array.all_eq_true_iff_forall_mem.1 g2 e he;have h6:e.on<front.size:=by simpa [hb] using h5
    rw [getD_push (by omega),getD_of_lst (by omega)];exact hall _ h6
 have done:∀(L:Array Bool),L.size=front.size→(∀i,i<front.size→Lst L i)→Region.ready .any (front.push o) ((L.push false).setIfInBounds front.size true)= []:=fun L hL hall=>by
  rw [List.eq_nil_iff_forall_not_mem];intro i hi;obtain⟨h1,h2,_⟩:=ready_mem.1 hi;apply h2;rw [lst_set];rw [Array.size_push] at h1;by_cases he:i=front.size
  · exact .inl he
  · exact .inr (lst_push.2 ⟨by omega,hall i (by omega)⟩)
 have lastStep:∀(fuel:Nat) (L:Array Bool) (a:Act) (w:World),L.size=front.size→(∀i,i<front.size→Lst L i)→lastPost P Q o .normal a w→
  wpOp P (front.push o) Q front.size (wpAny P .any (front.push o) Q fuel ((L.push false).setIfInBounds front.size true)) a w:=fun fuel L a w hL hall h=>by
  unfold wpOp;rw [hlastat];simp only [Region.wanted,hog,if_true];refine .inl (Oper.wp_mono (fun a' w' h'=> ?_) h);have hd:=done L hL hall;cases fuel with
  | zero=>exact⟨hd,h'⟩
  | succ n=>exact⟨fun _=>h',fun i hi=>by rw [hd] at hi;cases hi⟩
 have lastOr:∀(L:Array Bool),L.size=front.size→Region.ready .any front L= []→∀i,i<front.size→Lst L i:=fun L hL hnil i hi=>by
  by_cases h:Lst L i
  · exact h
  · obtain⟨j,hj⟩:=unlisted_ready hs hL i i (Nat.le_refl _) hi h
    rw [hnil] at hj;cases hj
 have cases':∀(L:Array Bool) (i:Nat),i∈Region.ready .any (front.push o) (L.push false)→i<front.size∨i=front.size:=fun L i hi=>by
  have:=(ready_mem.1 hi).1
  rw [Array.size_push] at this;omega
 intro fuel;induction fuel with
 | zero=>
   intro L a w hL ⟨h1,h2⟩;have hall:=lastOr L hL h1;refine⟨fun hnil=> ?_,fun i hi=> ?_⟩
   · have:=(rl L hL).2 hall
     rw [hnil] at this;cases this
   · rcases cases' L i hi with h | h
     · have:=(rd L hL i h).1 hi
       rw [h1] at this;cases this
     · subst h
       exact lastStep 0 L a w hL hall h2
 | succ fuel ih=>
   intro L a w hL ⟨h1,h2⟩;refine⟨fun hnil=> ?_,fun i hi=> ?_⟩
   · exfalso
     by_cases hr:Region.ready .any front L= []
     · have:=(rl L hL).2 (lastOr L hL hr)
       rw [hnil] at this;cases this
     · obtain⟨j,hj⟩:=List.exists_mem_of_ne_nil _ hr
       have:=(rd L hL j (ready_mem.1 hj).1).2 hj
       rw [hnil] at this;cases this
   · rcases cases' L i hi with h | h
     · have hi2:=(rd L hL i h).1 hi
       have h3:=h2 i hi2;obtain⟨_,_,p,hp,_⟩:=ready_mem.1 hi2
       have hpg:p.guard=none:=by
        have:=List.all_eq_true.1 g4 i (List.mem_range.2 h)
        simpa [hp] using this
       unfold wpOp at h3 ⊢;rw [hfront i h,hp];simp only [hp,Region.wanted,hpg,if_true] at h3 ⊢;rw [set_push (by omega)];rcases h3 with h3 | ⟨h3,h4⟩
       · exact .inl (wp_both (fun a' w' h'=>ih (L.setIfInBounds i true) a' w' (by simpa using hL) h') post_other h3)
       · obtain⟨a',w',h5⟩:=h4
         exact .inr ⟨h3,a',w',h5⟩
     · subst h
       have hall:=(rl L hL).1 hi
       exact lastStep (fuel+1) L a w hL hall (h1 (by
        rw [List.eq_nil_iff_forall_not_mem]
        intro j hj
        exact(ready_mem.1 hj).2.1 (hall j (ready_mem.1 hj).1)))
theorem wp_region_staged_last {Q:Exit→Act→World→Prop}{id:Nat}{a:Act}{w:World}(hm:P.follows .mixedOrders=true){l L:List Oper}{o:Oper}(E0:List Nat)(rest:List (Nat × List Nat × List Nat))
 (hL:l.dropLast=L) (hlo:l.getLast?=some o) (hsz:a.tmps.size=sz) (hs:slotsOk L.toArray sz=true) (hl:lastOk L.toArray o=true) (ho:orderOk L.toArray [] E0=true) (hp:planOk L.toArray E0 [] rest=true)
 (h:wpQ P L.toArray E0 (fun f=>wpRest P L.toArray (lastPost P Q o) rest f w.drew) a w.drew):(Code.region id l.toArray true).wp P Q a w:=by
 have e:l.toArray=L.toArray.push o:=by
  obtain⟨ys,rfl⟩:=List.getLast?_eq_some_iff.1 hlo;rw [List.dropLast_concat] at hL;rw [hL];simp
 rw [e];refine wp_region_any hm ?_;rw [Array.size_push,show Array.replicate (L.toArray.size+1) false=(Array.replicate L.toArray.size false).push false by simp [Array.replicate_succ]];refine any_last hs hl _ _ _ _ (by simp) ?_;obtain⟨f,hc,hfs,hfd,hft,hfy⟩:=wpQ_out hs E0 _ _ _ ho hsz h
 have hno:∀i,i<L.toArray.size→¬Lst (Array.replicate L.toArray.size false) i:=fun i hi h=>by
  have hi2:i<L.length:=by simpa using hi
  simp [Lst,hi2,Array.getD_eq_getD_getElem?] at h
 refine staged_any hs _ _ _ _ E0 [] rest f hp (by simp) ?_ hfs ⟨hsz.trans hfs.symm,hfd.symm,fun t ht=>(hft t fun j hj e=> ?_).symm⟩ (fun i hi hl=>absurd hl (hno i hi)) (fun i hi=>by cases hi) (fun i hi _=>hfy i hi) hc
 · unfold unl
   rw [List.filter_eq_self.2]
   · simp
   · intro i hi
     have:=hno i (List.mem_range.1 hi)
     simpa [Lst] using this
 · have hj2:=(order_nin _ _ ho j hj).2
   exact hno j hj2 (ht j e)
end
end Go.Sl
namespace Go.Sl
open Go.RowKit
def IterV {α:Type}(P:Program)(g:Nat)(lb:Array Value)(encs:α→Array Value)(Ok:List α→α→Prop)(Done Stop:List α→Prop)(Give:α→Pr)(Own:Pr):Prop:=
 ∀(l:Nat) (J Jx:List α→Pr) (W:World),
  (∀(Fr:Pr) pre x W1,Ok pre x→Sat (((J pre).star ((Give x).star Own)).star Fr) W1→YieldAt Fence.wide 0 P l (encs x) W1 fun e W'=>
    Stays W1 W'∧((e= .returned (.bool true)∧Sat (((J (pre++ [x])).star Own).star Fr) W')∨(e= .returned (.bool false)∧Sat (((Jx (pre++ [x])).star Own).star Fr) W')))→
  Sat ((J []).star Own) W→
  Calls P g (#[.func (.yield l) #[] #[]]++lb) W fun e W'=>(∃v,e= .returned v)∧Stays W W'∧((∃xs,Done xs∧Sat ((J xs).star Own) W')∨∃pre,Stop pre∧Sat ((Jx pre).star Own) W')
theorem wpIn_rangeFunc_v {α:Type}{n:Nat}{P:Program}{g:Operand}{ps:Array Tmp}{assign body:Code}{Q:Exit→Act→World→Prop}{a:Act}{w:World}
 {gf:Nat} {lb:Array Value} (hg:a.eval g= .func (.func gf) #[] lb) (eg:∀args w,(callFunc gf args).run P w= .ok (.enter gf args) w)
 {encs:α→Array Value} {Ok:List α→α→Prop} {Done Stop:List α→Prop} {Give:α→Pr} {Own:Pr} (hit:IterV P gf lb encs Ok Done Stop Give Own) (hps:∀x,(encs x).size=ps.size)
 (I:List α→Pr) (Ix:Code→List α→Pr) (h0:Sat ((I []).star Own) w)
 (hround:∀(l:Nat) (pre:List α) (x:α) (W:World) (F1:Pr),Ok pre x→Sat (((I pre).star ((Give x).star Own)).star F1) W→
   assign.wpIn (Fence.wide.inRound l) (n-1-1) P (Exit.then (fun a1 W1=> ∃A1:Pr,Stays W W1∧Sat (A1.star F1) W1∧
    ∀(F2:Pr) (W2:World),Stays W1 W2→Sat (A1.star F2) W2→body.wpIn (Fence.wide.inRound l) (n-1-1) P (roundEnd I Ix Own F2 (pre++ [x]) W2) a1 W2) (fun _ _ _=>False))
    { tmps:=(ps.zip (encs x)).foldl (fun t (p,v)=>t.setIfInBounds p v) a.tmps,defers:= [] } W)
 (hdone:∀(D:Nat) (xs:List α) (W:World),Done xs→Stays w W→Sat (((I xs).star Own).star (Pr.pts D (.deferred (some [])))) W→Q .normal { a with defers:= { target:= .collected D,args:= #[] } :: a.defers } W)
 (hstop:∀(D:Nat) (c:Code) (pre:List α) (W:World),Stop pre→Stays w W→Sat (((Ix c pre).star Own).star (Pr.pts D (.deferred (some [])))) W→
   c.wpIn Fence.wide n P Q { a with defers:= { target:= .collected D,args:= #[] } :: a.defers } W):
 (Code.rangeFunc g ps assign body).wpIn Fence.wide n P Q a w:=by
 refine wpIn_rangeFunc ?_;intro fn hfn;obtain⟨rec,hrec⟩:∃rec:LoopState→Option Code→Loop,rec=fun st pe=> { state:=st,pending:=pe,fn,tmps:=a.tmps,params:=ps,assign,body,defers:=w.heap.size }:=⟨_,rfl⟩
 obtain⟨W1,hW1⟩:∃W1,(w.alloc (.deferred (some []))).alloc (.loop (rec .ready none))=W1:=⟨_,rfl⟩
 have hS1:Sat ((Pr.pts (w.heap.size+1) (.loop (rec .ready none))).star ((Pr.pts w.heap.size (.deferred (some []))).star ((I []).star Own))) W1:=by
  rw [← hW1];have:=(h0.alloc (.deferred (some []))).alloc (.loop (rec .ready none))
  rwa [World.size_alloc] at this
 have hR1:Stays w W1:=by rw [← hW1];exact((Stays.refl w).alloc _).alloc _
 refine⟨w.heap.size+1,[{ target:= .collected w.heap.size,args:= #[] }],W1,{ target:= .fn (.func gf) lb,args:= #[.func (.yield (w.heap.size+1)) #[] #[]] },W1,gf,
  #[.func (.yield (w.heap.size+1)) #[] #[]]++lb,W1,?_,?_,?_,?_,fun h=>by simp [Fence.wide] at h,?_⟩
 · rw [← hW1,hrec];exact run_enterLoop_outer _ _ _ _ _
 · simp only [resolve,hg]
   simp [go_sem]
 · intro f' _;exact trivial
 · simp [invoke,go_sem,eg]
 · refine callsIn_wide.2 ((hit (w.heap.size+1)
    (fun pre=>(I pre).star ((Pr.pts (w.heap.size+1) (.loop (rec .ready none))).star (Pr.pts w.heap.size (.deferred (some [])))))
    (fun pre=>Pr.ex fun c=>(Ix c pre).star ((Pr.pts (w.heap.size+1) (.loop (rec .done (some c)))).star (Pr.pts w.heap.size (.deferred (some [])))))
    W1 ?_ (hS1.perm (by ac_rfl))).mono ?_)
   · intro Fr pre x W hpre hs
     have exr:∀(c:Code) {W':World},Sat (((Ix c (pre++ [x])).star ((Pr.pts (w.heap.size+1) (.loop (rec .done (some c)))).star (Pr.pts w.heap.size (.deferred (some []))))).star (Own.star Fr)) W'→
      Sat (((Pr.ex fun c=>(Ix c (pre++ [x])).star ((Pr.pts (w.heap.size+1) (.loop (rec .done (some c)))).star (Pr.pts w.heap.size (.deferred (some []))))).star Own).star Fr) W':=
      fun c W' h=>Sat.perm (Sat.ex.2 ⟨c,h⟩) (Pr.star_assoc _ _ _).symm
     have hs1:Sat ((Pr.pts (w.heap.size+1) (.loop (rec .ready none))).star (((I pre).star ((Give x).star Own)).star ((Pr.pts w.heap.size (.deferred (some []))).star Fr))) W:=hs.perm (by ac_rfl);have hl:=hs1.pts_heap;have hy:=run_yield (P:=P) (args:=encs x) hl (by rw [hrec];exact hps x);rw [hrec] at hy;refine⟨fn,_,assign,body,hy,roundIn_any (n:=n-1-1) (roundIn_of_wpIn hfn ?_)⟩
     refine wpIn_mono (hround (w.heap.size+1) pre x W ((Pr.pts (w.heap.size+1) (.loop (rec .ready none))).star ((Pr.pts w.heap.size (.deferred (some []))).star Fr)) hpre (hs1.perm (by ac_rfl))) ?_;rintro e a1 W2 hp;cases e with
     | normal=>
       obtain⟨A1,hR2,hs2,hb⟩:=hp;have hs3:Sat ((Pr.pts (w.heap.size+1) (.loop (rec .ready none))).star (A1.star ((Pr.pts w.heap.size (.deferred (some []))).star Fr))) W2:=hs2.perm (by ac_rfl);refine⟨_,run_beginRound hs3.pts_heap (by rw [hrec]),?_⟩;have hs4:=hs3.putObj (.loop { rec .ready none with state:= .busy })
       refine wpIn_mono (hb ((Pr.pts (w.heap.size+1) (.loop { rec .ready none with state:= .busy })).star ((Pr.pts w.heap.size (.deferred (some []))).star Fr)) _ ((Stays.refl W2).putObj _ _) (hs4.perm (by ac_rfl))) ?_
       have fin:∀(jump:Option Code) (B:Pr) (W3:World),Sat (B.star ((Pr.pts (w.heap.size+1) (.loop { rec .ready none with state:= .busy })).star ((Pr.pts w.heap.size (.deferred (some []))).star Fr))) W3→
        (Instr.endRound (w.heap.size+1) jump).run P W3= .ok (.bool jump.isNone) (W3.putObj (w.heap.size+1) (.loop (rec (if jump.isNone then .ready else .done) jump)))∧
        Sat (B.star ((Pr.pts (w.heap.size+1) (.loop (rec (if jump.isNone then .ready else .done) jump))).star ((Pr.pts w.heap.size (.deferred (some []))).star Fr))) (W3.putObj (w.heap.size+1) (.loop (rec (if jump.isNone then .ready else .done) jump))):=fun jump B W3 h3=>by
        have h4:Sat ((Pr.pts (w.heap.size+1) (.loop { rec .ready none with state:= .busy })).star (B.star ((Pr.pts w.heap.size (.deferred (some []))).star Fr))) W3:=h3.perm (by ac_rfl);have:=run_endRound (P:=P) jump h4.pts_heap
        rw [hrec] at this ⊢;exact⟨this,(h4.putObj _).perm (by ac_rfl)⟩
       have hRb:Stays W W2:=hR2;rintro e a3 W3 hp3;cases e with
       | normal=>
         obtain⟨hR3,hs5⟩:=hp3;obtain⟨hr,hs6⟩:=fin none _ W3 hs5;exact⟨_,_,hr,(hRb.trans (((Stays.refl W2).putObj _ _).trans hR3)).putObj _ _,.inl ⟨rfl,hs6.perm (by ac_rfl)⟩⟩
       | ret=>
         obtain⟨hR3,hs5⟩:=hp3;obtain⟨hr,hs6⟩:=fin (some .ret) _ W3 hs5;exact⟨_,_,hr,(hRb.trans (((Stays.refl W2).putObj _ _).trans hR3)).putObj _ _,.inr ⟨rfl,exr .ret (hs6.perm (by ac_rfl))⟩⟩
       | exit id=>
         obtain⟨hR3,hs5⟩:=hp3;obtain⟨hr,hs6⟩:=fin (some (.exit id)) _ W3 hs5;exact⟨_,_,hr,(hRb.trans (((Stays.refl W2).putObj _ _).trans hR3)).putObj _ _,.inr ⟨rfl,exr (.exit id) (hs6.perm (by ac_rfl))⟩⟩
       | goto t=>
         obtain⟨hR3,hs5⟩:=hp3;obtain⟨hr,hs6⟩:=fin (some (.goto t)) _ W3 hs5;exact⟨_,_,hr,(hRb.trans (((Stays.refl W2).putObj _ _).trans hR3)).putObj _ _,.inr ⟨rfl,exr (.goto t) (hs6.perm (by ac_rfl))⟩⟩
       | panic ch=>exact hp3.elim
       | outgrown=>exact hp3.elim
     | ret=>exact hp.elim
     | exit id=>exact hp.elim
     | goto t=>exact hp.elim
     | panic ch=>exact hp.elim
     | outgrown=>exact hp.elim
   · rintro e W2 ⟨⟨v,rfl⟩,hR2,(⟨xs,hxs,hs2⟩ | ⟨pre,hpre,hs2⟩)⟩
     · have hs3:Sat ((Pr.pts (w.heap.size+1) (.loop (rec .ready none))).star (((I xs).star Own).star (Pr.pts w.heap.size (.deferred (some []))))) W2:=hs2.perm (by ac_rfl)
       have hs4:=hs3.putObj (.loop { rec .ready none with state:= .exhausted });refine⟨none,_,by have:=run_endLoop (P:=P) hs3.pts_heap (by rw [hrec];simp);rw [hrec] at this;exact this,hdone w.heap.size xs _ hxs ((hR1.trans hR2).putObj _ _) ?_⟩;rw [hrec] at hs4;exact hs4.right
     · obtain⟨c,hs2⟩:=Sat.ex.1 hs2
       have hs3:Sat ((Pr.pts (w.heap.size+1) (.loop (rec .done (some c)))).star (((Ix c pre).star Own).star (Pr.pts w.heap.size (.deferred (some []))))) W2:=hs2.perm (by ac_rfl);have hs4:=hs3.putObj (.loop { rec .done (some c) with state:= .exhausted })
       refine⟨some c,_,by have:=run_endLoop (P:=P) hs3.pts_heap (by rw [hrec];simp);rw [hrec] at this;exact this,hstop w.heap.size c pre _ hpre ((hR1.trans hR2).putObj _ _) ?_⟩;rw [hrec] at hs4;exact hs4.right
theorem wp_rangeFunc_v {α:Type}(n:Nat){P:Program}{g:Operand}{ps:Array Tmp}{assign body:Code}{Q:Exit→Act→World→Prop}{a:Act}{w:World}
 {gf:Nat} {lb:Array Value} (hg:a.eval g= .func (.func gf) #[] lb) (eg:∀args w,(callFunc gf args).run P w= .ok (.enter gf args) w)
 {encs:α→Array Value} {Ok:List α→α→Prop} {Done Stop:List α→Prop} {Give:α→Pr} {Own:Pr} (hit:IterV P gf lb encs Ok Done Stop Give Own) (hps:∀x,(encs x).size=ps.size)
 (I:List α→Pr) (Ix:Code→List α→Pr) (h0:Sat ((I []).star Own) w)
 (hround:∀(l:Nat) (pre:List α) (x:α) (W:World) (F1:Pr),Ok pre x→Sat (((I pre).star ((Give x).star Own)).star F1) W→
   assign.wpIn (Fence.wide.inRound l) (n-1-1) P (Exit.then (fun a1 W1=> ∃A1:Pr,Stays W W1∧Sat (A1.star F1) W1∧
    ∀(F2:Pr) (W2:World),Stays W1 W2→Sat (A1.star F2) W2→body.wpIn (Fence.wide.inRound l) (n-1-1) P (roundEnd I Ix Own F2 (pre++ [x]) W2) a1 W2) (fun _ _ _=>False))
    { tmps:=(ps.zip (encs x)).foldl (fun t (p,v)=>t.setIfInBounds p v) a.tmps,defers:= [] } W)
 (hdone:∀(D:Nat) (xs:List α) (W:World),Done xs→Stays w W→Sat (((I xs).star Own).star (Pr.pts D (.deferred (some [])))) W→Q .normal { a with defers:= { target:= .collected D,args:= #[] } :: a.defers } W)
 (hstop:∀(D:Nat) (c:Code) (pre:List α) (W:World),Stop pre→Stays w W→Sat (((Ix c pre).star Own).star (Pr.pts D (.deferred (some [])))) W→
   c.wp P Q { a with defers:= { target:= .collected D,args:= #[] } :: a.defers } W):
 (Code.rangeFunc g ps assign body).wp P Q a w:=
 wpIn_wide.1 (wpIn_rangeFunc_v (n:=n) hg eg hit hps I Ix h0 hround hdone (fun D c pre W h1 h2 h3=>wpIn_wide.2 (hstop D c pre W h1 h2 h3)))
end Go.Sl
