/- A region that draws its order, where the first act is one of several (an allocation that may come early, say): each walked once. Plain lemmas over any program. -/
import Derived.Test.YtbobcmimkonnoaaGreatVaultLoadsM01
import Derived.OrdersIn
import Derived.TacticsIn
import Derived.Test.YtbobcmimkonnoaaGreatVaultLoadsM02
set_option maxRecDepth 100000
set_option maxHeartbeats 16000000
namespace Go.Sl
def forkOk(ops:Array Oper)(D Fd:List Nat)(alts:List (Nat × List Nat × List Nat × List (Nat × List Nat × List Nat))):Bool:=
 !alts.isEmpty && ((List.range ops.size).all fun i=>D.contains i || alts.any (fun s=>s.1 == i) || (match ops[i]? with
   | none=>true
   | some o=>o.after.any fun e=>Region.binds .any e && !D.contains e.on)) &&
 alts.all fun s=> !D.contains s.1 && decide (s.1<ops.size) &&
  (D.all fun i=>s.2.2.1.contains i || Fd.contains i || (ops[s.1]?).any fun o=>bindsOn o i) &&
  orderOk ops (D++ [s.1]) s.2.1 &&
  planOk ops (D++s.1 :: s.2.1) (Fd++s.1 :: D.filter fun i=>(ops[s.1]?).any fun o=>bindsOn o i) s.2.2.2
section
variable {P:Program}{ops:Array Oper}{sz:Nat}
theorem forked_any {Q:Exit→Act→World→Prop}(hs:slotsOk ops sz=true):∀(fuel:Nat) (L:Array Bool) (a:Act) (w:World) (D Fd:List Nat) (alts:List (Nat × List Nat × List Nat × List (Nat × List Nat × List Nat))) (f:Act),
 forkOk ops D Fd alts=true→L.size=ops.size→unl ops L=fuel→f.tmps.size=sz→Agree ops L a f→(∀i,i<ops.size→Lst L i→i∈D)→(∀i∈Fd,Lst L i)→
 (∀i∈D,¬Lst L i→YieldF P ops i f w)→(∀s∈alts,wpRest P ops Q ((s.1,s.2.1,s.2.2.1) :: s.2.2.2) f w)→wpAny P .any ops Q fuel L a w:=by
 intro fuel;induction fuel with
 | zero=>
   intro L a w D Fd alts f hp hL hu hfs hA hsub hFd hY hc;exfalso
   have hall:∀i,i<ops.size→Lst L i:=fun i hi=>by
    have h0:(List.range ops.size).filter (fun i=> !L.getD i true)= []:=List.eq_nil_of_length_eq_zero hu;have:=List.filter_eq_nil_iff.1 h0 i (List.mem_range.2 hi)
    simpa [Lst] using this
   simp only [forkOk,Bool.and_eq_true] at hp;obtain⟨⟨h1,_⟩,h3⟩:=hp;cases alts with
   | nil=>simp at h1
   | cons s alts=>
     have h4:=List.all_eq_true.1 h3 s (by simp);simp only [Bool.and_eq_true] at h4;obtain⟨⟨⟨⟨h5,h6⟩,_⟩,_⟩,_⟩:=h4;have:=hsub s.1 (by simpa using h6) (hall s.1 (by simpa using h6))
     simp [this] at h5
 | succ fuel ih=>
   intro L a w D Fd alts f hp hL hu hfs hA hsub hFd hY hc;refine⟨fun hnil=> ?_,fun i hi=> ?_⟩
   · exfalso
     have hne:(List.range ops.size).filter (fun i=> !L.getD i true)≠ []:=fun e=>by unfold unl at hu;rw [e] at hu;simp at hu
     obtain⟨j,hj⟩:=List.exists_mem_of_ne_nil _ hne;rw [List.mem_filter,List.mem_range] at hj;obtain⟨k,hk⟩:=unlisted_ready hs hL j j (Nat.le_refl _) hj.1 (by unfold Lst;simpa using hj.2);rw [hnil] at hk;cases hk
   · obtain⟨hin,hul,o,ho,hdeps⟩:=ready_mem.1 hi
     obtain⟨hn,hlt,_,hdd⟩:=slots_at hs ho;have hlook:∀t∈o.looksAt ops,a.tmps[t]? =f.tmps[t]? :=fun t ht=>hA.2.2 t fun j hj=>(dep_listed hdeps ((hdd j t hj).1 ht)).1
     obtain⟨he,hw⟩:=exec_same hn hlook;have hL':(L.setIfInBounds i true).size=ops.size:=by simpa using hL
     have hu':unl ops (L.setIfInBounds i true)=fuel:=by have:=unl_set (L:=L) hin hul;omega
     have hdst:∀j t,dstOf ops j=some t→j<ops.size:=fun j t hj=>by
      unfold dstOf at hj;cases hx:ops[j]? with
      | none=>simp [hx] at hj
      | some _=>exact(Array.getElem?_eq_some_iff.1 hx).1
     by_cases hD:i∈D
     ·
      have put:∀v,(∀d,o.dst=some d→f.tmps[d]? =some v)→wpAny P .any ops Q fuel (L.setIfInBounds i true) (a.put o.dst v) w:=by
       intro v hv;refine ih _ _ w D Fd alts f hp hL' hu' hfs ⟨by rw [put_size];exact hA.1,by rw [put_defs];exact hA.2.1,fun t ht=> ?_⟩ (fun j hj hl=> ?_) (fun j hj=>lst_set.2 (.inr (hFd j hj))) (fun j hj hl=>hY j hj fun h=>hl (lst_set.2 (.inr h))) hc
       · by_cases hdt:o.dst=some t
         · rw [hdt,put_self (by rw [hA.1,hfs];exact hlt t hdt),hv t hdt]
         · rw [put_at hdt]
           refine hA.2.2 t fun j hj=> ?_
           rcases lst_set.1 (ht j hj) with rfl | h
           · rw [dstOf_at ho] at hj;exact absurd hj hdt
           · exact h
       · rcases lst_set.1 hl with rfl | h
         · exact hD
         · exact hsub j hj h
      have hy:=hY i hD hul;simp only [YieldF,ho] at hy;unfold wpOp;simp only [ho];rcases hy with⟨hwt,v,hr,hv⟩ | ⟨hwf,hv⟩
      · rw [hw,hwt]
        simp only [if_true];refine .inl ?_;unfold Oper.wp;rw [he,hr];exact put v hv
      · rw [hw,hwf]
        simp only [Bool.false_eq_true,if_false];exact put undef hv
     ·
      simp only [forkOk,Bool.and_eq_true] at hp;obtain⟨⟨_,g3⟩,g4⟩:=hp
      have hix:alts.any (fun s=>s.1 == i)=true:=by
       have:=List.all_eq_true.1 g3 i (List.mem_range.2 hin)
       simp only [Bool.or_eq_true,ho] at this;rcases this with(t | t) | t
       · exact absurd (by simpa using t) hD
       · exact t
       · exfalso
         obtain⟨e,hem,heb⟩:=any_mem t;simp only [Bool.and_eq_true] at heb;obtain⟨hl,hlt2⟩:=lst_of_getD (hdeps e hem heb.1);have:=hsub e.on (by omega) hl
         simp [this] at heb
      obtain⟨⟨x,E,C,rest⟩,hsm,hx⟩:=List.any_eq_true.1 hix;have hxi:x=i:=by simpa using hx
      subst hxi;have g5:=List.all_eq_true.1 g4 _ hsm;simp only [Bool.and_eq_true] at g5;obtain⟨⟨⟨⟨h1,h2⟩,h4⟩,h5⟩,h6⟩:=g5;have hc:=hc _ hsm;have hnin:=order_nin _ _ h5
      have step:∀v ds w',wpQ P ops E (fun f2=>Chk P ops C f2 w'∧wpRest P ops Q rest f2 w') (({ f with defers:=ds }:Act).put o.dst v) w'→
       wpAny P .any ops Q fuel (L.setIfInBounds x true) (({ a with defers:=ds }:Act).put o.dst v) w':=by
       intro v ds w' hq;obtain⟨f2,⟨hC,hcont⟩,hf2s,hf2d,hf2t,hf2y⟩:=wpQ_out hs E _ _ _ h5 (by rw [put_size];exact hfs) hq;refine staged_any hs fuel _ _ w' (D++x :: E) _ rest f2 h6 hL' hu' hf2s ⟨by rw [put_size,hf2s];exact hA.1.trans hfs,by rw [put_defs,hf2d,put_defs],fun t ht=> ?_⟩ (fun j hj hl=> ?_) (fun j hj=> ?_) (fun j hj hl=> ?_) hcont
       · rw [hf2t t (fun j hj e=>by
          have hl:=ht j e
          obtain⟨hj1,hj2⟩:=hnin j hj
          rcases lst_set.1 hl with rfl | h
          · exact hj1 (by simp)
          · exact hj1 (List.mem_append_left _ (hsub j hj2 h)))]
         by_cases hdt:o.dst=some t
         · rw [hdt,put_self (by show t<a.tmps.size;rw [hA.1,hfs];exact hlt t hdt),put_self (by show t<f.tmps.size;rw [hfs];exact hlt t hdt)]
         · rw [put_at hdt,put_at hdt]
           refine hA.2.2 t fun j hj=> ?_
           rcases lst_set.1 (ht j hj) with rfl | h
           · rw [dstOf_at ho] at hj;exact absurd hj hdt
           · exact h
       · rcases lst_set.1 hl with rfl | h
         · simp
         · exact List.mem_append_left _ (hsub j hj h)
       · rcases List.mem_append.1 hj with h | h
         · exact lst_set.2 (.inr (hFd j h))
         · rcases List.mem_cons.1 h with rfl | h
           · exact lst_set.2 (.inl rfl)
           · rw [List.mem_filter] at h
             have hb:=h.2;simp only [ho,Option.any_some] at hb;exact lst_set.2 (.inr (dep_listed hdeps hb).1)
       · rcases List.mem_append.1 hj with h | h
         · have:=List.all_eq_true.1 h4 j h
           simp only [Bool.or_eq_true,ho,Option.any_some] at this;rcases this with(t | t) | t
           · exact hC j (by simpa using t)
           · exact absurd (lst_set.2 (.inr (hFd j (by simpa using t)))) hl
           · exact absurd (lst_set.2 (.inr (dep_listed hdeps t).1)) hl
         · rcases List.mem_cons.1 h with rfl | h
           · exact absurd (lst_set.2 (.inl rfl)) hl
           · exact hf2y j h
      simp only [wpRest,ho,wpList] at hc;unfold wpOp;simp only [ho];rw [hw];split
      · rename_i hwt
        rw [if_pos hwt] at hc;rcases hc with hc | ⟨_,_,_,hf⟩
        · exact .inl (oper_wp_rel he hA.2.1 (fun v ds w' h=>step v ds w' h) hc)
        · exact(hf:False).elim
      · rename_i hwf
        rw [if_neg hwf] at hc;have:=step undef f.defers w hc
        rw [← hA.2.1] at this;exact this
theorem wp_region_forked {Q:Exit→Act→World→Prop}{id:Nat}{a:Act}{w:World}(hm:P.follows .mixedOrders=true)(E0:List Nat)(alts:List (Nat × List Nat × List Nat × List (Nat × List Nat × List Nat)))
 (hsz:a.tmps.size=sz) (hs:slotsOk ops sz=true) (ho:orderOk ops [] E0=true) (hp:forkOk ops E0 [] alts=true)
 (h:wpQ P ops E0 (fun f=> ∀s∈alts,wpRest P ops Q ((s.1,s.2.1,s.2.2.1) :: s.2.2.2) f w.drew) a w.drew):(Code.region id ops true).wp P Q a w:=by
 refine wp_region_any hm ?_;obtain⟨f,hc,hfs,hfd,hft,hfy⟩:=wpQ_out hs E0 _ _ _ ho hsz h;have hno:∀i,i<ops.size→¬Lst (Array.replicate ops.size false) i:=fun i hi h=>by simp [Lst,hi,Array.getD_eq_getD_getElem?] at h
 refine forked_any hs _ _ _ _ E0 [] alts f hp (by simp) ?_ hfs ⟨hsz.trans hfs.symm,hfd.symm,fun t ht=>(hft t fun j hj e=> ?_).symm⟩ (fun i hi hl=>absurd hl (hno i hi)) (fun i hi=>by cases hi) (fun i hi _=>hfy i hi) hc
 · unfold unl
   rw [List.filter_eq_self.2]
   · simp
   · intro i hi
     have:=hno i (List.mem_range.1 hi)
     simpa [Lst] using this
 · have hj2:=(order_nin _ _ ho j hj).2
   exact hno j hj2 (ht j e)
end
end Go.Sl
namespace Go.Sl
def noDefer:Op→Bool
 | .defer _=>false
 | _=>true
def cutQ(Q:Exit→Act→World→Prop):Exit→Act→World→Prop
 | .normal,a,w=>Q .normal a w
 | .panic c,a,w=>Q (.panic c) a w
 | _,_,_=>False
theorem cutQ_out(Q:Exit→Act→World→Prop):¬LetsOut (cutQ Q):=fun h=>by
 first | exact h | exact h default default | exact h { tmps:= #[],defers:= [] } default | (obtain⟨_,_,h⟩:=h;exact h)
def slotsOkD(ops:Array Oper):Bool:=ops.all fun o=>noDefer o.op
section
variable {P:Program}{ops:Array Oper}{Q:Exit→Act→World→Prop}{l n:Nat}
theorem wpRest_cut:∀(rest:List (Nat × List Nat × List Nat)),wpRest P ops Q rest=wpRest P ops (cutQ Q) rest
 | []=>rfl
 | (x,E,C) :: rest=>by
   funext f w
   simp only [wpRest,wpRest_cut rest]
theorem oper_in {o:Oper}(hd:noDefer o.op=true){a:Act}{w:World}{next next':Act→World→Prop}(hn:∀a w,next a w→next' a w)(h:o.wp P a w next (cutQ Q)):o.wpIn (Fence.wide.inRound l) n P a w next' Q:=by
 refine⟨fun _ _=>trivial,?_⟩;have e:o.semAt (Fence.wide.inRound l).round a.eval=execOp a.eval o:=Oper.semAt_eq _ _ _ (fun c e=>by rw [e] at hd;cases hd);rw [e];unfold Oper.wp at h;generalize (execOp a.eval o).run P w=r at*;cases r with
 | ok x w'=>
   cases x with
   | value v=>exact hn _ _ h
   | skip=>exact hn _ _ h
   | defer d=>exact hn _ _ h
   | enter f args=>
     refine⟨fun h=>by simp [Fence.wide,Fence.inRound] at h,?_⟩;refine((callsIn_wide (n:=n-1)).2 h:CallsIn (Fence.wide.inRound l) (n-1) P f args w' _).mono ?_;intro e w'' he;cases e with
     | returned v=>exact hn _ _ he
     | panicked c=>exact he
     | outgrown=>exact absurd he (cutQ_out Q)
   | row row args=>
     refine⟨fun h=>by simp [Fence.wide,Fence.inRound] at h,?_⟩;have h':Rows P row args w' fun v w''=>next (a.put o.dst v) w'':=h
     exact RowsIn.mono (F:=Fence.wide.inRound l) (fun c cs _=>let ⟨v,w',r,s⟩:=h' c cs;⟨v,w',r,stepsIn_wide.2 s⟩) (fun _ _ he=>hn _ _ he)
   | _=>exact(h:False).elim
 | halt x w'=>
   cases x<;>first | exact h | exact(h:False).elim
theorem any_in(hs:slotsOkD ops=true):∀(fuel:Nat) (L:Array Bool) (a:Act) (w:World),wpAny P .any ops (cutQ Q) fuel L a w→wpAnyIn (Fence.wide.inRound l) n P .any ops Q fuel L a w:=by
 intro fuel;induction fuel with
 | zero=>intro L a w h;exact h
 | succ fuel ih=>
   intro L a w h;refine⟨fun e=>h.1 e,fun i hi=> ?_⟩;have h2:=h.2 i hi;unfold wpOp at h2;unfold wpOpIn;cases ho:ops[i]? with
   | none=>simp only [ho] at h2 ⊢;exact ih _ _ _ h2
   | some o=>
     simp only [ho] at h2 ⊢
     have hd:noDefer o.op=true:=by
      have hi2:=(Array.getElem?_eq_some_iff.1 ho);obtain⟨hi3,e⟩:=hi2;have:=Array.all_eq_true_iff_forall_mem.1 hs o (by rw [← e];exact Array.getElem_mem hi3)
      exact this
     split
     · rename_i hw
       rw [if_pos hw] at h2;rcases h2 with h2 | ⟨_,h2⟩
       · exact oper_in hd (fun a w h=>ih _ a w h) h2
       · exact absurd h2 (cutQ_out Q)
     · rename_i hw
       rw [if_neg hw] at h2;exact⟨fun _ _=>trivial,ih _ _ _ h2⟩
theorem wpIn_region_staged {sz:Nat}{id:Nat}{a:Act}{w:World}(hm:P.follows .mixedOrders=true)(E0:List Nat)(rest:List (Nat × List Nat × List Nat))
 (hsz:a.tmps.size=sz) (hs:slotsOk ops sz=true) (hsd:slotsOkD ops=true) (ho:orderOk ops [] E0=true) (hp:planOk ops E0 [] rest=true)
 (h:wpQ P ops E0 (fun f=>wpRest P ops Q rest f w.drew) a w.drew):(Code.region id ops true).wpIn (Fence.wide.inRound l) n P Q a w:=by
 refine wpIn_region_any hm (any_in hsd _ _ _ _ ?_);rw [wpRest_cut rest] at h;obtain⟨f,hc,hfs,hfd,hft,hfy⟩:=wpQ_out hs E0 _ _ _ ho hsz h;have hno:∀i,i<ops.size→¬Lst (Array.replicate ops.size false) i:=fun i hi h=>by simp [Lst,hi,Array.getD_eq_getD_getElem?] at h
 refine staged_any hs _ _ _ _ E0 [] rest f hp (by simp) ?_ hfs ⟨hsz.trans hfs.symm,hfd.symm,fun t ht=>(hft t fun j hj e=> ?_).symm⟩ (fun i hi hl=>absurd hl (hno i hi)) (fun i hi=>by cases hi) (fun i hi _=>hfy i hi) hc
 · unfold unl
   rw [List.filter_eq_self.2]
   · simp
   · intro i hi
     have:=hno i (List.mem_range.1 hi)
     simpa [Lst] using this
 · have hj2:=(order_nin _ _ ho j hj).2
   exact hno j hj2 (ht j e)
end
end Go.Sl
namespace Go.Sl
open Go.RowKit
def IterV {α:Type}(P:Program)(g:Nat)(lb:Array Value)(encs:α→Array Value)(Ok:List α→α→Prop)(Done Stop:List α→Prop)(Give:α→Pr)(Own:Pr):Prop:=
 ∀(l:Nat) (J Jx:List α→Pr) (W:World),
  (∀(Fr:Pr) pre x W1,Ok pre x→Sat (((J pre).star ((Give x).star Own)).star Fr) W1→YieldAt Fence.wide 0 P l (encs x) W1 fun e W'=>
    Stays W1 W'∧((e= .returned (.bool true)∧Sat (((J (pre++ [x])).star Own).star Fr) W')∨(e= .returned (.bool false)∧Sat (((Jx (pre++ [x])).star Own).star Fr) W')))→
  Sat ((J []).star Own) W→
  Calls P g (#[.func (.yield l) #[] #[]]++lb) W fun e W'=>(∃v,e= .returned v)∧Stays W W'∧((∃xs,Done xs∧Sat ((J xs).star Own) W')∨∃pre,Stop pre∧Sat ((Jx pre).star Own) W')
theorem wpIn_rangeFunc_v {α:Type}{n:Nat}{P:Program}{g:Operand}{ps:Array Tmp}{assign body:Code}{Q:Exit→Act→World→Prop}{a:Act}{w:World}
 {gf:Nat} {lb:Array Value} (hg:a.eval g= .func (.func gf) #[] lb) (eg:∀args w,(callFunc gf args).run P w= .ok (.enter gf args) w)
 {encs:α→Array Value} {Ok:List α→α→Prop} {Done Stop:List α→Prop} {Give:α→Pr} {Own:Pr} (hit:IterV P gf lb encs Ok Done Stop Give Own) (hps:∀x,(encs x).size=ps.size)
 (I:List α→Pr) (Ix:Code→List α→Pr) (h0:Sat ((I []).star Own) w)
 (hround:∀(l:Nat) (pre:List α) (x:α) (W:World) (F1:Pr),Ok pre x→Sat (((I pre).star ((Give x).star Own)).star F1) W→
   assign.wpIn (Fence.wide.inRound l) (n-1-1) P (Exit.then (fun a1 W1=> ∃A1:Pr,Stays W W1∧Sat (A1.star F1) W1∧
    ∀(F2:Pr) (W2:World),Stays W1 W2→Sat (A1.star F2) W2→body.wpIn (Fence.wide.inRound l) (n-1-1) P (roundEnd I Ix Own F2 (pre++ [x]) W2) a1 W2) (fun _ _ _=>False))
    { tmps:=(ps.zip (encs x)).foldl (fun t (p,v)=>t.setIfInBounds p v) a.tmps,defers:= [] } W)
 (hdone:∀(D:Nat) (xs:List α) (W:World),Done xs→Stays w W→Sat (((I xs).star Own).star (Pr.pts D (.deferred (some [])))) W→Q .normal { a with defers:= { target:= .collected D,args:= #[] } :: a.defers } W)
 (hstop:∀(D:Nat) (c:Code) (pre:List α) (W:World),Stop pre→Stays w W→Sat (((Ix c pre).star Own).star (Pr.pts D (.deferred (some [])))) W→
   c.wpIn Fence.wide n P Q { a with defers:= { target:= .collected D,args:= #[] } :: a.defers } W):
 (Code.rangeFunc g ps assign body).wpIn Fence.wide n P Q a w:=by
 refine wpIn_rangeFunc ?_;intro fn hfn;obtain⟨rec,hrec⟩:∃rec:LoopState→Option Code→Loop,rec=fun st pe=> { state:=st,pending:=pe,fn,tmps:=a.tmps,params:=ps,assign,body,defers:=w.heap.size }:=⟨_,rfl⟩
 obtain⟨W1,hW1⟩:∃W1,(w.alloc (.deferred (some []))).alloc (.loop (rec .ready none))=W1:=⟨_,rfl⟩
 have hS1:Sat ((Pr.pts (w.heap.size+1) (.loop (rec .ready none))).star ((Pr.pts w.heap.size (.deferred (some []))).star ((I []).star Own))) W1:=by
  rw [← hW1];have:=(h0.alloc (.deferred (some []))).alloc (.loop (rec .ready none))
  rwa [World.size_alloc] at this
 have hR1:Stays w W1:=by rw [← hW1];exact((Stays.refl w).alloc _).alloc _
 refine⟨w.heap.size+1,[{ target:= .collected w.heap.size,args:= #[] }],W1,{ target:= .fn (.func gf) lb,args:= #[.func (.yield (w.heap.size+1)) #[] #[]] },W1,gf,
  #[.func (.yield (w.heap.size+1)) #[] #[]]++lb,W1,?_,?_,?_,?_,fun h=>by simp [Fence.wide] at h,?_⟩
 · rw [← hW1,hrec];exact run_enterLoop_outer _ _ _ _ _
 · simp only [resolve,hg]
   simp [go_sem]
 · intro f' _;exact trivial
 · simp [invoke,go_sem,eg]
 · refine callsIn_wide.2 ((hit (w.heap.size+1)
    (fun pre=>(I pre).star ((Pr.pts (w.heap.size+1) (.loop (rec .ready none))).star (Pr.pts w.heap.size (.deferred (some [])))))
    (fun pre=>Pr.ex fun c=>(Ix c pre).star ((Pr.pts (w.heap.size+1) (.loop (rec .done (some c)))).star (Pr.pts w.heap.size (.deferred (some [])))))
    W1 ?_ (hS1.perm (by ac_rfl))).mono ?_)
   · intro Fr pre x W hpre hs
     have exr:∀(c:Code) {W':World},Sat (((Ix c (pre++ [x])).star ((Pr.pts (w.heap.size+1) (.loop (rec .done (some c)))).star (Pr.pts w.heap.size (.deferred (some []))))).star (Own.star Fr)) W'→
      Sat (((Pr.ex fun c=>(Ix c (pre++ [x])).star ((Pr.pts (w.heap.size+1) (.loop (rec .done (some c)))).star (Pr.pts w.heap.size (.deferred (some []))))).star Own).star Fr) W':=
      fun c W' h=>Sat.perm (Sat.ex.2 ⟨c,h⟩) (Pr.star_assoc _ _ _).symm
     have hs1:Sat ((Pr.pts (w.heap.size+1) (.loop (rec .ready none))).star (((I pre).star ((Give x).star Own)).star ((Pr.pts w.heap.size (.deferred (some []))).star Fr))) W:=hs.perm (by ac_rfl);have hl:=hs1.pts_heap;have hy:=run_yield (P:=P) (args:=encs x) hl (by rw [hrec];exact hps x);rw [hrec] at hy;refine⟨fn,_,assign,body,hy,roundIn_any (n:=n-1-1) (roundIn_of_wpIn hfn ?_)⟩
     refine wpIn_mono (hround (w.heap.size+1) pre x W ((Pr.pts (w.heap.size+1) (.loop (rec .ready none))).star ((Pr.pts w.heap.size (.deferred (some []))).star Fr)) hpre (hs1.perm (by ac_rfl))) ?_;rintro e a1 W2 hp;cases e with
     | normal=>
       obtain⟨A1,hR2,hs2,hb⟩:=hp;have hs3:Sat ((Pr.pts (w.heap.size+1) (.loop (rec .ready none))).star (A1.star ((Pr.pts w.heap.size (.deferred (some []))).star Fr))) W2:=hs2.perm (by ac_rfl);refine⟨_,run_beginRound hs3.pts_heap (by rw [hrec]),?_⟩;have hs4:=hs3.putObj (.loop { rec .ready none with state:= .busy })
       refine wpIn_mono (hb ((Pr.pts (w.heap.size+1) (.loop { rec .ready none with state:= .busy })).star ((Pr.pts w.heap.size (.deferred (some []))).star Fr)) _ ((Stays.refl W2).putObj _ _) (hs4.perm (by ac_rfl))) ?_
       have fin:∀(jump:Option Code) (B:Pr) (W3:World),Sat (B.star ((Pr.pts (w.heap.size+1) (.loop { rec .ready none with state:= .busy })).star ((Pr.pts w.heap.size (.deferred (some []))).star Fr))) W3→
        (Instr.endRound (w.heap.size+1) jump).run P W3= .ok (.bool jump.isNone) (W3.putObj (w.heap.size+1) (.loop (rec (if jump.isNone then .ready else .done) jump)))∧
        Sat (B.star ((Pr.pts (w.heap.size+1) (.loop (rec (if jump.isNone then .ready else .done) jump))).star ((Pr.pts w.heap.size (.deferred (some []))).star Fr))) (W3.putObj (w.heap.size+1) (.loop (rec (if jump.isNone then .ready else .done) jump))):=fun jump B W3 h3=>by
        have h4:Sat ((Pr.pts (w.heap.size+1) (.loop { rec .ready none with state:= .busy })).star (B.star ((Pr.pts w.heap.size (.deferred (some []))).star Fr))) W3:=h3.perm (by ac_rfl);have:=run_endRound (P:=P) jump h4.pts_heap
        rw [hrec] at this ⊢;exact⟨this,(h4.putObj _).perm (by ac_rfl)⟩
       have hRb:Stays W W2:=hR2;rintro e a3 W3 hp3;cases e with
       | normal=>
         obtain⟨hR3,hs5⟩:=hp3;obtain⟨hr,hs6⟩:=fin none _ W3 hs5;exact⟨_,_,hr,(hRb.trans (((Stays.refl W2).putObj _ _).trans hR3)).putObj _ _,.inl ⟨rfl,hs6.perm (by ac_rfl)⟩⟩
       | ret=>
         obtain⟨hR3,hs5⟩:=hp3;obtain⟨hr,hs6⟩:=fin (some .ret) _ W3 hs5;exact⟨_,_,hr,(hRb.trans (((Stays.refl W2).putObj _ _).trans hR3)).putObj _ _,.inr ⟨rfl,exr .ret (hs6.perm (by ac_rfl))⟩⟩
       | exit id=>
         obtain⟨hR3,hs5⟩:=hp3;obtain⟨hr,hs6⟩:=fin (some (.exit id)) _ W3 hs5;exact⟨_,_,hr,(hRb.trans (((Stays.refl W2).putObj _ _).trans hR3)).putObj _ _,.inr ⟨rfl,exr (.exit id) (hs6.perm (by ac_rfl))⟩⟩
       | goto t=>
         obtain⟨hR3,hs5⟩:=hp3;obtain⟨hr,hs6⟩:=fin (some (.goto t)) _ W3 hs5;exact⟨_,_,hr,(hRb.trans (((Stays.refl W2).putObj _ _).trans hR3)).putObj _ _,.inr ⟨rfl,exr (.goto t) (hs6.perm (by ac_rfl))⟩⟩
       | panic ch=>exact hp3.elim
       | outgrown=>exact hp3.elim
     | ret=>exact hp.elim
     | exit id=>exact hp.elim
     | goto t=>exact hp.elim
     | panic ch=>exact hp.elim
     | outgrown=>exact hp.elim
   · rintro e W2 ⟨⟨v,rfl⟩,hR2,(⟨xs,hxs,hs2⟩ | ⟨pre,hpre,hs2⟩)⟩
     · have hs3:Sat ((Pr.pts (w.heap.size+1) (.loop (rec .ready none))).star (((I xs).star Own).star (Pr.pts w.heap.size (.deferred (some []))))) W2:=hs2.perm (by ac_rfl)
       have hs4:=hs3.putObj (.loop { rec .ready none with state:= .exhausted });refine⟨none,_,by have:=run_endLoop (P:=P) hs3.pts_heap (by rw [hrec];simp);rw [hrec] at this;exact this,hdone w.heap.size xs _ hxs ((hR1.trans hR2).putObj _ _) ?_⟩;rw [hrec] at hs4;exact hs4.right
     · obtain⟨c,hs2⟩:=Sat.ex.1 hs2
       have hs3:Sat ((Pr.pts (w.heap.size+1) (.loop (rec .done (some c)))).star (((Ix c pre).star Own).star (Pr.pts w.heap.size (.deferred (some []))))) W2:=hs2.perm (by ac_rfl);have hs4:=hs3.putObj (.loop { rec .done (some c) with state:= .exhausted })
       refine⟨some c,_,by have:=run_endLoop (P:=P) hs3.pts_heap (by rw [hrec];simp);rw [hrec] at this;exact this,hstop w.heap.size c pre _ hpre ((hR1.trans hR2).putObj _ _) ?_⟩;rw [hrec] at hs4;exact hs4.right
theorem wp_rangeFunc_v {α:Type}(n:Nat){P:Program}{g:Operand}{ps:Array Tmp}{assign body:Code}{Q:Exit→Act→World→Prop}{a:Act}{w:World}
 {gf:Nat} {lb:Array Value} (hg:a.eval g= .func (.func gf) #[] lb) (eg:∀args w,(callFunc gf args).run P w= .ok (.enter gf args) w)
 {encs:α→Array Value} {Ok:List α→α→Prop} {Done Stop:List α→Prop} {Give:α→Pr} {Own:Pr} (hit:IterV P gf lb encs Ok Done Stop Give Own) (hps:∀x,(encs x).size=ps.size)
 (I:List α→Pr) (Ix:Code→List α→Pr) (h0:Sat ((I []).star Own) w)
 (hround:∀(l:Nat) (pre:List α) (x:α) (W:World) (F1:Pr),Ok pre x→Sat (((I pre).star ((Give x).star Own)).star F1) W→
   assign.wpIn (Fence.wide.inRound l) (n-1-1) P (Exit.then (fun a1 W1=> ∃A1:Pr,Stays W W1∧Sat (A1.star F1) W1∧
    ∀(F2:Pr) (W2:World),Stays W1 W2→Sat (A1.star F2) W2→body.wpIn (Fence.wide.inRound l) (n-1-1) P (roundEnd I Ix Own F2 (pre++ [x]) W2) a1 W2) (fun _ _ _=>False))
    { tmps:=(ps.zip (encs x)).foldl (fun t (p,v)=>t.setIfInBounds p v) a.tmps,defers:= [] } W)
 (hdone:∀(D:Nat) (xs:List α) (W:World),Done xs→Stays w W→Sat (((I xs).star Own).star (Pr.pts D (.deferred (some [])))) W→Q .normal { a with defers:= { target:= .collected D,args:= #[] } :: a.defers } W)
 (hstop:∀(D:Nat) (c:Code) (pre:List α) (W:World),Stop pre→Stays w W→Sat (((Ix c pre).star Own).star (Pr.pts D (.deferred (some [])))) W→
   c.wp P Q { a with defers:= { target:= .collected D,args:= #[] } :: a.defers } W):
 (Code.rangeFunc g ps assign body).wp P Q a w:=
 wpIn_wide.1 (wpIn_rangeFunc_v (n:=n) hg eg hit hps I Ix h0 hround hdone (fun D c pre W h1 h2 h3=>wpIn_wide.2 (hstop D c pre W h1 h2 h3)))
end Go.Sl
namespace Go.Sl
def wpRestIn(F:Fence)(n:Nat)(P:Program)(ops:Array Oper)(Q:Exit→Act→World→Prop):List (Nat × List Nat × List Nat)→Act→World→Prop
 | [],f,w=>Q .normal f w
 | (x,E,C) :: rest,f,w=>match ops[x]? with
   | none=>False
   | some o=>wpListIn F n P ops (onN fun f1 w1=>wpQ P ops E (fun f2=>Chk P ops C f2 w1∧wpRestIn F n P ops Q rest f2 w1) f1 w1) [o] f w
section
variable {F:Fence}{n:Nat}{P:Program}{ops:Array Oper}{sz:Nat}
theorem nodef_at(hs:slotsOkD ops=true){i:Nat}{o:Oper}(ho:ops[i]? =some o):∀c,o.op≠ .defer c:=by
 intro c e;obtain⟨hi3,e2⟩:=Array.getElem?_eq_some_iff.1 ho;have:=Array.all_eq_true_iff_forall_mem.1 hs o (by rw [← e2];exact Array.getElem_mem hi3)
 rw [e] at this;cases this
theorem oper_wpIn_rel(hF:∀f,F.fn f){o:Oper}(hd2:∀c,o.op≠ .defer c){a f:Act}{w:World}{K Kr:Act→World→Prop}{Q:Exit→Act→World→Prop}{K2:Act→World→Prop}(he:execOp a.eval o=execOp f.eval o)(hd:a.defers=f.defers)
 (hK:∀v ds w',K (({ f with defers:=ds }:Act).put o.dst v) w'→Kr (({ a with defers:=ds }:Act).put o.dst v) w') (h:o.wpIn F n P f w K (onN K2)):o.wpIn F n P a w Kr Q:=by
 refine⟨fun g _=>hF g,?_⟩;have h:=h.2;rw [Oper.semAt_eq _ _ _ hd2] at h ⊢;rw [he];generalize (execOp f.eval o).run P w=r at*
 have hK0:∀v w',K (f.put o.dst v) w'→Kr (a.put o.dst v) w':=fun v w' h=>by
  have:=hK v f.defers w' h
  rw [← hd] at this;exact this
 have hend:∀(e:Ending) (w'':World),(match (motive:=Ending→World→Prop) e,w'' with | .returned v,w''=>K (f.put o.dst v) w'' | .panicked c,w''=>onN K2 (.panic c) f w'' | .outgrown,_=>LetsOut (onN K2))→
  (match (motive:=Ending→World→Prop) e,w'' with | .returned v,w''=>Kr (a.put o.dst v) w'' | .panicked c,w''=>Q (.panic c) a w'' | .outgrown,_=>LetsOut Q):=by
  intro e w'' he;cases e with
  | returned v=>exact hK0 _ _ he
  | panicked c=>exact(he:False).elim
  | outgrown=>obtain⟨_,_,hf⟩:=he;exact(hf:False).elim
 cases r with
 | ok x w'=>
   cases x<;>simp only [Oper.uponIn] at h ⊢ <;>
    first
     | exact hK0 _ _ h
     | (rw [hd];exact hK _ _ _ h)
     | exact⟨h.1,CallsIn.mono h.2 hend⟩
     | exact⟨h.1,RoundIn.mono h.2 hend⟩
     | exact⟨h.1,RowsIn.mono h.2 (fun _ _ he=>hK0 _ _ he)⟩
 | halt x w'=>cases x<;>simp only [Oper.uponIn] at h ⊢ <;>first | exact h | exact(h:False).elim
theorem staged_anyIn {Q:Exit→Act→World→Prop}(hF:∀f,F.fn f)(hsd:slotsOkD ops=true)(hs:slotsOk ops sz=true):∀(fuel:Nat) (L:Array Bool) (a:Act) (w:World) (D Fd:List Nat) (rest:List (Nat × List Nat × List Nat)) (f:Act),
 planOk ops D Fd rest=true→L.size=ops.size→unl ops L=fuel→f.tmps.size=sz→Agree ops L a f→(∀i,i<ops.size→Lst L i→i∈D)→(∀i∈Fd,Lst L i)→
 (∀i∈D,¬Lst L i→YieldF P ops i f w)→wpRestIn F n P ops Q rest f w→wpAnyIn F n P .any ops Q fuel L a w:=by
 intro fuel;induction fuel with
 | zero=>
   intro L a w D Fd rest f hp hL hu hfs hA hsub hFd hY hc
   have hall:∀i,i<ops.size→Lst L i:=fun i hi=>by
    have h0:(List.range ops.size).filter (fun i=> !L.getD i true)= []:=List.eq_nil_of_length_eq_zero hu;have:=List.filter_eq_nil_iff.1 h0 i (List.mem_range.2 hi)
    simpa [Lst] using this
   have hnil:Region.ready .any ops L= []:=by
    cases hr:Region.ready .any ops L with
    | nil=>rfl
    | cons j js=>
      have hj:j∈Region.ready .any ops L:=by rw [hr];exact List.mem_cons_self
      obtain⟨h1,h2,_⟩:=ready_mem.1 hj;exact absurd (hall j h1) h2
   refine⟨hnil,?_⟩;cases rest with
   | nil=>rw [agree_all hA hall];exact hc
   | cons s rest=>
     obtain⟨x,E,C⟩:=s;simp only [planOk,Bool.and_eq_true] at hp;obtain⟨⟨⟨⟨⟨h1,h2⟩,_⟩,_⟩,_⟩,_⟩:=hp;have hx:x<ops.size:=by simpa using h2
     have:=hsub x hx (hall x hx)
     simp [this] at h1
 | succ fuel ih=>
   intro L a w D Fd rest f hp hL hu hfs hA hsub hFd hY hc;refine⟨fun hnil=> ?_,fun i hi=> ?_⟩
   · exfalso
     have hne:(List.range ops.size).filter (fun i=> !L.getD i true)≠ []:=fun e=>by unfold unl at hu;rw [e] at hu;simp at hu
     obtain⟨j,hj⟩:=List.exists_mem_of_ne_nil _ hne;rw [List.mem_filter,List.mem_range] at hj;obtain⟨k,hk⟩:=unlisted_ready hs hL j j (Nat.le_refl _) hj.1 (by unfold Lst;simpa using hj.2);rw [hnil] at hk;cases hk
   · obtain⟨hin,hul,o,ho,hdeps⟩:=ready_mem.1 hi
     obtain⟨hn,hlt,_,hdd⟩:=slots_at hs ho;have hlook:∀t∈o.looksAt ops,a.tmps[t]? =f.tmps[t]? :=fun t ht=>hA.2.2 t fun j hj=>(dep_listed hdeps ((hdd j t hj).1 ht)).1
     obtain⟨he,hw⟩:=exec_same hn hlook;have hL':(L.setIfInBounds i true).size=ops.size:=by simpa using hL
     have hu':unl ops (L.setIfInBounds i true)=fuel:=by have:=unl_set (L:=L) hin hul;omega
     have hdst:∀j t,dstOf ops j=some t→j<ops.size:=fun j t hj=>by
      unfold dstOf at hj;cases hx:ops[j]? with
      | none=>simp [hx] at hj
      | some _=>exact(Array.getElem?_eq_some_iff.1 hx).1
     by_cases hD:i∈D
     ·
      have put:∀v,(∀d,o.dst=some d→f.tmps[d]? =some v)→wpAnyIn F n P .any ops Q fuel (L.setIfInBounds i true) (a.put o.dst v) w:=by
       intro v hv;refine ih _ _ w D Fd rest f hp hL' hu' hfs ⟨by rw [put_size];exact hA.1,by rw [put_defs];exact hA.2.1,fun t ht=> ?_⟩ (fun j hj hl=> ?_) (fun j hj=>lst_set.2 (.inr (hFd j hj))) (fun j hj hl=>hY j hj fun h=>hl (lst_set.2 (.inr h))) hc
       · by_cases hdt:o.dst=some t
         · rw [hdt,put_self (by rw [hA.1,hfs];exact hlt t hdt),hv t hdt]
         · rw [put_at hdt]
           refine hA.2.2 t fun j hj=> ?_
           rcases lst_set.1 (ht j hj) with rfl | h
           · rw [dstOf_at ho] at hj;exact absurd hj hdt
           · exact h
       · rcases lst_set.1 hl with rfl | h
         · exact hD
         · exact hsub j hj h
      have hy:=hY i hD hul;simp only [YieldF,ho] at hy;unfold wpOpIn;simp only [ho];rcases hy with⟨hwt,v,hr,hv⟩ | ⟨hwf,hv⟩
      · rw [hw,hwt]
        simp only [if_true];refine⟨fun g _=>hF g,?_⟩;rw [Oper.semAt_eq _ _ _ (nodef_at hsd ho),he,hr];exact put v hv
      · rw [hw,hwf]
        simp only [Bool.false_eq_true,if_false];exact⟨fun g _=>hF g,put undef hv⟩
     ·
      cases rest with
      | nil=>
        have:=List.all_eq_true.1 hp i (List.mem_range.2 hin)
        exact absurd (by simpa using this) hD
      | cons s rest=>
        obtain⟨x,E,C⟩:=s;simp only [planOk,Bool.and_eq_true] at hp;obtain⟨⟨⟨⟨⟨h1,h2⟩,h3⟩,h4⟩,h5⟩,h6⟩:=hp;have hxD:x ∉ D:=by simpa using h1
        have hix:i=x:=by
         have:=List.all_eq_true.1 h3 i (List.mem_range.2 hin)
         simp only [Bool.or_eq_true,ho] at this;rcases this with(t | t) | t
         · exact absurd (by simpa using t) hD
         · simpa using t
         · exfalso
           obtain⟨e,hem,heb⟩:=any_mem t;simp only [Bool.and_eq_true] at heb;obtain⟨hl,hlt2⟩:=lst_of_getD (hdeps e hem heb.1);have:=hsub e.on (by omega) hl
           simp [this] at heb
        subst hix;have hnin:=order_nin _ _ h5
        have step:∀v ds w',wpQ P ops E (fun f2=>Chk P ops C f2 w'∧wpRestIn F n P ops Q rest f2 w') (({ f with defers:=ds }:Act).put o.dst v) w'→
         wpAnyIn F n P .any ops Q fuel (L.setIfInBounds i true) (({ a with defers:=ds }:Act).put o.dst v) w':=by
         intro v ds w' hq;obtain⟨f2,⟨hC,hcont⟩,hf2s,hf2d,hf2t,hf2y⟩:=wpQ_out hs E _ _ _ h5 (by rw [put_size];exact hfs) hq;refine ih _ _ w' (D++i :: E) _ rest f2 h6 hL' hu' hf2s ⟨by rw [put_size,hf2s];exact hA.1.trans hfs,by rw [put_defs,hf2d,put_defs],fun t ht=> ?_⟩ (fun j hj hl=> ?_) (fun j hj=> ?_) (fun j hj hl=> ?_) hcont
         · rw [hf2t t (fun j hj e=>by
            have hl:=ht j e
            obtain⟨hj1,hj2⟩:=hnin j hj
            rcases lst_set.1 hl with rfl | h
            · exact hj1 (by simp)
            · exact hj1 (List.mem_append_left _ (hsub j hj2 h)))]
           by_cases hdt:o.dst=some t
           · rw [hdt,put_self (by show t<a.tmps.size;rw [hA.1,hfs];exact hlt t hdt),put_self (by show t<f.tmps.size;rw [hfs];exact hlt t hdt)]
           · rw [put_at hdt,put_at hdt]
             refine hA.2.2 t fun j hj=> ?_
             rcases lst_set.1 (ht j hj) with rfl | h
             · rw [dstOf_at ho] at hj;exact absurd hj hdt
             · exact h
         · rcases lst_set.1 hl with rfl | h
           · simp
           · exact List.mem_append_left _ (hsub j hj h)
         · rcases List.mem_append.1 hj with h | h
           · exact lst_set.2 (.inr (hFd j h))
           · rcases List.mem_cons.1 h with rfl | h
             · exact lst_set.2 (.inl rfl)
             · rw [List.mem_filter] at h
               have hb:=h.2;simp only [ho,Option.any_some] at hb;exact lst_set.2 (.inr (dep_listed hdeps hb).1)
         · rcases List.mem_append.1 hj with h | h
           · have:=List.all_eq_true.1 h4 j h
             simp only [Bool.or_eq_true,ho,Option.any_some] at this;rcases this with(t | t) | t
             · exact hC j (by simpa using t)
             · exact absurd (lst_set.2 (.inr (hFd j (by simpa using t)))) hl
             · exact absurd (lst_set.2 (.inr (dep_listed hdeps t).1)) hl
           · rcases List.mem_cons.1 h with rfl | h
             · exact absurd (lst_set.2 (.inl rfl)) hl
             · exact hf2y j h
        simp only [wpRestIn,ho,wpListIn] at hc;unfold wpOpIn;simp only [ho];rw [hw];split
        · rename_i hwt
          rw [if_pos hwt] at hc;exact oper_wpIn_rel hF (nodef_at hsd ho) he hA.2.1 (fun v ds w' h=>step v ds w' h) hc
        · rename_i hwf
          rw [if_neg hwf] at hc;have:=step undef f.defers w hc.2
          rw [← hA.2.1] at this;exact⟨fun g _=>hF g,this⟩
theorem wpIn_region_stagedY {Q:Exit→Act→World→Prop}(hF:∀f,F.fn f){id:Nat}{a:Act}{w:World}(hm:P.follows .mixedOrders=true)(E0:List Nat)(rest:List (Nat × List Nat × List Nat))
 (hsz:a.tmps.size=sz) (hs:slotsOk ops sz=true) (hsd:slotsOkD ops=true) (ho:orderOk ops [] E0=true) (hp:planOk ops E0 [] rest=true)
 (h:wpQ P ops E0 (fun f=>wpRestIn F n P ops Q rest f w.drew) a w.drew):(Code.region id ops true).wpIn F n P Q a w:=by
 refine wpIn_region_any hm ?_;obtain⟨f,hc,hfs,hfd,hft,hfy⟩:=wpQ_out hs E0 _ _ _ ho hsz h;have hno:∀i,i<ops.size→¬Lst (Array.replicate ops.size false) i:=fun i hi h=>by simp [Lst,hi,Array.getD_eq_getD_getElem?] at h
 refine staged_anyIn hF hsd hs _ _ _ _ E0 [] rest f hp (by simp) ?_ hfs ⟨hsz.trans hfs.symm,hfd.symm,fun t ht=>(hft t fun j hj e=> ?_).symm⟩ (fun i hi hl=>absurd hl (hno i hi)) (fun i hi=>by cases hi) (fun i hi _=>hfy i hi) hc
 · unfold unl
   rw [List.filter_eq_self.2]
   · simp
   · intro i hi
     have:=hno i (List.mem_range.1 hi)
     simpa [Lst] using this
 · have hj2:=(order_nin _ _ ho j hj).2
   exact hno j hj2 (ht j e)
theorem wpRestIn_nil {Q:Exit→Act→World→Prop}{f:Act}{w:World}(h:Q .normal f w):wpRestIn F n P ops Q [] f w:=h
theorem wpRestIn_act {Q:Exit→Act→World→Prop}{x:Nat}{E C:List Nat}{rest:List (Nat × List Nat × List Nat)}{f:Act}{w:World}{o:Oper}(ho:ops[x]? =some o)
 (h:wpListIn F n P ops (onN fun f1 w1=>wpQ P ops E (fun f2=>Chk P ops C f2 w1∧wpRestIn F n P ops Q rest f2 w1) f1 w1) [o] f w):wpRestIn F n P ops Q ((x,E,C) :: rest) f w:=by
 simp only [wpRestIn,ho];exact h
end
end Go.Sl
