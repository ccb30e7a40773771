/- A region that draws its order, where the first act is one of several (an allocation that may come early, say): each walked once. Plain lemmas over any program. -/
import Derived.Test.YtiegeadmgpanoaaGreatDoorL01
import Derived.OrdersIn
import Derived.TacticsIn
set_option maxRecDepth 100000
set_option maxHeartbeats 16000000
namespace Go.Sl
def AQ(ops:Array Oper)(D Fd:List Nat)(alts:List (Nat × List Nat × List Nat × List (Nat × List Nat × List Nat))):Bool:=
 !alts.isEmpty && ((List.range ops.size).all fun i=>D.contains i || alts.any (fun s=>s.1 == i) || (match ops[i]? with
   | none=>true
   | some o=>o.after.any fun e=>Region.binds .any e && !D.contains e.on)) &&
 alts.all fun s=> !D.contains s.1 && decide (s.1<ops.size) &&
  (D.all fun i=>s.2.2.1.contains i || Fd.contains i || (ops[s.1]?).any fun o=>lR o i) &&
  kE ops (D++ [s.1]) s.2.1 &&
  mL ops (D++s.1 :: s.2.1) (Fd++s.1 :: D.filter fun i=>(ops[s.1]?).any fun o=>lR o i) s.2.2.2
section
variable {P:Program}{ops:Array Oper}{sz:Nat}
theorem EO {Q:Exit→Act→World→Prop}(hs:kD ops sz=true):∀(fuel:Nat) (L:Array Bool) (a:Act) (w:World) (D Fd:List Nat) (alts:List (Nat × List Nat × List Nat × List (Nat × List Nat × List Nat))) (f:Act),
 AQ ops D Fd alts=true→L.size=ops.size→zi ops L=fuel→f.tmps.size=sz→Ca ops L a f→(∀i,i<ops.size→lG L i→i∈D)→(∀i∈Fd,lG L i)→
 (∀i∈D,¬lG L i→kV P ops i f w)→(∀s∈alts,kF P ops Q ((s.1,s.2.1,s.2.2.1) :: s.2.2.2) f w)→wpAny P .any ops Q fuel L a w:=by
 intro fuel;induction fuel with
 | zero=>
   intro L a w D Fd alts f hp hL hu hfs hA hsub AE hY hc;exfalso
   have hall:∀i,i<ops.size→lG L i:=fun i hi=>by
    have h0:(List.range ops.size).filter (fun i=> !L.getD i true)= []:=aM hu;have:=cu.1 h0 i (aP.2 hi)
    simpa [lG] using this
   simp only [AQ,aJ] at hp;obtain⟨⟨h1,_⟩,h3⟩:=hp;cases alts with
   | nil=>simp at h1
   | cons s alts=>
     have h4:=bC.1 h3 s (by simp);simp only [aJ] at h4;obtain⟨⟨⟨⟨h5,h6⟩,_⟩,_⟩,_⟩:=h4;have:=hsub s.1 (by simpa using h6) (hall s.1 (by simpa using h6))
     simp [this] at h5
 | succ fuel ih=>
   intro L a w D Fd alts f hp hL hu hfs hA hsub AE hY hc;refine⟨fun hnil=> ?_,fun i hi=> ?_⟩
   · exfalso
     have hne:(List.range ops.size).filter (fun i=> !L.getD i true)≠ []:=fun e=>by unfold zi at hu;rw [e] at hu;simp at hu
     obtain⟨j,hj⟩:=cg _ hne;rw [bm,aP] at hj;obtain⟨k,hk⟩:=kW hs hL j j (aD _) hj.1 (by unfold lG;simpa using hj.2);rw [hnil] at hk;cases hk
   · obtain⟨hin,yJ,o,ho,lJ⟩:=iH.1 hi
     obtain⟨hn,hlt,_,wG⟩:=mo hs ho;have wW:∀t∈o.looksAt ops,a.tmps[t]? =f.tmps[t]? :=fun t ht=>hA.2.2 t fun j hj=>(jo lJ ((wG j t hj).1 ht)).1
     obtain⟨he,hw⟩:=nR hn wW;have Ko:(L.setIfInBounds i true).size=ops.size:=by simpa using hL
     have hu':zi ops (L.setIfInBounds i true)=fuel:=by have:=wH (L:=L) hin yJ;omega
     have Qe:∀j t,lH ops j=some t→j<ops.size:=fun j t hj=>by
      unfold lH at hj;cases hx:ops[j]? with
      | none=>simp [hx] at hj
      | some _=>exact(aA.1 hx).1
     by_cases hD:i∈D
     ·
      have put:∀v,(∀d,o.dst=some d→f.tmps[d]? =some v)→wpAny P .any ops Q fuel (L.setIfInBounds i true) (a.put o.dst v) w:=by
       intro v hv;refine ih _ _ w D Fd alts f hp Ko hu' hfs ⟨by rw [jP];exact hA.1,by rw [jQ];exact hA.2.1,fun t ht=> ?_⟩ (fun j hj hl=> ?_) (fun j hj=>ft.2 (.inr (AE j hj))) (fun j hj hl=>hY j hj fun h=>hl (ft.2 (.inr h))) hc
       · by_cases mV:o.dst=some t
         · rw [mV,kp (by rw [hA.1,hfs];exact hlt t mV),hv t mV]
         · rw [lD mV]
           refine hA.2.2 t fun j hj=> ?_
           rcases ft.1 (ht j hj) with rfl | h
           · rw [lI ho] at hj;exact absurd hj mV
           · exact h
       · rcases ft.1 hl with rfl | h
         · exact hD
         · exact hsub j hj h
      have hy:=hY i hD yJ;simp only [kV,ho] at hy;unfold wpOp;simp only [ho];rcases hy with⟨Eu,v,hr,hv⟩ | ⟨hwf,hv⟩
      · rw [hw,Eu]
        simp only [if_true];refine .inl ?_;unfold Oper.wp;rw [he,hr];exact put v hv
      · rw [hw,hwf]
        simp only [bA,if_false];exact put undef hv
     ·
      simp only [AQ,aJ] at hp;obtain⟨⟨_,g3⟩,g4⟩:=hp
      have Pt:alts.any (fun s=>s.1 == i)=true:=by
       have:=bC.1 g3 i (aP.2 hin)
       simp only [bU,ho] at this;rcases this with(t | t) | t
       · exact absurd (by simpa using t) hD
       · exact t
       · exfalso
         obtain⟨e,hem,AG⟩:=rq t;simp only [aJ] at AG;obtain⟨hl,oZ⟩:=mZ (lJ e hem AG.1);have:=hsub e.on (by omega) hl
         simp [this] at AG
      obtain⟨⟨x,E,C,rest⟩,Qh,hx⟩:=dI.1 Pt;have Nt:x=i:=by simpa using hx
      subst Nt;have g5:=bC.1 g4 _ Qh;simp only [aJ] at g5;obtain⟨⟨⟨⟨h1,h2⟩,h4⟩,h5⟩,h6⟩:=g5;have hc:=hc _ Qh;have yL:=kq _ _ h5
      have step:∀v ds w',pO P ops E (fun f2=>B9 P ops C f2 w'∧kF P ops Q rest f2 w') (({ f with defers:=ds }:Act).put o.dst v) w'→
       wpAny P .any ops Q fuel (L.setIfInBounds x true) (({ a with defers:=ds }:Act).put o.dst v) w':=by
       intro v ds w' hq;obtain⟨f2,⟨hC,wX⟩,wY,Ev,Ew,Ex⟩:=mU hs E _ _ _ h5 (by rw [jP];exact hfs) hq;refine pP hs fuel _ _ w' (D++x :: E) _ rest f2 h6 Ko hu' wY ⟨by rw [jP,wY];exact hA.1.trans hfs,by rw [jQ,Ev,jQ],fun t ht=> ?_⟩ (fun j hj hl=> ?_) (fun j hj=> ?_) (fun j hj hl=> ?_) wX
       · rw [Ew t (fun j hj e=>by
          have hl:=ht j e
          obtain⟨rY,hj2⟩:=yL j hj
          rcases ft.1 hl with rfl | h
          · exact rY (by simp)
          · exact rY (bf _ (hsub j hj2 h)))]
         by_cases mV:o.dst=some t
         · rw [mV,kp (by show t<a.tmps.size;rw [hA.1,hfs];exact hlt t mV),kp (by show t<f.tmps.size;rw [hfs];exact hlt t mV)]
         · rw [lD mV,lD mV]
           refine hA.2.2 t fun j hj=> ?_
           rcases ft.1 (ht j hj) with rfl | h
           · rw [lI ho] at hj;exact absurd hj mV
           · exact h
       · rcases ft.1 hl with rfl | h
         · simp
         · exact bf _ (hsub j hj h)
       · rcases aK.1 hj with h | h
         · exact ft.2 (.inr (AE j h))
         · rcases aR.1 h with rfl | h
           · exact ft.2 (.inl rfl)
           · rw [bm] at h
             have hb:=h.2;simp only [ho,Option.any_some] at hb;exact ft.2 (.inr (jo lJ hb).1)
       · rcases aK.1 hj with h | h
         · have:=bC.1 h4 j h
           simp only [bU,ho,Option.any_some] at this;rcases this with(t | t) | t
           · exact hC j (by simpa using t)
           · exact absurd (ft.2 (.inr (AE j (by simpa using t)))) hl
           · exact absurd (ft.2 (.inr (jo lJ t).1)) hl
         · rcases aR.1 h with rfl | h
           · exact absurd (ft.2 (.inl rfl)) hl
           · exact Ex j h
      simp only [kF,ho,wpList] at hc;unfold wpOp;simp only [ho];rw [hw];split
      · rename_i Eu
        rw [if_pos Eu] at hc;rcases hc with hc | ⟨_,_,_,hf⟩
        · exact .inl (qA he hA.2.1 (fun v ds w' h=>step v ds w' h) hc)
        · exact(hf:False).elim
      · rename_i hwf
        rw [if_neg hwf] at hc;have:=step undef f.defers w hc
        rw [← hA.2.1] at this;exact this
theorem fS {Q:Exit→Act→World→Prop}{id:Nat}{a:Act}{w:World}(hm:P.follows .mixedOrders=true)(E0:List Nat)(alts:List (Nat × List Nat × List Nat × List (Nat × List Nat × List Nat)))
 (hsz:a.tmps.size=sz) (hs:kD ops sz=true) (ho:kE ops [] E0=true) (hp:AQ ops E0 [] alts=true)
 (h:pO P ops E0 (fun f=> ∀s∈alts,kF P ops Q ((s.1,s.2.1,s.2.2.1) :: s.2.2.2) f w.drew) a w.drew):(Code.region id ops true).wp P Q a w:=by
 refine wp_region_any hm ?_;obtain⟨f,hc,hfs,AB,hft,Et⟩:=mU hs E0 _ _ _ ho hsz h;have hno:∀i,i<ops.size→¬lG (Array.replicate ops.size false) i:=fun i hi h=>by simp [lG,hi] at h
 refine EO hs _ _ _ _ E0 [] alts f hp (by simp) ?_ hfs ⟨hsz.trans hfs.symm,AB.symm,fun t ht=>(hft t fun j hj e=> ?_).symm⟩ (fun i hi hl=>absurd hl (hno i hi)) (fun i hi=>by cases hi) (fun i hi _=>Et i hi) hc
 · unfold zi
   rw [cJ.2]
   · simp
   · intro i hi
     have:=hno i (aP.1 hi)
     simpa [lG] using this
 · have hj2:=(kq _ _ ho j hj).2
   exact hno j hj2 (ht j e)
end
end Go.Sl
namespace Go.Sl
def AU:Op→Bool
 | .defer _=>false
 | _=>true
def NH(Q:Exit→Act→World→Prop):Exit→Act→World→Prop
 | .normal,a,w=>Q .normal a w
 | .panic c,a,w=>Q (.panic c) a w
 | _,_,_=>False
theorem Cl(Q:Exit→Act→World→Prop):¬LetsOut (NH Q):=fun h=>by
 first | exact h | exact h default default | exact h { tmps:= #[],defers:= [] } default | (obtain⟨_,_,h⟩:=h;exact h)
def qD(ops:Array Oper):Bool:=ops.all fun o=>AU o.op
section
variable {P:Program}{ops:Array Oper}{Q:Exit→Act→World→Prop}{l n:Nat}
theorem xh:∀(rest:List (Nat × List Nat × List Nat)),kF P ops Q rest=kF P ops (NH Q) rest
 | []=>rfl
 | (x,E,C) :: rest=>by
   funext f w
   simp only [kF,xh rest]
theorem NI {o:Oper}(hd:AU o.op=true){a:Act}{w:World}{next next':Act→World→Prop}(hn:∀a w,next a w→next' a w)(h:o.wp P a w next (NH Q)):o.wpIn (Fence.wide.inRound l) n P a w next' Q:=by
 refine⟨fun _ _=>trivial,?_⟩;have e:o.semAt (Fence.wide.inRound l).round a.eval=execOp a.eval o:=Oper.semAt_eq _ _ _ (fun c e=>by rw [e] at hd;cases hd);rw [e];unfold Oper.wp at h;generalize (execOp a.eval o).run P w=r at*;cases r with
 | ok x w'=>
   cases x with
   | value v=>exact hn _ _ h
   | skip=>exact hn _ _ h
   | defer d=>exact hn _ _ h
   | enter f args=>
     refine⟨fun h=>by simp [Fence.wide,Fence.inRound] at h,?_⟩;refine((callsIn_wide (n:=n-1)).2 h:CallsIn (Fence.wide.inRound l) (n-1) P f args w' _).mono ?_;intro e w'' he;cases e with
     | returned v=>exact hn _ _ he
     | panicked c=>exact he
     | outgrown=>exact absurd he (Cl Q)
   | row row args=>
     refine⟨fun h=>by simp [Fence.wide,Fence.inRound] at h,?_⟩;have h':Rows P row args w' fun v w''=>next (a.put o.dst v) w'':=h
     exact RowsIn.mono (F:=Fence.wide.inRound l) (fun c cs _=>let ⟨v,w',r,s⟩:=h' c cs;⟨v,w',r,stepsIn_wide.2 s⟩) (fun _ _ he=>hn _ _ he)
   | _=>exact(h:False).elim
 | halt x w'=>
   cases x<;>first | exact h | exact(h:False).elim
theorem Qi(hs:qD ops=true):∀(fuel:Nat) (L:Array Bool) (a:Act) (w:World),wpAny P .any ops (NH Q) fuel L a w→wpAnyIn (Fence.wide.inRound l) n P .any ops Q fuel L a w:=by
 intro fuel;induction fuel with
 | zero=>intro L a w h;exact h
 | succ fuel ih=>
   intro L a w h;refine⟨fun e=>h.1 e,fun i hi=> ?_⟩;have h2:=h.2 i hi;unfold wpOp at h2;unfold wpOpIn;cases ho:ops[i]? with
   | none=>simp only [ho] at h2 ⊢;exact ih _ _ _ h2
   | some o=>
     simp only [ho] at h2 ⊢
     have hd:AU o.op=true:=by
      have xd:=(aA.1 ho);obtain⟨hi3,e⟩:=xd;have:=bR.1 hs o (by rw [← e];exact Array.getElem_mem hi3)
      exact this
     split
     · rename_i hw
       rw [if_pos hw] at h2;rcases h2 with h2 | ⟨_,h2⟩
       · exact NI hd (fun a w h=>ih _ a w h) h2
       · exact absurd h2 (Cl Q)
     · rename_i hw
       rw [if_neg hw] at h2;exact⟨fun _ _=>trivial,ih _ _ _ h2⟩
theorem sC {sz:Nat}{id:Nat}{a:Act}{w:World}(hm:P.follows .mixedOrders=true)(E0:List Nat)(rest:List (Nat × List Nat × List Nat))
 (hsz:a.tmps.size=sz) (hs:kD ops sz=true) (NJ:qD ops=true) (ho:kE ops [] E0=true) (hp:mL ops E0 [] rest=true)
 (h:pO P ops E0 (fun f=>kF P ops Q rest f w.drew) a w.drew):(Code.region id ops true).wpIn (Fence.wide.inRound l) n P Q a w:=by
 refine wpIn_region_any hm (Qi NJ _ _ _ _ ?_);rw [xh rest] at h;obtain⟨f,hc,hfs,AB,hft,Et⟩:=mU hs E0 _ _ _ ho hsz h;have hno:∀i,i<ops.size→¬lG (Array.replicate ops.size false) i:=fun i hi h=>by simp [lG,hi] at h
 refine pP hs _ _ _ _ E0 [] rest f hp (by simp) ?_ hfs ⟨hsz.trans hfs.symm,AB.symm,fun t ht=>(hft t fun j hj e=> ?_).symm⟩ (fun i hi hl=>absurd hl (hno i hi)) (fun i hi=>by cases hi) (fun i hi _=>Et i hi) hc
 · unfold zi
   rw [cJ.2]
   · simp
   · intro i hi
     have:=hno i (aP.1 hi)
     simpa [lG] using this
 · have hj2:=(kq _ _ ho j hj).2
   exact hno j hj2 (ht j e)
end
end Go.Sl
namespace Go.Sl
def my(F:Fence)(n:Nat)(P:Program)(ops:Array Oper)(Q:Exit→Act→World→Prop):List (Nat × List Nat × List Nat)→Act→World→Prop
 | [],f,w=>Q .normal f w
 | (x,E,C) :: rest,f,w=>match ops[x]? with
   | none=>False
   | some o=>wpListIn F n P ops (Kn fun f1 w1=>pO P ops E (fun f2=>B9 P ops C f2 w1∧my F n P ops Q rest f2 w1) f1 w1) [o] f w
section
variable {F:Fence}{n:Nat}{P:Program}{ops:Array Oper}{sz:Nat}
theorem Cm(hs:qD ops=true){i:Nat}{o:Oper}(ho:ops[i]? =some o):∀c,o.op≠ .defer c:=by
 intro c e;obtain⟨hi3,e2⟩:=aA.1 ho;have:=bR.1 hs o (by rw [← e2];exact Array.getElem_mem hi3)
 rw [e] at this;cases this
theorem yM(hF:∀f,F.fn f){o:Oper}(zq:∀c,o.op≠ .defer c){a f:Act}{w:World}{K Kr:Act→World→Prop}{Q:Exit→Act→World→Prop}{K2:Act→World→Prop}(he:execOp a.eval o=execOp f.eval o)(hd:a.defers=f.defers)
 (hK:∀v ds w',K (({ f with defers:=ds }:Act).put o.dst v) w'→Kr (({ a with defers:=ds }:Act).put o.dst v) w') (h:o.wpIn F n P f w K (Kn K2)):o.wpIn F n P a w Kr Q:=by
 refine⟨fun g _=>hF g,?_⟩;have h:=h.2;rw [Oper.semAt_eq _ _ _ zq] at h ⊢;rw [he];generalize (execOp f.eval o).run P w=r at*
 have lS:∀v w',K (f.put o.dst v) w'→Kr (a.put o.dst v) w':=fun v w' h=>by
  have:=hK v f.defers w' h
  rw [← hd] at this;exact this
 have hend:∀(e:Ending) (w'':World),(match (motive:=Ending→World→Prop) e,w'' with | .returned v,w''=>K (f.put o.dst v) w'' | .panicked c,w''=>Kn K2 (.panic c) f w'' | .outgrown,_=>LetsOut (Kn K2))→
  (match (motive:=Ending→World→Prop) e,w'' with | .returned v,w''=>Kr (a.put o.dst v) w'' | .panicked c,w''=>Q (.panic c) a w'' | .outgrown,_=>LetsOut Q):=by
  intro e w'' he;cases e with
  | returned v=>exact lS _ _ he
  | panicked c=>exact(he:False).elim
  | outgrown=>obtain⟨_,_,hf⟩:=he;exact(hf:False).elim
 cases r with
 | ok x w'=>
   cases x<;>simp only [Oper.uponIn] at h ⊢ <;>
    first
     | exact lS _ _ h
     | (rw [hd];exact hK _ _ _ h)
     | exact⟨h.1,CallsIn.mono h.2 hend⟩
     | exact⟨h.1,RoundIn.mono h.2 hend⟩
     | exact⟨h.1,RowsIn.mono h.2 (fun _ _ he=>lS _ _ he)⟩
 | halt x w'=>cases x<;>simp only [Oper.uponIn] at h ⊢ <;>first | exact h | exact(h:False).elim
theorem AV {Q:Exit→Act→World→Prop}(hF:∀f,F.fn f)(NJ:qD ops=true)(hs:kD ops sz=true):∀(fuel:Nat) (L:Array Bool) (a:Act) (w:World) (D Fd:List Nat) (rest:List (Nat × List Nat × List Nat)) (f:Act),
 mL ops D Fd rest=true→L.size=ops.size→zi ops L=fuel→f.tmps.size=sz→Ca ops L a f→(∀i,i<ops.size→lG L i→i∈D)→(∀i∈Fd,lG L i)→
 (∀i∈D,¬lG L i→kV P ops i f w)→my F n P ops Q rest f w→wpAnyIn F n P .any ops Q fuel L a w:=by
 intro fuel;induction fuel with
 | zero=>
   intro L a w D Fd rest f hp hL hu hfs hA hsub AE hY hc
   have hall:∀i,i<ops.size→lG L i:=fun i hi=>by
    have h0:(List.range ops.size).filter (fun i=> !L.getD i true)= []:=aM hu;have:=cu.1 h0 i (aP.2 hi)
    simpa [lG] using this
   have hnil:Region.ready .any ops L= []:=by
    cases hr:Region.ready .any ops L with
    | nil=>rfl
    | cons j js=>
      have hj:j∈Region.ready .any ops L:=by rw [hr];exact bq
      obtain⟨h1,h2,_⟩:=iH.1 hj;exact absurd (hall j h1) h2
   refine⟨hnil,?_⟩;cases rest with
   | nil=>rw [uJ hA hall];exact hc
   | cons s rest=>
     obtain⟨x,E,C⟩:=s;simp only [mL,aJ] at hp;obtain⟨⟨⟨⟨⟨h1,h2⟩,_⟩,_⟩,_⟩,_⟩:=hp;have hx:x<ops.size:=by simpa using h2
     have:=hsub x hx (hall x hx)
     simp [this] at h1
 | succ fuel ih=>
   intro L a w D Fd rest f hp hL hu hfs hA hsub AE hY hc;refine⟨fun hnil=> ?_,fun i hi=> ?_⟩
   · exfalso
     have hne:(List.range ops.size).filter (fun i=> !L.getD i true)≠ []:=fun e=>by unfold zi at hu;rw [e] at hu;simp at hu
     obtain⟨j,hj⟩:=cg _ hne;rw [bm,aP] at hj;obtain⟨k,hk⟩:=kW hs hL j j (aD _) hj.1 (by unfold lG;simpa using hj.2);rw [hnil] at hk;cases hk
   · obtain⟨hin,yJ,o,ho,lJ⟩:=iH.1 hi
     obtain⟨hn,hlt,_,wG⟩:=mo hs ho;have wW:∀t∈o.looksAt ops,a.tmps[t]? =f.tmps[t]? :=fun t ht=>hA.2.2 t fun j hj=>(jo lJ ((wG j t hj).1 ht)).1
     obtain⟨he,hw⟩:=nR hn wW;have Ko:(L.setIfInBounds i true).size=ops.size:=by simpa using hL
     have hu':zi ops (L.setIfInBounds i true)=fuel:=by have:=wH (L:=L) hin yJ;omega
     have Qe:∀j t,lH ops j=some t→j<ops.size:=fun j t hj=>by
      unfold lH at hj;cases hx:ops[j]? with
      | none=>simp [hx] at hj
      | some _=>exact(aA.1 hx).1
     by_cases hD:i∈D
     ·
      have put:∀v,(∀d,o.dst=some d→f.tmps[d]? =some v)→wpAnyIn F n P .any ops Q fuel (L.setIfInBounds i true) (a.put o.dst v) w:=by
       intro v hv;refine ih _ _ w D Fd rest f hp Ko hu' hfs ⟨by rw [jP];exact hA.1,by rw [jQ];exact hA.2.1,fun t ht=> ?_⟩ (fun j hj hl=> ?_) (fun j hj=>ft.2 (.inr (AE j hj))) (fun j hj hl=>hY j hj fun h=>hl (ft.2 (.inr h))) hc
       · by_cases mV:o.dst=some t
         · rw [mV,kp (by rw [hA.1,hfs];exact hlt t mV),hv t mV]
         · rw [lD mV]
           refine hA.2.2 t fun j hj=> ?_
           rcases ft.1 (ht j hj) with rfl | h
           · rw [lI ho] at hj;exact absurd hj mV
           · exact h
       · rcases ft.1 hl with rfl | h
         · exact hD
         · exact hsub j hj h
      have hy:=hY i hD yJ;simp only [kV,ho] at hy;unfold wpOpIn;simp only [ho];rcases hy with⟨Eu,v,hr,hv⟩ | ⟨hwf,hv⟩
      · rw [hw,Eu]
        simp only [if_true];refine⟨fun g _=>hF g,?_⟩;rw [Oper.semAt_eq _ _ _ (Cm NJ ho),he,hr];exact put v hv
      · rw [hw,hwf]
        simp only [bA,if_false];exact⟨fun g _=>hF g,put undef hv⟩
     ·
      cases rest with
      | nil=>
        have:=bC.1 hp i (aP.2 hin)
        exact absurd (by simpa using this) hD
      | cons s rest=>
        obtain⟨x,E,C⟩:=s;simp only [mL,aJ] at hp;obtain⟨⟨⟨⟨⟨h1,h2⟩,h3⟩,h4⟩,h5⟩,h6⟩:=hp;have hxD:x ∉ D:=by simpa using h1
        have Pt:i=x:=by
         have:=bC.1 h3 i (aP.2 hin)
         simp only [bU,ho] at this;rcases this with(t | t) | t
         · exact absurd (by simpa using t) hD
         · simpa using t
         · exfalso
           obtain⟨e,hem,AG⟩:=rq t;simp only [aJ] at AG;obtain⟨hl,oZ⟩:=mZ (lJ e hem AG.1);have:=hsub e.on (by omega) hl
           simp [this] at AG
        subst Pt;have yL:=kq _ _ h5
        have step:∀v ds w',pO P ops E (fun f2=>B9 P ops C f2 w'∧my F n P ops Q rest f2 w') (({ f with defers:=ds }:Act).put o.dst v) w'→
         wpAnyIn F n P .any ops Q fuel (L.setIfInBounds i true) (({ a with defers:=ds }:Act).put o.dst v) w':=by
         intro v ds w' hq;obtain⟨f2,⟨hC,wX⟩,wY,Ev,Ew,Ex⟩:=mU hs E _ _ _ h5 (by rw [jP];exact hfs) hq;refine ih _ _ w' (D++i :: E) _ rest f2 h6 Ko hu' wY ⟨by rw [jP,wY];exact hA.1.trans hfs,by rw [jQ,Ev,jQ],fun t ht=> ?_⟩ (fun j hj hl=> ?_) (fun j hj=> ?_) (fun j hj hl=> ?_) wX
         · rw [Ew t (fun j hj e=>by
            have hl:=ht j e
            obtain⟨rY,hj2⟩:=yL j hj
            rcases ft.1 hl with rfl | h
            · exact rY (by simp)
            · exact rY (bf _ (hsub j hj2 h)))]
           by_cases mV:o.dst=some t
           · rw [mV,kp (by show t<a.tmps.size;rw [hA.1,hfs];exact hlt t mV),kp (by show t<f.tmps.size;rw [hfs];exact hlt t mV)]
           · rw [lD mV,lD mV]
             refine hA.2.2 t fun j hj=> ?_
             rcases ft.1 (ht j hj) with rfl | h
             · rw [lI ho] at hj;exact absurd hj mV
             · exact h
         · rcases ft.1 hl with rfl | h
           · simp
           · exact bf _ (hsub j hj h)
         · rcases aK.1 hj with h | h
           · exact ft.2 (.inr (AE j h))
           · rcases aR.1 h with rfl | h
             · exact ft.2 (.inl rfl)
             · rw [bm] at h
               have hb:=h.2;simp only [ho,Option.any_some] at hb;exact ft.2 (.inr (jo lJ hb).1)
         · rcases aK.1 hj with h | h
           · have:=bC.1 h4 j h
             simp only [bU,ho,Option.any_some] at this;rcases this with(t | t) | t
             · exact hC j (by simpa using t)
             · exact absurd (ft.2 (.inr (AE j (by simpa using t)))) hl
             · exact absurd (ft.2 (.inr (jo lJ t).1)) hl
           · rcases aR.1 h with rfl | h
             · exact absurd (ft.2 (.inl rfl)) hl
             · exact Ex j h
        simp only [my,ho,wpListIn] at hc;unfold wpOpIn;simp only [ho];rw [hw];split
        · rename_i Eu
          rw [if_pos Eu] at hc;exact yM hF (Cm NJ ho) he hA.2.1 (fun v ds w' h=>step v ds w' h) hc
        · rename_i hwf
          rw [if_neg hwf] at hc;have:=step undef f.defers w hc.2
          rw [← hA.2.1] at this;exact⟨fun g _=>hF g,this⟩
theorem rZ {Q:Exit→Act→World→Prop}(hF:∀f,F.fn f){id:Nat}{a:Act}{w:World}(hm:P.follows .mixedOrders=true)(E0:List Nat)(rest:List (Nat × List Nat × List Nat))
 (hsz:a.tmps.size=sz) (hs:kD ops sz=true) (NJ:qD ops=true) (ho:kE ops [] E0=true) (hp:mL ops E0 [] rest=true)
 (h:pO P ops E0 (fun f=>my F n P ops Q rest f w.drew) a w.drew):(Code.region id ops true).wpIn F n P Q a w:=by
 refine wpIn_region_any hm ?_;obtain⟨f,hc,hfs,AB,hft,Et⟩:=mU hs E0 _ _ _ ho hsz h;have hno:∀i,i<ops.size→¬lG (Array.replicate ops.size false) i:=fun i hi h=>by simp [lG,hi] at h
 refine AV hF NJ hs _ _ _ _ E0 [] rest f hp (by simp) ?_ hfs ⟨hsz.trans hfs.symm,AB.symm,fun t ht=>(hft t fun j hj e=> ?_).symm⟩ (fun i hi hl=>absurd hl (hno i hi)) (fun i hi=>by cases hi) (fun i hi _=>Et i hi) hc
 · unfold zi
   rw [cJ.2]
   · simp
   · intro i hi
     have:=hno i (aP.1 hi)
     simpa [lG] using this
 · have hj2:=(kq _ _ ho j hj).2
   exact hno j hj2 (ht j e)
theorem tn {Q:Exit→Act→World→Prop}{f:Act}{w:World}(h:Q .normal f w):my F n P ops Q [] f w:=h
theorem pV {Q:Exit→Act→World→Prop}{x:Nat}{E C:List Nat}{rest:List (Nat × List Nat × List Nat)}{f:Act}{w:World}{o:Oper}(ho:ops[x]? =some o)
 (h:wpListIn F n P ops (Kn fun f1 w1=>pO P ops E (fun f2=>B9 P ops C f2 w1∧my F n P ops Q rest f2 w1) f1 w1) [o] f w):my F n P ops Q ((x,E,C) :: rest) f w:=by
 simp only [my,ho];exact h
end
end Go.Sl
namespace Go.Sl
inductive o_ where
  | done
  | act (x : Nat) (E C : List Nat) (t : o_)
  | alt (s t : o_)
def o_.qE:o_→List Nat
 | .done=> []
 | .act x _ _ _=> [x]
 | .alt s t=>s.qE++t.qE
def AW(ops:Array Oper)(D fs:List Nat):Bool:=(List.range ops.size).all fun i=>D.contains i || fs.contains i || (match ops[i]? with
     | none=>true
     | some o=>o.after.any fun e=>Region.binds .any e && !D.contains e.on)
def nC(ops:Array Oper):List Nat→List Nat→o_→Bool
 | D,_,.done=>(List.range ops.size).all fun i=>D.contains i
 | D,Fd,.act x E C t=> !D.contains x && decide (x<ops.size) && (D.all fun i=>C.contains i || Fd.contains i || (ops[x]?).any fun o=>lR o i) && kE ops (D++ [x]) E &&
     AW ops (D++x :: E) t.qE && nC ops (D++x :: E) (Fd++x :: D.filter fun i=>(ops[x]?).any fun o=>lR o i) t
 | D,Fd,.alt s t=>nC ops D Fd s && nC ops D Fd t
def kX(P:Program)(ops:Array Oper)(Q:Exit→Act→World→Prop):o_→Act→World→Prop
 | .done,f,w=>Q .normal f w
 | .act x E C t,f,w=>match ops[x]? with
   | none=>False
   | some o=>wpList P ops (Kn fun f1 w1=>pO P ops E (fun f2=>B9 P ops C f2 w1∧kX P ops Q t f2 w1) f1 w1) [o] f w
 | .alt s t,f,w=>kX P ops Q s f w∧kX P ops Q t f w
theorem uP {P:Program}{ops:Array Oper}{Q:Exit→Act→World→Prop}{D Fd:List Nat}{x:Nat}{f:Act}{w:World}:∀(t:o_),nC ops D Fd t=true→x∈t.qE→kX P ops Q t f w→∃E C t',nC ops D Fd (.act x E C t')=true∧kX P ops Q (.act x E C t') f w
 | .done,_,hx,_=>by cases hx
 | .act y E C t,ht,hx,hw=>by
   obtain rfl:x=y:=by simpa [o_.qE] using hx
   exact⟨E,C,t,ht,hw⟩
 | .alt s t,ht,hx,hw=>by
   simp only [nC,aJ] at ht;rcases aK.1 hx with h | h
   · exact uP s ht.1 h hw.1
   · exact uP t ht.2 h hw.2
theorem Cn {P:Program}{ops:Array Oper}{Q:Exit→Act→World→Prop}{D Fd:List Nat}{f:Act}{w:World}(hall:∀i,i<ops.size→i∈D):∀(t:o_),nC ops D Fd t=true→kX P ops Q t f w→Q .normal f w
 | .done,_,hw=>hw
 | .act y E C t,ht,hw=>by
   simp only [nC,aJ] at ht;obtain⟨⟨⟨⟨⟨h1,h2⟩,_⟩,_⟩,_⟩,_⟩:=ht;have:=hall y (by simpa using h2)
   simp [this] at h1
 | .alt s t,ht,hw=>by
   simp only [nC,aJ] at ht;exact Cn hall s ht.1 hw.1
section
variable {P:Program}{ops:Array Oper}{sz:Nat}
theorem KF {Q:Exit→Act→World→Prop}(hs:kD ops sz=true):∀(fuel:Nat) (L:Array Bool) (a:Act) (w:World) (D Fd:List Nat) (tr:o_) (f:Act),
 AW ops D tr.qE=true→nC ops D Fd tr=true→L.size=ops.size→zi ops L=fuel→f.tmps.size=sz→Ca ops L a f→(∀i,i<ops.size→lG L i→i∈D)→(∀i∈Fd,lG L i)→
 (∀i∈D,¬lG L i→kV P ops i f w)→kX P ops Q tr f w→wpAny P .any ops Q fuel L a w:=by
 intro fuel;induction fuel with
 | zero=>
   intro L a w D Fd tr f Qj hp hL hu hfs hA hsub AE hY hc
   have hall:∀i,i<ops.size→lG L i:=fun i hi=>by
    have h0:(List.range ops.size).filter (fun i=> !L.getD i true)= []:=aM hu;have:=cu.1 h0 i (aP.2 hi)
    simpa [lG] using this
   have hnil:Region.ready .any ops L= []:=by
    cases hr:Region.ready .any ops L with
    | nil=>rfl
    | cons j js=>
      have hj:j∈Region.ready .any ops L:=by rw [hr];exact bq
      obtain⟨h1,h2,_⟩:=iH.1 hj;exact absurd (hall j h1) h2
   refine⟨hnil,?_⟩;rw [uJ hA hall];exact Cn (fun i hi=>hsub i hi (hall i hi)) tr hp hc
 | succ fuel ih=>
   intro L a w D Fd tr f Qj hp hL hu hfs hA hsub AE hY hc;refine⟨fun hnil=> ?_,fun i hi=> ?_⟩
   · exfalso
     have hne:(List.range ops.size).filter (fun i=> !L.getD i true)≠ []:=fun e=>by unfold zi at hu;rw [e] at hu;simp at hu
     obtain⟨j,hj⟩:=cg _ hne;rw [bm,aP] at hj;obtain⟨k,hk⟩:=kW hs hL j j (aD _) hj.1 (by unfold lG;simpa using hj.2);rw [hnil] at hk;cases hk
   · obtain⟨hin,yJ,o,ho,lJ⟩:=iH.1 hi
     obtain⟨hn,hlt,_,wG⟩:=mo hs ho;have wW:∀t∈o.looksAt ops,a.tmps[t]? =f.tmps[t]? :=fun t ht=>hA.2.2 t fun j hj=>(jo lJ ((wG j t hj).1 ht)).1
     obtain⟨he,hw⟩:=nR hn wW;have Ko:(L.setIfInBounds i true).size=ops.size:=by simpa using hL
     have hu':zi ops (L.setIfInBounds i true)=fuel:=by have:=wH (L:=L) hin yJ;omega
     have Qe:∀j t,lH ops j=some t→j<ops.size:=fun j t hj=>by
      unfold lH at hj;cases hx:ops[j]? with
      | none=>simp [hx] at hj
      | some _=>exact(aA.1 hx).1
     by_cases hD:i∈D
     ·
      have put:∀v,(∀d,o.dst=some d→f.tmps[d]? =some v)→wpAny P .any ops Q fuel (L.setIfInBounds i true) (a.put o.dst v) w:=by
       intro v hv;refine ih _ _ w D Fd tr f Qj hp Ko hu' hfs ⟨by rw [jP];exact hA.1,by rw [jQ];exact hA.2.1,fun t ht=> ?_⟩ (fun j hj hl=> ?_) (fun j hj=>ft.2 (.inr (AE j hj))) (fun j hj hl=>hY j hj fun h=>hl (ft.2 (.inr h))) hc
       · by_cases mV:o.dst=some t
         · rw [mV,kp (by rw [hA.1,hfs];exact hlt t mV),hv t mV]
         · rw [lD mV]
           refine hA.2.2 t fun j hj=> ?_
           rcases ft.1 (ht j hj) with rfl | h
           · rw [lI ho] at hj;exact absurd hj mV
           · exact h
       · rcases ft.1 hl with rfl | h
         · exact hD
         · exact hsub j hj h
      have hy:=hY i hD yJ;simp only [kV,ho] at hy;unfold wpOp;simp only [ho];rcases hy with⟨Eu,v,hr,hv⟩ | ⟨hwf,hv⟩
      · rw [hw,Eu]
        simp only [if_true];refine .inl ?_;unfold Oper.wp;rw [he,hr];exact put v hv
      · rw [hw,hwf]
        simp only [bA,if_false];exact put undef hv
     ·
      have Pt:i∈tr.qE:=by
       have:=bC.1 Qj i (aP.2 hin)
       simp only [bU,ho] at this;rcases this with(t | t) | t
       · exact absurd (by simpa using t) hD
       · simpa using t
       · exfalso
         obtain⟨e,hem,AG⟩:=rq t;simp only [aJ] at AG;obtain⟨hl,oZ⟩:=mZ (lJ e hem AG.1);have:=hsub e.on (by omega) hl
         simp [this] at AG
      obtain⟨E,C,rest,g5,hc⟩:=uP tr hp Pt hc;simp only [nC,aJ] at g5;obtain⟨⟨⟨⟨⟨h1,h2⟩,h4⟩,h5⟩,h7⟩,h6⟩:=g5;have yL:=kq _ _ h5
      have step:∀v ds w',pO P ops E (fun f2=>B9 P ops C f2 w'∧kX P ops Q rest f2 w') (({ f with defers:=ds }:Act).put o.dst v) w'→
       wpAny P .any ops Q fuel (L.setIfInBounds i true) (({ a with defers:=ds }:Act).put o.dst v) w':=by
       intro v ds w' hq;obtain⟨f2,⟨hC,wX⟩,wY,Ev,Ew,Ex⟩:=mU hs E _ _ _ h5 (by rw [jP];exact hfs) hq;refine ih _ _ w' (D++i :: E) _ rest f2 h7 h6 Ko hu' wY ⟨by rw [jP,wY];exact hA.1.trans hfs,by rw [jQ,Ev,jQ],fun t ht=> ?_⟩ (fun j hj hl=> ?_) (fun j hj=> ?_) (fun j hj hl=> ?_) wX
       · rw [Ew t (fun j hj e=>by
          have hl:=ht j e
          obtain⟨rY,hj2⟩:=yL j hj
          rcases ft.1 hl with rfl | h
          · exact rY (by simp)
          · exact rY (bf _ (hsub j hj2 h)))]
         by_cases mV:o.dst=some t
         · rw [mV,kp (by show t<a.tmps.size;rw [hA.1,hfs];exact hlt t mV),kp (by show t<f.tmps.size;rw [hfs];exact hlt t mV)]
         · rw [lD mV,lD mV]
           refine hA.2.2 t fun j hj=> ?_
           rcases ft.1 (ht j hj) with rfl | h
           · rw [lI ho] at hj;exact absurd hj mV
           · exact h
       · rcases ft.1 hl with rfl | h
         · simp
         · exact bf _ (hsub j hj h)
       · rcases aK.1 hj with h | h
         · exact ft.2 (.inr (AE j h))
         · rcases aR.1 h with rfl | h
           · exact ft.2 (.inl rfl)
           · rw [bm] at h
             have hb:=h.2;simp only [ho,Option.any_some] at hb;exact ft.2 (.inr (jo lJ hb).1)
       · rcases aK.1 hj with h | h
         · have:=bC.1 h4 j h
           simp only [bU,ho,Option.any_some] at this;rcases this with(t | t) | t
           · exact hC j (by simpa using t)
           · exact absurd (ft.2 (.inr (AE j (by simpa using t)))) hl
           · exact absurd (ft.2 (.inr (jo lJ t).1)) hl
         · rcases aR.1 h with rfl | h
           · exact absurd (ft.2 (.inl rfl)) hl
           · exact Ex j h
      simp only [kX,ho,wpList] at hc;unfold wpOp;simp only [ho];rw [hw];split
      · rename_i Eu
        rw [if_pos Eu] at hc;rcases hc with hc | ⟨_,_,_,hf⟩
        · exact .inl (qA he hA.2.1 (fun v ds w' h=>step v ds w' h) hc)
        · exact(hf:False).elim
      · rename_i hwf
        rw [if_neg hwf] at hc;have:=step undef f.defers w hc
        rw [← hA.2.1] at this;exact this
theorem xi {Q:Exit→Act→World→Prop}{id:Nat}{a:Act}{w:World}(hm:P.follows .mixedOrders=true)(E0:List Nat)(tr:o_)
 (hsz:a.tmps.size=sz) (hs:kD ops sz=true) (ho:kE ops [] E0=true) (hq:AW ops E0 tr.qE=true) (hp:nC ops E0 [] tr=true)
 (h:pO P ops E0 (fun f=>kX P ops Q tr f w.drew) a w.drew):(Code.region id ops true).wp P Q a w:=by
 refine wp_region_any hm ?_;obtain⟨f,hc,hfs,AB,hft,Et⟩:=mU hs E0 _ _ _ ho hsz h;have hno:∀i,i<ops.size→¬lG (Array.replicate ops.size false) i:=fun i hi h=>by simp [lG,hi] at h
 refine KF hs _ _ _ _ E0 [] tr f hq hp (by simp) ?_ hfs ⟨hsz.trans hfs.symm,AB.symm,fun t ht=>(hft t fun j hj e=> ?_).symm⟩ (fun i hi hl=>absurd hl (hno i hi)) (fun i hi=>by cases hi) (fun i hi _=>Et i hi) hc
 · unfold zi
   rw [cJ.2]
   · simp
   · intro i hi
     have:=hno i (aP.1 hi)
     simpa [lG] using this
 · have hj2:=(kq _ _ ho j hj).2
   exact hno j hj2 (ht j e)
theorem jD {Q:Exit→Act→World→Prop}{x:Nat}{E C:List Nat}{t:o_}{f:Act}{w:World}{o:Oper}(ho:ops[x]? =some o)
 (h:wpList P ops (Kn fun f1 w1=>pO P ops E (fun f2=>B9 P ops C f2 w1∧kX P ops Q t f2 w1) f1 w1) [o] f w):kX P ops Q (.act x E C t) f w:=by
 simp only [kX,ho];exact h
theorem xj {Q:Exit→Act→World→Prop}{s t:o_}{f:Act}{w:World}(h1:kX P ops Q s f w)(h2:kX P ops Q t f w):kX P ops Q (.alt s t) f w:=⟨h1,h2⟩
theorem qF {Q:Exit→Act→World→Prop}{f:Act}{w:World}(h:Q .normal f w):kX P ops Q .done f w:=h
end
end Go.Sl
