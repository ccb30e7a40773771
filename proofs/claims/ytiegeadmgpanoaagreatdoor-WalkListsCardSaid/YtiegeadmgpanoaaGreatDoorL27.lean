/- The document's Key, Has, greater, lesser and Meet of ranges; the conditions stand as hypotheses. -/
import Derived.Test.YtiegeadmgpanoaaGreatDoorL26
import Derived.Test.YtiegeadmgpanoaaGreatDoorL24
set_option maxRecDepth 100000
set_option maxHeartbeats 16000000
namespace Go.Proofs.YtiegeadmgpanoaaGreatDoor.E4
open ChangeShapes WideShapes ChangeAt RowKit Sl fB L3 D2 X5
theorem tP(a:Option Addr)(n c:Nat)(hn:n≤140737488355328)(w:World):
 Calls Tryz.prog 98 #[.slice a n c] w fun e w'=>e= .returned (.bool (decide (1≤n∧n≤24)))∧w=w':=by
 have rH:(n:Int)≤140737488355328:=by omega
 by_cases h1:1≤n
 · have e1:(1:Int)≤(n:Int):=by omega
   by_cases h2:n≤24
   · have e2:(n:Int)≤24:=by omega
     rw [decide_eq_true (⟨h1,h2⟩:1≤n∧n≤24)];clear h1 h2;go_enter Tryz.func98,Tryz.ntmps98
     go_wp2;go_ret;exact⟨rfl,rfl⟩
   · have e2:¬(n:Int)≤24:=by omega
     rw [decide_eq_false (fun h:1≤n∧n≤24=>h2 h.2)];clear h1 h2;go_enter Tryz.func98,Tryz.ntmps98
     go_wp2;go_ret;exact⟨rfl,rfl⟩
 · have e1:¬(1:Int)≤(n:Int):=by omega
   rw [decide_eq_false (fun h:1≤n∧n≤24=>h1 h.1)];clear h1;go_enter Tryz.func98,Tryz.ntmps98
   go_wp2;go_ret;exact⟨rfl,rfl⟩
theorem Dz(h:Hp)(rv kv:Value)(r:fw)(k:List Int)(hr:gJ h rv r)(hk:Bytes h kv k)(nk:k.length≤140737488355328)(w:World)(hle:h.le w):
 Calls Tryz.prog 61 #[rv,kv] w fun e w'=>e= .returned (.bool (iV r k))∧eV w w':=by
 obtain⟨lo,hi,rfl,hlo,mK⟩:=hr;obtain⟨al,cl,rfl,_⟩:=eL hlo;obtain⟨ah,ch,rfl,_⟩:=eL mK;obtain⟨ak,ck,rfl,_⟩:=eL hk;have o1:eV w (w.alloc (dO (.slice al r.lo.length cl) (.slice ah r.hi.length ch) r.op)):=(eV.refl w).alloc _;have Oy:=hle.only o1;have hs0:=(dS.Ze (xZ w)).alloc (dO (.slice al r.lo.length cl) (.slice ah r.hi.length ch) r.op)
 have IK:=hQ (tP ak k.length ck nk (w.alloc (dO (.slice al r.lo.length cl) (.slice ah r.hi.length ch) r.op)));have C1:=hQ (l3 h h _ _ k r.lo hk hlo (by omega) _ Oy Oy);have C2:=hQ (fun(wx:World) (hx:h.le wx)=>l3 h h _ _ k r.hi hk mK (by omega) wx hx hx);have HO:=hQ o1;have vC:=hQ Oy;have HS:=hQ hs0
 have HV:iV r k=(decide (1≤k.length∧k.length≤24) && (decide (0≤eX k r.lo) && (r.op || decide (eX k r.hi<0)))):=rfl;rw [HV];have c1:=hs0.fx;clear hlo mK hk hle o1 Oy hs0 HV nk;generalize k.length=nk at*;generalize r.lo.length=nl at*;generalize r.hi.length=nh at*;generalize eX k r.lo=q1 at*;generalize eX k r.hi=q2 at*
 generalize r.op=op at*;by_cases h1:1≤nk∧nk≤24
 · rw [decide_eq_true h1] at IK ⊢
   clear h1;by_cases h2:0≤q1
   · rw [decide_eq_true h2]
     cases op with
     | true=>
       go_enter Tryz.func61,Tryz.ntmps61
       go_wp2_with fail
       refine IK.af.mono ?_;rintro e w1 ⟨rfl,rfl⟩;go_wp2_with fail
       refine C1.af.mono ?_;rintro e w2 ⟨rfl,ho⟩;have hs2:=HS.af.ext ho.heap;have vH:=hQ (HO.af.trans ho);clear c1;have c1:=hs2.fx;clear hs2 ho;go_wp2;go_ret;exact⟨rfl,vH.af⟩
     | false=>
       simp only [Bool.true_and,Bool.false_or];go_enter Tryz.func61,Tryz.ntmps61
       go_wp2_with fail
       refine IK.af.mono ?_;rintro e w1 ⟨rfl,rfl⟩;go_wp2_with fail
       refine C1.af.mono ?_;rintro e w2 ⟨rfl,ho⟩;have hs2:=HS.af.ext ho.heap;have C3:=hQ (C2.af w2 (vC.af.only ho));have vH:=hQ (HO.af.trans ho);clear c1;have c1:=hs2.fx;clear hs2 ho;go_wp2_with fail
       refine C3.af.mono ?_;rintro e w3 ⟨rfl,wR⟩;have wm:=hQ (vH.af.trans wR);clear wR;go_wp2;go_ret;exact⟨rfl,wm.af⟩
   · rw [decide_eq_false h2]
     go_enter Tryz.func61,Tryz.ntmps61
     go_wp2_with fail
     refine IK.af.mono ?_;rintro e w1 ⟨rfl,rfl⟩;go_wp2_with fail
     refine C1.af.mono ?_;rintro e w2 ⟨rfl,ho⟩;have vH:=hQ (HO.af.trans ho);clear ho;go_wp2;go_ret;exact⟨rfl,vH.af⟩
 · rw [decide_eq_false h1] at IK ⊢
   clear h1;go_enter Tryz.func61,Tryz.ntmps61
   go_wp2_with fail
   refine IK.af.mono ?_;rintro e w1 ⟨rfl,rfl⟩;go_wp2;go_ret;exact⟨rfl,HO.af⟩
theorem Jp(h:Hp)(va vb:Value)(A B:List Int)(hA:Bytes h va A)(hB:Bytes h vb B)(nA:A.length≤140737488355000)(nB:B.length≤140737488355000)(F:Pr)(w:World)(hF:Sat ((Pr.own h).star F) w):
 Calls Tryz.prog 146 #[va,vb] w fun e w'=> ∃o,e= .returned o∧dN w w'∧Sat ((dM o (eY A B)).star ((Pr.own h).star F)) w':=by
 have CM:=hQ (l3 h h va vb A B hA hB (by omega) w hF.own hF.own);have FR:=hQ (fun(v:Value) (l:List Int) (hx:Bytes h v l) (hn:l.length≤140737488355000) (wx:World) hF=>jf h v l F wx hF hx (by omega));have HS:=hQ hF;have HX:=hQ (And.intro (And.intro hA nA) (And.intro hB nB));obtain⟨aa,ca,rfl,_⟩:=eL hA;obtain⟨ab,cb,rfl,_⟩:=eL hB;clear hF hA hB nA nB
 by_cases hc:eX A B<0
 · have HM:=hQ (show eY A B=B from by unfold eY;rw [if_pos hc])
   generalize eX A B=q at*;go_enter Tryz.func146,Tryz.ntmps146
   go_wp2_with fail
   refine CM.af.mono ?_;rintro e w1 ⟨rfl,ho⟩;have F1:=hQ (FR.af _ B HX.af.2.1 HX.af.2.2 w1 (HS.af.ext ho.heap));have eR:=hQ ho.st;clear ho CM FR HS;go_wp2_with fail
   refine F1.af.mono ?_;rintro e w2 ⟨o,rfl,hs2,kU⟩;have lK:=hQ hs2;have fa:=hQ (eR.af.trans kU);clear hs2 kU;go_wp2;go_ret;rw [HM.af];exact⟨_,rfl,fa.af,lK.af⟩
 · have HM:=hQ (show eY A B=A from by unfold eY;rw [if_neg hc])
   generalize eX A B=q at*;go_enter Tryz.func146,Tryz.ntmps146
   go_wp2_with fail
   refine CM.af.mono ?_;rintro e w1 ⟨rfl,ho⟩;have F1:=hQ (FR.af _ A HX.af.1.1 HX.af.1.2 w1 (HS.af.ext ho.heap));have eR:=hQ ho.st;clear ho CM FR HS;go_wp2_with fail
   refine F1.af.mono ?_;rintro e w2 ⟨o,rfl,hs2,kU⟩;have lK:=hQ hs2;have fa:=hQ (eR.af.trans kU);clear hs2 kU;go_wp2;go_ret;rw [HM.af];exact⟨_,rfl,fa.af,lK.af⟩
theorem Jq(h:Hp)(va vb:Value)(A B:List Int)(hA:Bytes h va A)(hB:Bytes h vb B)(nA:A.length≤140737488355000)(nB:B.length≤140737488355000)(F:Pr)(w:World)(hF:Sat ((Pr.own h).star F) w):
 Calls Tryz.prog 147 #[va,vb] w fun e w'=> ∃o,e= .returned o∧dN w w'∧Sat ((dM o (ji A B)).star ((Pr.own h).star F)) w':=by
 have CM:=hQ (l3 h h va vb A B hA hB (by omega) w hF.own hF.own);have FR:=hQ (fun(v:Value) (l:List Int) (hx:Bytes h v l) (hn:l.length≤140737488355000) (wx:World) hF=>jf h v l F wx hF hx (by omega));have HS:=hQ hF;have HX:=hQ (And.intro (And.intro hA nA) (And.intro hB nB));obtain⟨aa,ca,rfl,_⟩:=eL hA;obtain⟨ab,cb,rfl,_⟩:=eL hB;clear hF hA hB nA nB
 by_cases hc:0<eX A B
 · have HM:=hQ (show ji A B=B from by unfold ji;rw [if_pos hc])
   generalize eX A B=q at*;go_enter Tryz.func147,Tryz.ntmps147
   go_wp2_with fail
   refine CM.af.mono ?_;rintro e w1 ⟨rfl,ho⟩;have F1:=hQ (FR.af _ B HX.af.2.1 HX.af.2.2 w1 (HS.af.ext ho.heap));have eR:=hQ ho.st;clear ho CM FR HS;go_wp2_with fail
   refine F1.af.mono ?_;rintro e w2 ⟨o,rfl,hs2,kU⟩;have lK:=hQ hs2;have fa:=hQ (eR.af.trans kU);clear hs2 kU;go_wp2;go_ret;rw [HM.af];exact⟨_,rfl,fa.af,lK.af⟩
 · have HM:=hQ (show ji A B=A from by unfold ji;rw [if_neg hc])
   generalize eX A B=q at*;go_enter Tryz.func147,Tryz.ntmps147
   go_wp2_with fail
   refine CM.af.mono ?_;rintro e w1 ⟨rfl,ho⟩;have F1:=hQ (FR.af _ A HX.af.1.1 HX.af.1.2 w1 (HS.af.ext ho.heap));have eR:=hQ ho.st;clear ho CM FR HS;go_wp2_with fail
   refine F1.af.mono ?_;rintro e w2 ⟨o,rfl,hs2,kU⟩;have lK:=hQ hs2;have fa:=hQ (eR.af.trans kU);clear hs2 kU;go_wp2;go_ret;rw [HM.af];exact⟨_,rfl,fa.af,lK.af⟩
theorem z'(h:Hp)(ra rb:Value)(A B:fw)(hA:gJ h ra A)(hB:gJ h rb B)(nA:nN 140737488355000 A)(nB:nN 140737488355000 B)(F:Pr)(w:World)(hF:Sat ((Pr.own h).star F) w):
 Calls Tryz.prog 123 #[ra,rb] w fun e w'=>dN w w'∧∃h' rv,e= .returned rv∧gJ h' rv (gW A B)∧Sat ((Pr.own h').star ((Pr.own h).star F)) w':=by
 obtain⟨la,ha,rfl,hla,Oz⟩:=hA;obtain⟨lb,hb,rfl,hlb,OA⟩:=hB;obtain⟨al,cl,rfl,_⟩:=eL hla;obtain⟨ah,ch,rfl,_⟩:=eL Oz;obtain⟨bl,dl,rfl,_⟩:=eL hlb;obtain⟨bh,dh,rfl,_⟩:=eL OA;have MO:=hQ (fun(G:Pr) (wx:World) hF=>Jp h _ _ A.lo B.lo hla hlb nA.lo nB.lo G wx hF);have LE:=hQ (fun(G:Pr) (wx:World) hF=>Jq h _ _ A.hi B.hi Oz OA nA.hi nB.hi G wx hF)
 have FA:=hQ (fun(G:Pr) (wx:World) hF=>jf h _ A.hi G wx hF Oz (bK nA.hi (by omega)));have FB:=hQ (fun(G:Pr) (wx:World) hF=>jf h _ B.hi G wx hF OA (bK nB.hi (by omega)));have vg:=dS.Ii hF;unfold gW;clear hF hla Oz hlb OA nA nB;cases hao:A.op with
 | true=>
   cases XP:B.op with
   | true=>
     simp only [Bool.and_true,if_true];have hs0:=((vg.alloc (dO (.slice al A.lo.length cl) (.slice ah A.hi.length ch) true)).alloc (dO (.slice bl B.lo.length dl) (.slice bh B.hi.length dh) true)).alloc (dO (.slice none 0 0) (.slice none 0 0) false)
     rw [show ((w.alloc (dO (.slice al A.lo.length cl) (.slice ah A.hi.length ch) true)).alloc (dO (.slice bl B.lo.length dl) (.slice bh B.hi.length dh) true)).heap.size=w.heap.size+1+1 by simp,show (w.alloc (dO (.slice al A.lo.length cl) (.slice ah A.hi.length ch) true)).heap.size=w.heap.size+1 by simp] at hs0
     have eR:=hQ ((((dN.refl w).alloc (dO (.slice al A.lo.length cl) (.slice ah A.hi.length ch) true)).alloc (dO (.slice bl B.lo.length dl) (.slice bh B.hi.length dh) true)).alloc (dO (.slice none 0 0) (.slice none 0 0) false));have V0:=hQ (MO.af _ _ (hs0.ej (A1:=Pr.own h)));have c1:=hs0.fx;clear vg hs0
     go_enter Tryz.func123,Tryz.ntmps123
     go_wp2_with fail
     refine V0.af.mono ?_;rintro e w5 ⟨ov,rfl,iL,gY⟩;generalize w.heap.size+1+1=BR at*;generalize w.heap.size+1=BB at*;generalize w.heap.size=BA at*;obtain⟨ao,co,rfl⟩:=Row.shape gY;have hs1:=(dS.mH gY).alloc (dO (.slice ao (eY A.lo B.lo).length co) (.slice none 0 0) false)
     have eQ:=hQ ((eR.af.trans iL).alloc (dO (.slice ao (eY A.lo B.lo).length co) (.slice none 0 0) false));clear c1;have c1:=(dS.mH gY).fx;have ig:=hQ hs1;have se:=hQ (dS.mH gY);have lV:=hQ (eR.af.trans iL);clear gY hs1 iL V0 eR MO;go_wp2
     have h5:=(((se.af.set BR 0 (.slice ao (eY A.lo B.lo).length co)).set BR 1 (.slice none 0 0)).set BR 2 (.bool true)).alloc (dO (.slice ao (eY A.lo B.lo).length co) (.slice none 0 0) true)
     have iM:=hQ ((((lV.af.setCell ⟨BR,0,none⟩ (.slice ao (eY A.lo B.lo).length co)).setCell ⟨BR,1,none⟩ (.slice none 0 0)).setCell ⟨BR,2,none⟩ (.bool true)).alloc (dO (.slice ao (eY A.lo B.lo).length co) (.slice none 0 0) true));refine bodyPost_ret (results_cell_row rfl _ _ BR _ _ _ _ rfl (h5.pts BR).dL Tryz.underlying64 rfl kQ) rfl ?_
     obtain⟨h',ha,h6⟩:=h5.arena (dM (.slice ao (eY A.lo B.lo).length co) (eY A.lo B.lo));exact⟨iM.af,h',_,rfl,⟨_,_,rfl,iP ha,gj.nil _ _⟩,(h6.to (M:= [Pr.own h',Pr.own h,F])).sat.perm (by simp only [eJ,Pr.ei])⟩
   | false=>
     simp only [Bool.and_false,bA,if_false,if_true];have hs0:=((vg.alloc (dO (.slice al A.lo.length cl) (.slice ah A.hi.length ch) true)).alloc (dO (.slice bl B.lo.length dl) (.slice bh B.hi.length dh) false)).alloc (dO (.slice none 0 0) (.slice none 0 0) false)
     rw [show ((w.alloc (dO (.slice al A.lo.length cl) (.slice ah A.hi.length ch) true)).alloc (dO (.slice bl B.lo.length dl) (.slice bh B.hi.length dh) false)).heap.size=w.heap.size+1+1 by simp,show (w.alloc (dO (.slice al A.lo.length cl) (.slice ah A.hi.length ch) true)).heap.size=w.heap.size+1 by simp] at hs0
     have eR:=hQ ((((dN.refl w).alloc (dO (.slice al A.lo.length cl) (.slice ah A.hi.length ch) true)).alloc (dO (.slice bl B.lo.length dl) (.slice bh B.hi.length dh) false)).alloc (dO (.slice none 0 0) (.slice none 0 0) false));have V0:=hQ (MO.af _ _ (hs0.ej (A1:=Pr.own h)));have c1:=hs0.fx;clear vg hs0
     go_enter Tryz.func123,Tryz.ntmps123
     go_wp2_with fail
     refine V0.af.mono ?_;rintro e w5 ⟨ov,rfl,iL,gY⟩;generalize w.heap.size+1+1=BR at*;generalize w.heap.size+1=BB at*;generalize w.heap.size=BA at*;obtain⟨ao,co,rfl⟩:=Row.shape gY;have hs1:=(dS.mH gY).alloc (dO (.slice ao (eY A.lo B.lo).length co) (.slice none 0 0) false)
     have eQ:=hQ ((eR.af.trans iL).alloc (dO (.slice ao (eY A.lo B.lo).length co) (.slice none 0 0) false));clear c1;have c1:=(dS.mH gY).fx;have ig:=hQ hs1;have se:=hQ (dS.mH gY);have lV:=hQ (eR.af.trans iL);clear gY hs1 iL V0 eR MO;have V:=hQ (FB.af _ _ (ig.af.ej (A1:=Pr.own h)));go_wp2_with fail
     refine V.af.mono ?_;rintro e w6 ⟨hv,rfl,gY,iL⟩;have gA:=dS.mH gY;obtain⟨ai,ci,rfl⟩:=Row.shape gY;clear c1;have c1:=gA.fx;have yh:=hQ gA;have pF:=hQ (eQ.af.trans iL);clear gY gA iL V ig eQ se lV;generalize w5.heap.size=J at*;go_wp2
     have h5:=(((yh.af.set J 1 (.slice ai (B.hi).length ci)).set BR 0 (.slice ao (eY A.lo B.lo).length co)).set BR 1 (.slice ai (B.hi).length ci)).set BR 2 (.bool false);have iM:=hQ ((((pF.af.setCell ⟨J,1,none⟩ (.slice ai (B.hi).length ci)).setCell ⟨BR,0,none⟩ (.slice ao (eY A.lo B.lo).length co)).setCell ⟨BR,1,none⟩ (.slice ai (B.hi).length ci)).setCell ⟨BR,2,none⟩ (.bool false))
     refine bodyPost_ret (results_cell_row rfl _ _ BR _ _ _ _ rfl (h5.pts BR).dL Tryz.underlying64 rfl kQ) rfl ?_;obtain⟨h',ha,h6⟩:=(h5.jk (dM (.slice ao (eY A.lo B.lo).length co) (eY A.lo B.lo)) (dM (.slice ai (B.hi).length ci) (B.hi))).arena ((dM (.slice ao (eY A.lo B.lo).length co) (eY A.lo B.lo)).star (dM (.slice ai (B.hi).length ci) (B.hi)))
     obtain⟨p,q,hp,hq,s1,s2⟩:=fF ha;exact⟨iM.af,h',_,rfl,⟨_,_,rfl,(iP hp).sub s1,(iP hq).sub s2⟩,(h6.to (M:= [Pr.own h',Pr.own h,F])).sat.perm (by simp only [eJ,Pr.ei])⟩
 | false=>
   cases XP:B.op with
   | true=>
     simp only [Bool.false_and,bA,if_false,if_true];have hs0:=((vg.alloc (dO (.slice al A.lo.length cl) (.slice ah A.hi.length ch) false)).alloc (dO (.slice bl B.lo.length dl) (.slice bh B.hi.length dh) true)).alloc (dO (.slice none 0 0) (.slice none 0 0) false)
     rw [show ((w.alloc (dO (.slice al A.lo.length cl) (.slice ah A.hi.length ch) false)).alloc (dO (.slice bl B.lo.length dl) (.slice bh B.hi.length dh) true)).heap.size=w.heap.size+1+1 by simp,show (w.alloc (dO (.slice al A.lo.length cl) (.slice ah A.hi.length ch) false)).heap.size=w.heap.size+1 by simp] at hs0
     have eR:=hQ ((((dN.refl w).alloc (dO (.slice al A.lo.length cl) (.slice ah A.hi.length ch) false)).alloc (dO (.slice bl B.lo.length dl) (.slice bh B.hi.length dh) true)).alloc (dO (.slice none 0 0) (.slice none 0 0) false));have V0:=hQ (MO.af _ _ (hs0.ej (A1:=Pr.own h)));have c1:=hs0.fx;clear vg hs0
     go_enter Tryz.func123,Tryz.ntmps123
     go_wp2_with fail
     refine V0.af.mono ?_;rintro e w5 ⟨ov,rfl,iL,gY⟩;generalize w.heap.size+1+1=BR at*;generalize w.heap.size+1=BB at*;generalize w.heap.size=BA at*;obtain⟨ao,co,rfl⟩:=Row.shape gY;have hs1:=(dS.mH gY).alloc (dO (.slice ao (eY A.lo B.lo).length co) (.slice none 0 0) false)
     have eQ:=hQ ((eR.af.trans iL).alloc (dO (.slice ao (eY A.lo B.lo).length co) (.slice none 0 0) false));clear c1;have c1:=(dS.mH gY).fx;have ig:=hQ hs1;have se:=hQ (dS.mH gY);have lV:=hQ (eR.af.trans iL);clear gY hs1 iL V0 eR MO;have V:=hQ (FA.af _ _ (ig.af.ej (A1:=Pr.own h)));go_wp2_with fail
     refine V.af.mono ?_;rintro e w6 ⟨hv,rfl,gY,iL⟩;have gA:=dS.mH gY;obtain⟨ai,ci,rfl⟩:=Row.shape gY;clear c1;have c1:=gA.fx;have yh:=hQ gA;have pF:=hQ (eQ.af.trans iL);clear gY gA iL V ig eQ se lV;generalize w5.heap.size=J at*;go_wp2
     have h5:=(((yh.af.set J 1 (.slice ai (A.hi).length ci)).set BR 0 (.slice ao (eY A.lo B.lo).length co)).set BR 1 (.slice ai (A.hi).length ci)).set BR 2 (.bool false);have iM:=hQ ((((pF.af.setCell ⟨J,1,none⟩ (.slice ai (A.hi).length ci)).setCell ⟨BR,0,none⟩ (.slice ao (eY A.lo B.lo).length co)).setCell ⟨BR,1,none⟩ (.slice ai (A.hi).length ci)).setCell ⟨BR,2,none⟩ (.bool false))
     refine bodyPost_ret (results_cell_row rfl _ _ BR _ _ _ _ rfl (h5.pts BR).dL Tryz.underlying64 rfl kQ) rfl ?_;obtain⟨h',ha,h6⟩:=(h5.jk (dM (.slice ao (eY A.lo B.lo).length co) (eY A.lo B.lo)) (dM (.slice ai (A.hi).length ci) (A.hi))).arena ((dM (.slice ao (eY A.lo B.lo).length co) (eY A.lo B.lo)).star (dM (.slice ai (A.hi).length ci) (A.hi)))
     obtain⟨p,q,hp,hq,s1,s2⟩:=fF ha;exact⟨iM.af,h',_,rfl,⟨_,_,rfl,(iP hp).sub s1,(iP hq).sub s2⟩,(h6.to (M:= [Pr.own h',Pr.own h,F])).sat.perm (by simp only [eJ,Pr.ei])⟩
   | false=>
     simp only [Bool.false_and,bA,if_false];have hs0:=((vg.alloc (dO (.slice al A.lo.length cl) (.slice ah A.hi.length ch) false)).alloc (dO (.slice bl B.lo.length dl) (.slice bh B.hi.length dh) false)).alloc (dO (.slice none 0 0) (.slice none 0 0) false)
     rw [show ((w.alloc (dO (.slice al A.lo.length cl) (.slice ah A.hi.length ch) false)).alloc (dO (.slice bl B.lo.length dl) (.slice bh B.hi.length dh) false)).heap.size=w.heap.size+1+1 by simp,show (w.alloc (dO (.slice al A.lo.length cl) (.slice ah A.hi.length ch) false)).heap.size=w.heap.size+1 by simp] at hs0
     have eR:=hQ ((((dN.refl w).alloc (dO (.slice al A.lo.length cl) (.slice ah A.hi.length ch) false)).alloc (dO (.slice bl B.lo.length dl) (.slice bh B.hi.length dh) false)).alloc (dO (.slice none 0 0) (.slice none 0 0) false));have V0:=hQ (MO.af _ _ (hs0.ej (A1:=Pr.own h)));have c1:=hs0.fx;clear vg hs0
     go_enter Tryz.func123,Tryz.ntmps123
     go_wp2_with fail
     refine V0.af.mono ?_;rintro e w5 ⟨ov,rfl,iL,gY⟩;generalize w.heap.size+1+1=BR at*;generalize w.heap.size+1=BB at*;generalize w.heap.size=BA at*;obtain⟨ao,co,rfl⟩:=Row.shape gY;have hs1:=(dS.mH gY).alloc (dO (.slice ao (eY A.lo B.lo).length co) (.slice none 0 0) false)
     have eQ:=hQ ((eR.af.trans iL).alloc (dO (.slice ao (eY A.lo B.lo).length co) (.slice none 0 0) false));clear c1;have c1:=(dS.mH gY).fx;have ig:=hQ hs1;have se:=hQ (dS.mH gY);have lV:=hQ (eR.af.trans iL);clear gY hs1 iL V0 eR MO;have V:=hQ (LE.af _ _ (ig.af.ej (A1:=Pr.own h)));go_wp2_with fail
     refine V.af.mono ?_;rintro e w6 ⟨hv,rfl,iL,gY⟩;have gA:=dS.mH gY;obtain⟨ai,ci,rfl⟩:=Row.shape gY;clear c1;have c1:=gA.fx;have yh:=hQ gA;have pF:=hQ (eQ.af.trans iL);clear gY gA iL V ig eQ se lV;generalize w5.heap.size=J at*;go_wp2
     have h5:=(((yh.af.set J 1 (.slice ai (ji A.hi B.hi).length ci)).set BR 0 (.slice ao (eY A.lo B.lo).length co)).set BR 1 (.slice ai (ji A.hi B.hi).length ci)).set BR 2 (.bool false)
     have iM:=hQ ((((pF.af.setCell ⟨J,1,none⟩ (.slice ai (ji A.hi B.hi).length ci)).setCell ⟨BR,0,none⟩ (.slice ao (eY A.lo B.lo).length co)).setCell ⟨BR,1,none⟩ (.slice ai (ji A.hi B.hi).length ci)).setCell ⟨BR,2,none⟩ (.bool false));refine bodyPost_ret (results_cell_row rfl _ _ BR _ _ _ _ rfl (h5.pts BR).dL Tryz.underlying64 rfl kQ) rfl ?_
     obtain⟨h',ha,h6⟩:=(h5.jk (dM (.slice ao (eY A.lo B.lo).length co) (eY A.lo B.lo)) (dM (.slice ai (ji A.hi B.hi).length ci) (ji A.hi B.hi))).arena ((dM (.slice ao (eY A.lo B.lo).length co) (eY A.lo B.lo)).star (dM (.slice ai (ji A.hi B.hi).length ci) (ji A.hi B.hi)));obtain⟨p,q,hp,hq,s1,s2⟩:=fF ha
     exact⟨iM.af,h',_,rfl,⟨_,_,rfl,(iP hp).sub s1,(iP hq).sub s2⟩,(h6.to (M:= [Pr.own h',Pr.own h,F])).sat.perm (by simp only [eJ,Pr.ei])⟩
end Go.Proofs.YtiegeadmgpanoaaGreatDoor.E4
namespace Go.Proofs.YtiegeadmgpanoaaGreatDoor.D2
open ChangeShapes WideShapes ChangeAt RowKit Sl fB L3 Z3 E4
theorem XS {g:dR}(h:Fit g):∀y∈g.items,y.key.length≤65536∧y.value.length≤65536:=fun y hy=>by have:=h.k y hy;omega
structure vN where
 vi:Value
 vd:Value
 ys:List (Value × Value)
 g:dR
def vN.pv(t:vN):Value:=fX t.g.kind t.g.level t.vi t.vd t.g.next
abbrev Aa(t:vN)(T:Pr):Pr:=(fO t.vi t.ys t.g.items).star ((big rowsOf (t.ys.zip t.g.items)).star ((dM t.vd t.g.data).star T))
def yi(t:vN):Pr:=(Pr.pure (t.ys.length=t.g.items.length)).star (Aa t Pr.emp)
theorem Ab {t:vN}{F:Pr}{w:World}:Sat ((yi t).star F) w↔t.ys.length=t.g.items.length∧Sat (Aa t F) w:=by
 unfold yi;rw [Pr.dP];constructor
 · intro h
   obtain⟨h1,h2⟩:=Sat.pure.1 h;exact⟨h1,h2.perm (by simp only [Aa,Pr.dP,Pr.fK])⟩
 · rintro⟨h1,h2⟩
   exact Sat.pure.2 ⟨h1,h2.perm (by simp only [Aa,Pr.dP,Pr.fK])⟩
theorem vO {l:List ((Value × Value) × en)}{h:Hp}(hb:big rowsOf l h):∀x∈l,Bytes h x.1.1 x.2.key∧Bytes h x.1.2 x.2.value:=by
 induction l generalizing h with
 | nil=>intro x hx;cases hx
 | cons y l ih=>
   obtain⟨a,b,ha,hb',s1,s2⟩:=fF (show ((rowsOf y).star (big rowsOf l)) h from hb);obtain⟨c,d,hc,hd,s3,s4⟩:=fF (show ((dM y.1.1 y.2.key).star (dM y.1.2 y.2.value)) a from ha);intro x hx;rcases aR.1 hx with rfl | hx
   · exact⟨((Row.jh hc).sub s3).sub s1,((Row.jh hd).sub s4).sub s1⟩
   · exact⟨(ih hb' x hx).1.sub s2,(ih hb' x hx).2.sub s2⟩
theorem LY {t:vN}{h:Hp}(ht:yi t h):fV h t.pv t.g:=by
 have ht:((Pr.pure (t.ys.length=t.g.items.length)).star (Aa t Pr.emp)) h:=ht;obtain⟨a,b,ha,hb,s1,s2⟩:=fF ht;have hlen:t.ys.length=t.g.items.length:=ha.1;obtain⟨c,d,hc,hd,s3,s4⟩:=fF (show ((fO t.vi t.ys t.g.items).star ((big rowsOf (t.ys.zip t.g.items)).star ((dM t.vd t.g.data).star Pr.emp))) b from hb);obtain⟨e,f,he,hf,s5,s6⟩:=fF hd;obtain⟨i,j,hi,_,s7,_⟩:=fF hf
 refine⟨t.vi,t.vd,rfl,⟨t.ys,hlen,((Row.jh hc).sub s3).sub s2,fun k hx hl=> ?_⟩,((((Row.jh hi).sub s7).sub s6).sub s4).sub s2⟩
 have hm:=vO he (t.ys[k],t.g.items[k]) (by
  have hz:k<(t.ys.zip t.g.items).length:=by simp;omega
  have:=aE hz
  rwa [dp] at this)
 exact⟨((hm.1.sub s5).sub s4).sub s2,((hm.2.sub s5).sub s4).sub s2⟩
def ZQ:vN:=⟨.slice none 0 0,.slice none 0 0,[],lj⟩
theorem Jr(v:Nat)(s:eC)(n:Int)(hn:1≤n∧n≤65536)(g:dR)(hfit:Fit g)(F:Pr)(w:World)(hF:Sat ((dZ v s).star F) w)(h0:s.pool.count n≠0)(sQ:s.on n=some g):
 Calls Tryz.prog 45 #[.pointer (some ⟨v,0,none⟩),.int .i64 n] w fun e w'=>
  dN w w'∧∃t:vN,e= .returned (.tuple #[t.pv,.int .i64 0])∧t.g=g∧Sat ((yi t).star ((dZ v s).star F)) w':=by
 obtain⟨x,ok,hF⟩:=gC.1 hF;have ho:eV w (w.alloc (dV 0 0 (.slice none 0 0) (.slice none 0 0) 0)):=(eV.refl w).alloc _
 have h1:Sat ((eP x.p s.pool).star ((Pr.pts v (.cells #[.pointer (some ⟨x.p,0,none⟩),.map (some x.mb),x.av,.int .i64 s.floor] 108)).star
  ((((fD Tryz.prog 3 x.mb x.f).star ((Row 169 2 x.av s.acts.length (eI x.kA)).star (Pr.own x.h)))).star F))) w:=hF.perm (by unfold fc;ac_rfl)
 have qv:w.cell? ⟨v,0,none⟩=some (.pointer (some ⟨x.p,0,none⟩)):=by rw [cell_of_heap h1.right.dL];rfl
 have qm:w.cell? ⟨v,1,none⟩=some (.map (some x.mb)):=by rw [cell_of_heap h1.right.dL];rfl
 have zv:=h1.right.lt;have C:=hQ (pX x.p s.pool n _ _ (h1.only ho));have hm:=(h1.only ho).perm (B:=(fD Tryz.prog 3 x.mb x.f).star ((eP x.p s.pool).star ((Pr.pts v (.cells #[.pointer (some ⟨x.p,0,none⟩),.map (some x.mb),x.av,.int .i64 s.floor] 108)).star ((Row 169 2 x.av s.acts.length (eI x.kA)).star ((Pr.own x.h).star F))))) (by ac_rfl);have hO:=ok.on n;rw [sQ] at hO
 obtain⟨pv,hf,xQ⟩:=hO;have hne:(s.pool.count n == 0)=false:=by rw [beq_eq_false_iff_ne];exact h0
 have h2:=(hF.alloc (dV 0 0 (.slice none 0 0) (.slice none 0 0) 0)).perm (B:=(Pr.own x.h).star ((Pr.pts w.heap.size (dV 0 0 (.slice none 0 0) (.slice none 0 0) 0)).star ((Pr.pts v (.cells #[.pointer (some ⟨x.p,0,none⟩),.map (some x.mb),x.av,.int .i64 s.floor] 108)).star ((eP x.p s.pool).star ((fD Tryz.prog 3 x.mb x.f).star ((Row 169 2 x.av s.acts.length (eI x.kA)).star F)))))) (by unfold fc;ac_rfl)
 have D:=hQ (Dt x.h pv g xQ (by have:=hfit.n;omega) (XS hfit) (by have:=hfit.d;omega) _ _ h2);have HM:=hQ hm;have HO:=hQ ho;have OK:=hQ ok;have Nh:=hQ hf;clear h1 hF ok ho hm hf xQ h2;go_enter Tryz.func45,Tryz.ntmps45
 go_wp2_with fail
 refine C.af.mono ?_;rintro e w1 ⟨rfl,rfl⟩;generalize s.pool.count n=k at*;go_wp2_with (at_lookup;refine nb rfl _ _ _ false rfl Tryz.underlying3 Tryz.underlying105 jY (nV _) n hn rfl rfl HM.af ?_;rw [Nh.af])
 refine D.af.mono ?_;rintro e w1 ⟨vi,vd,ys,rfl,wJ,h3,hst⟩;obtain⟨ai,ci,rfl⟩:=Row.shape h3;obtain⟨ad,cd,rfl⟩:=Row.shape h3.right.right;have h4:=(Ab (t:=⟨.slice ai g.items.length ci,.slice ad g.data.length cd,ys,g⟩)).2 ⟨wJ,h3⟩;have hs:=dS.in7 h4;have c1:=hs.fx;have HS:=hQ hs;have eR:=hQ (HO.af.st.trans hst);have yK:=hQ wJ
 clear h3 h4 hs hst C D HM Nh wJ;go_wp2;have h5:=(((((HS.af.set w.heap.size 0 (.int .i64 g.kind)).set w.heap.size 1 (.int .i64 g.level)).set w.heap.size 2 (.slice ai g.items.length ci)).set w.heap.size 3 (.slice ad g.data.length cd)).set w.heap.size 4 (.int .i64 g.next))
 refine bodyPost_ret (gd rfl _ _ w.heap.size _ rfl (run_loadVar_row _ w.heap.size _ _ _ _ _ (h5.pts w.heap.size).dL Tryz.underlying83 rfl jW)) rfl ?_;refine⟨((((eR.af.setCell _ _).setCell _ _).setCell _ _).setCell _ _).setCell _ _,⟨.slice ai g.items.length ci,.slice ad g.data.length cd,ys,g⟩,rfl,rfl,?_⟩
 have h6:=h5.SK (A1:=yi ⟨.slice ai g.items.length ci,.slice ad g.data.length cd,ys,g⟩) (A2:=Pr.pts v (.cells #[.pointer (some ⟨x.p,0,none⟩),.map (some x.mb),x.av,.int .i64 s.floor] 108)) (A3:=eP x.p s.pool) (A4:=fD Tryz.prog 3 x.mb x.f) (A5:=Row 169 2 x.av s.acts.length (eI x.kA)) (A6:=Pr.own x.h) (A7:=F) (A8:=Pr.pts w.heap.size (dV g.kind g.level (.slice ai g.items.length ci) (.slice ad g.data.length cd) g.next))
 refine Sat.perm (A:=(dZ v s).star ((yi ⟨.slice ai g.items.length ci,.slice ad g.data.length cd,ys,g⟩).star F)) ?_ (Pr.eD _ _ _);refine gC.2 ⟨x,OK.af,?_⟩;refine Sat.left (B:=(Pr.pts w.heap.size (dV g.kind g.level (.slice ai g.items.length ci) (.slice ad g.data.length cd) g.next)).star (eJ [])) (h6.perm ?_);unfold fc;simp only [eJ];ac_rfl
end Go.Proofs.YtiegeadmgpanoaaGreatDoor.D2
