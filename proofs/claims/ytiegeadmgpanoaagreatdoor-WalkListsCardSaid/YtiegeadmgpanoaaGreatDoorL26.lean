/- The program's isKey, Has and Meet of ranges; the conditions stand as hypotheses. -/
import Derived.Test.YtiegeadmgpanoaaGreatDoorL22
import Derived.Test.YtiegeadmgpanoaaGreatDoorL23
import Derived.Test.YtiegeadmgpanoaaGreatDoorL05
import Derived.Deep.CutRange
import Derived.Test.YtiegeadmgpanoaaGreatDoorL16
set_option maxRecDepth 100000
set_option maxHeartbeats 16000000
namespace Go.Proofs.YtiegeadmgpanoaaGreatDoor.D2
open ChangeShapes WideShapes ChangeAt RowKit Sl fB L3 E4 X5
abbrev dO(lo hi:Value)(op:Bool):Obj:= .cells #[lo,hi,.bool op] 64
theorem sj(ha hb:Hp)(va vb:Value)(A B:List Int)(h1:Bytes ha va A)(h2:Bytes hb vb B)(u1:U8 A)(u2:U8 B)(w:World)(l1:ha.le w)(l2:hb.le w):
 Calls Tryz.prog 89 #[va,vb] w fun e w'=>e= .returned (.int .i64 (eX A B))∧eV w w':=
 (jV ha hb va vb A B h1 h2 u1 u2 w l1 l2).mono fun _ _ ⟨h1,h2⟩=>⟨h1,h2 ▸ eV.refl _⟩
theorem kQ:(Tryz.prog.info? 64).map (·.size)=some 3:=by kernel_rfl
theorem z_(a:Option Addr)(n c:Nat)(hn:n≤140737488355328)(w:World):
 Calls Tryz.prog 132 #[.slice a n c] w fun e w'=>e= .returned (.bool (decide (1≤n∧n≤24)))∧w=w':=by
 have rH:(n:Int)≤140737488355328:=by omega
 by_cases h1:1≤n
 · have e1:(1:Int)≤(n:Int):=by omega
   by_cases h2:n≤24
   · have e2:(n:Int)≤24:=by omega
     rw [decide_eq_true (⟨h1,h2⟩:1≤n∧n≤24)];clear h1 h2;go_enter Tryz.func132,Tryz.ntmps132
     go_wp2;go_ret;exact⟨rfl,rfl⟩
   · have e2:¬(n:Int)≤24:=by omega
     rw [decide_eq_false (fun h:1≤n∧n≤24=>h2 h.2)];clear h1 h2;go_enter Tryz.func132,Tryz.ntmps132
     go_wp2;go_ret;exact⟨rfl,rfl⟩
 · have e1:¬(1:Int)≤(n:Int):=by omega
   rw [decide_eq_false (fun h:1≤n∧n≤24=>h1 h.1)];clear h1;go_enter Tryz.func132,Tryz.ntmps132
   go_wp2;go_ret;exact⟨rfl,rfl⟩
theorem Bz(h:Hp)(rv kv:Value)(r:fw)(k:List Int)(hr:gJ h rv r)(hk:Bytes h kv k)(ur:wT r)(uk:U8 k)(nk:k.length≤140737488355328)(w:World)(hle:h.le w):
 Calls Tryz.prog 94 #[rv,kv] w fun e w'=>e= .returned (.bool (iV r k))∧eV w w':=by
 obtain⟨lo,hi,rfl,hlo,mK⟩:=hr;obtain⟨al,cl,rfl,_⟩:=eL hlo;obtain⟨ah,ch,rfl,_⟩:=eL mK;obtain⟨ak,ck,rfl,_⟩:=eL hk;have o1:eV w (w.alloc (dO (.slice al r.lo.length cl) (.slice ah r.hi.length ch) r.op)):=(eV.refl w).alloc _;have Oy:=hle.only o1;have hs0:=(dS.Ze (xZ w)).alloc (dO (.slice al r.lo.length cl) (.slice ah r.hi.length ch) r.op)
 have IK:=hQ (z_ ak k.length ck nk (w.alloc (dO (.slice al r.lo.length cl) (.slice ah r.hi.length ch) r.op)));have C1:=hQ (sj h h _ _ k r.lo hk hlo uk ur.lo _ Oy Oy);have C2:=hQ (fun(wx:World) (hx:h.le wx)=>sj h h _ _ k r.hi hk mK uk ur.hi wx hx hx);have HO:=hQ o1;have vC:=hQ Oy;have HS:=hQ hs0
 have HV:iV r k=(decide (1≤k.length∧k.length≤24) && (decide (0≤eX k r.lo) && (r.op || decide (eX k r.hi<0)))):=rfl;rw [HV];have c1:=hs0.fx;clear hlo mK hk hle o1 Oy hs0 HV nk;generalize k.length=nk at*;generalize r.lo.length=nl at*;generalize r.hi.length=nh at*;generalize eX k r.lo=q1 at*;generalize eX k r.hi=q2 at*
 generalize r.op=op at*;by_cases h1:1≤nk∧nk≤24
 · rw [decide_eq_true h1] at IK ⊢
   clear h1;by_cases h2:0≤q1
   · rw [decide_eq_true h2]
     cases op with
     | true=>
       go_enter Tryz.func94,Tryz.ntmps94
       go_wp2_with fail
       refine IK.af.mono ?_;rintro e w1 ⟨rfl,rfl⟩;go_wp2_with fail
       refine C1.af.mono ?_;rintro e w2 ⟨rfl,ho⟩;have hs2:=HS.af.ext ho.heap;have vH:=hQ (HO.af.trans ho);clear c1;have c1:=hs2.fx;clear hs2 ho;go_wp2;go_ret;exact⟨rfl,vH.af⟩
     | false=>
       simp only [Bool.true_and,Bool.false_or];go_enter Tryz.func94,Tryz.ntmps94
       go_wp2_with fail
       refine IK.af.mono ?_;rintro e w1 ⟨rfl,rfl⟩;go_wp2_with fail
       refine C1.af.mono ?_;rintro e w2 ⟨rfl,ho⟩;have hs2:=HS.af.ext ho.heap;have C3:=hQ (C2.af w2 (vC.af.only ho));have vH:=hQ (HO.af.trans ho);clear c1;have c1:=hs2.fx;clear hs2 ho;go_wp2_with fail
       refine C3.af.mono ?_;rintro e w3 ⟨rfl,wR⟩;have wm:=hQ (vH.af.trans wR);clear wR;go_wp2;go_ret;exact⟨rfl,wm.af⟩
   · rw [decide_eq_false h2]
     go_enter Tryz.func94,Tryz.ntmps94
     go_wp2_with fail
     refine IK.af.mono ?_;rintro e w1 ⟨rfl,rfl⟩;go_wp2_with fail
     refine C1.af.mono ?_;rintro e w2 ⟨rfl,ho⟩;have vH:=hQ (HO.af.trans ho);clear ho;go_wp2;go_ret;exact⟨rfl,vH.af⟩
 · rw [decide_eq_false h1] at IK ⊢
   clear h1;go_enter Tryz.func94,Tryz.ntmps94
   go_wp2_with fail
   refine IK.af.mono ?_;rintro e w1 ⟨rfl,rfl⟩;go_wp2;go_ret;exact⟨rfl,HO.af⟩
theorem iP {v:Value}{l:List Int}{h:Hp}(hr:dM v l h):Bytes h v l:=Row.jh hr
theorem um(h:Hp)(ra rb:Value)(A B:fw)(hA:gJ h ra A)(hB:gJ h rb B)(uA:wT A)(uB:wT B)(nA:nN 140737488355000 A)(nB:nN 140737488355000 B)(F:Pr)(w:World)(hF:Sat ((Pr.own h).star F) w):
 Calls Tryz.prog 83 #[ra,rb] w fun e w'=>dN w w'∧∃h' rv,e= .returned rv∧gJ h' rv (gW A B)∧Sat ((Pr.own h').star ((Pr.own h).star F)) w':=by
 obtain⟨la,ha,rfl,hla,Oz⟩:=hA;obtain⟨lb,hb,rfl,hlb,OA⟩:=hB;obtain⟨al,cl,rfl,_⟩:=eL hla;obtain⟨ah,ch,rfl,_⟩:=eL Oz;obtain⟨bl,dl,rfl,_⟩:=eL hlb;obtain⟨bh,dh,rfl,_⟩:=eL OA;have MO:=hQ (fun(G:Pr) (wx:World) hF=>Lv h _ _ A.lo B.lo hla hlb uA.lo uB.lo nA.lo nB.lo G wx hF)
 have LE:=hQ (fun(G:Pr) (wx:World) hF=>Lx h _ _ A.hi B.hi Oz OA uA.hi uB.hi nA.hi nB.hi G wx hF);have FA:=hQ (fun(G:Pr) (wx:World) hF=>nW h _ A.hi Oz nA.hi G wx hF);have FB:=hQ (fun(G:Pr) (wx:World) hF=>nW h _ B.hi OA nB.hi G wx hF);have vg:=dS.Ii hF;unfold gW;clear hF hla Oz hlb OA uA uB nA nB;cases hao:A.op with
 | true=>
   cases XP:B.op with
   | true=>
     simp only [Bool.and_true,if_true];have hs0:=((vg.alloc (dO (.slice al A.lo.length cl) (.slice ah A.hi.length ch) true)).alloc (dO (.slice bl B.lo.length dl) (.slice bh B.hi.length dh) true)).alloc (dO (.slice none 0 0) (.slice none 0 0) false)
     rw [show ((w.alloc (dO (.slice al A.lo.length cl) (.slice ah A.hi.length ch) true)).alloc (dO (.slice bl B.lo.length dl) (.slice bh B.hi.length dh) true)).heap.size=w.heap.size+1+1 by simp,show (w.alloc (dO (.slice al A.lo.length cl) (.slice ah A.hi.length ch) true)).heap.size=w.heap.size+1 by simp] at hs0
     have eR:=hQ ((((dN.refl w).alloc (dO (.slice al A.lo.length cl) (.slice ah A.hi.length ch) true)).alloc (dO (.slice bl B.lo.length dl) (.slice bh B.hi.length dh) true)).alloc (dO (.slice none 0 0) (.slice none 0 0) false));have jC:=hQ hs0;clear vg hs0;go_enter Tryz.func83,Tryz.ntmps83
     go_wp2_with fail
     have U1:=eR.af;have U2:=jC.af;clear eR jC;generalize ((w.alloc (dO (.slice al A.lo.length cl) (.slice ah A.hi.length ch) true)).alloc (dO (.slice bl B.lo.length dl) (.slice bh B.hi.length dh) true)).alloc (dO (.slice none 0 0) (.slice none 0 0) false)=w0 at*;generalize w.heap.size+1+1=BR at*;generalize w.heap.size+1=BB at*;generalize w.heap.size=BA at*;have eR:=hQ U1
     have jC:=hQ (U2.to (M:= [Pr.pts BR (dO (.slice none 0 0) (.slice none 0 0) false),Pr.pts BB (dO (.slice bl B.lo.length dl) (.slice bh B.hi.length dh) true),Pr.pts BA (dO (.slice al A.lo.length cl) (.slice ah A.hi.length ch) true),Pr.own h,F]));clear U1 U2
     go_cut [5] from 6 to 18 (fun t1 wx=> ∃(J:Nat) (ov:Value),t1= .pointer (some ⟨J,0,none⟩)∧dN w wx∧dS [Pr.pts J (dO ov (.slice none 0 0) true),dM ov (eY A.lo B.lo),Pr.pts BR (dO (.slice none 0 0) (.slice none 0 0) false),Pr.pts BB (dO (.slice bl B.lo.length dl) (.slice bh B.hi.length dh) true),Pr.pts BA (dO (.slice al A.lo.length cl) (.slice ah A.hi.length ch) true),Pr.own h,F] wx)
     case first=>
      have c1:=jC.af.fx;refine fS (sz:=42) (by kernel_rfl) [0,1,2,3,5,6] [(12,[],[0,1,2,3,5,6],[(4,[7,8,9,10,11],[0,2,5,6]),(13,[],[])]),(4,[7,8,9,10,11],[0,2,5,6],[(12,[],[0,2,5,6,7,8,9,10,11]),(13,[],[])])] rfl (by kernel_rfl) (by kernel_rfl) (by kernel_rfl) ?_;refine dY _ rfl rfl ?_;simp only [pick,pQ]
      iterate 6 (go_big_quiet_step (fail))
      refine wpQuiet_nil ?_;intro sx mR;rcases aR.1 mR with rfl | mR
      · have gp:=jC.af.drew.alloc (dO (.slice none 0 0) (.slice none 0 0) false)
        have V:=hQ (MO.af _ _ (gp.ej (A1:=Pr.own h)));have nQ:=hQ (eR.af.drew.alloc (dO (.slice none 0 0) (.slice none 0 0) false));clear gp;refine dK rfl ?_;go_wp2;refine dQ ?_;refine dU ⟨?_,?_⟩
        · exact cQ
        refine dK rfl ?_;go_wp2_with fail
        refine V.af.mono ?_;rintro e w5 ⟨ov,rfl,iL,gY⟩;have gA:=dS.mH gY;rw [show w0.drew.heap.size=w0.heap.size by simp] at gA;obtain⟨ao,co,rfl⟩:=Row.shape gY;clear c1;have c1:=gA.fx;have lu:=((gA.set w0.heap.size 0 (.slice ao (eY A.lo B.lo).length co)).set w0.heap.size 1 (.slice none 0 0)).set w0.heap.size 2 (.bool true)
        have kh:=hQ (And.intro (((((nQ.af.trans iL).setCell ⟨w0.heap.size,0,none⟩ (.slice ao (eY A.lo B.lo).length co)).setCell ⟨w0.heap.size,1,none⟩ (.slice none 0 0)).setCell ⟨w0.heap.size,2,none⟩ (.bool true))) lu);clear gY gA lu iL V nQ;go_wp2;refine dQ ?_;refine dY _ rfl rfl ?_;simp only [pick,pQ];iterate 5 (go_big_quiet_step (fail))
        refine wpQuiet_nil ⟨?_,?_⟩
        · exact cQ
        refine dK rfl ?_;go_wp2;refine dQ ?_;refine dU ⟨?_,?_⟩
        · exact eM
        refine dW ?_;go_wp2;go_meet
        exact⟨_,.slice ao (eY A.lo B.lo).length co,rfl,kh.af.1,kh.af.2.to⟩
      · cases aC.1 mR
        have V:=hQ (MO.af _ _ (jC.af.drew.ej (A1:=Pr.own h)));refine dK rfl ?_;go_wp2_with fail
        refine V.af.mono ?_;rintro e w5 ⟨ov,rfl,iL,gY⟩;have gA:=dS.mH gY;obtain⟨ao,co,rfl⟩:=Row.shape gY;clear c1;have c1:=gA.fx;have lu:=gA.alloc (dO (.slice ao (eY A.lo B.lo).length co) (.slice none 0 0) true)
        have kh:=hQ (And.intro ((eR.af.drew.trans iL).alloc (dO (.slice ao (eY A.lo B.lo).length co) (.slice none 0 0) true)) lu);clear gY gA lu iL V;go_wp2;refine dQ ?_;refine dY _ rfl rfl ?_;simp only [pick,pQ];iterate 5 (go_big_quiet_step (fail))
        refine wpQuiet_nil ⟨?_,?_⟩
        · exact cQ
        refine dK rfl ?_;go_wp2;refine dQ ?_;refine dU ⟨?_,?_⟩
        · exact cQ
        refine dK rfl ?_;go_wp2;refine dQ ?_;refine dU ⟨?_,?_⟩
        · exact eM
        refine dW ?_;go_wp2;go_meet
        exact⟨_,.slice ao (eY A.lo B.lo).length co,rfl,kh.af.1,kh.af.2.to⟩
     case rest=>
      obtain⟨J,ov,rfl,fN,hs1⟩:=hcut;obtain⟨ao,co,rfl⟩:=Row.shape (hs1.ej (A1:=dM ov (eY A.lo B.lo)));have eQ:=hQ fN;have ig:=hQ hs1;have c1:=hs1.fx;clear fN hs1 eR jC MO;go_wp2;have h5:=((ig.af.set BR 0 (.slice ao (eY A.lo B.lo).length co)).set BR 1 (.slice none 0 0)).set BR 2 (.bool true)
      have iM:=hQ (((eQ.af.setCell ⟨BR,0,none⟩ (.slice ao (eY A.lo B.lo).length co)).setCell ⟨BR,1,none⟩ (.slice none 0 0)).setCell ⟨BR,2,none⟩ (.bool true));refine bodyPost_ret (results_cell_row rfl _ _ BR _ _ _ _ rfl (h5.pts BR).dL Tryz.underlying64 rfl kQ) rfl ?_;obtain⟨h',ha,h6⟩:=h5.arena (dM (.slice ao (eY A.lo B.lo).length co) (eY A.lo B.lo))
      exact⟨iM.af,h',_,rfl,⟨_,_,rfl,iP ha,gj.nil _ _⟩,(h6.to (M:= [Pr.own h',Pr.own h,F])).sat.perm (by simp only [eJ,Pr.ei])⟩
   | false=>
     simp only [Bool.and_false,bA,if_false,if_true];have hs0:=((vg.alloc (dO (.slice al A.lo.length cl) (.slice ah A.hi.length ch) true)).alloc (dO (.slice bl B.lo.length dl) (.slice bh B.hi.length dh) false)).alloc (dO (.slice none 0 0) (.slice none 0 0) false)
     rw [show ((w.alloc (dO (.slice al A.lo.length cl) (.slice ah A.hi.length ch) true)).alloc (dO (.slice bl B.lo.length dl) (.slice bh B.hi.length dh) false)).heap.size=w.heap.size+1+1 by simp,show (w.alloc (dO (.slice al A.lo.length cl) (.slice ah A.hi.length ch) true)).heap.size=w.heap.size+1 by simp] at hs0
     have eR:=hQ ((((dN.refl w).alloc (dO (.slice al A.lo.length cl) (.slice ah A.hi.length ch) true)).alloc (dO (.slice bl B.lo.length dl) (.slice bh B.hi.length dh) false)).alloc (dO (.slice none 0 0) (.slice none 0 0) false));have jC:=hQ hs0;clear vg hs0;go_enter Tryz.func83,Tryz.ntmps83
     go_wp2_with fail
     have U1:=eR.af;have U2:=jC.af;clear eR jC;generalize ((w.alloc (dO (.slice al A.lo.length cl) (.slice ah A.hi.length ch) true)).alloc (dO (.slice bl B.lo.length dl) (.slice bh B.hi.length dh) false)).alloc (dO (.slice none 0 0) (.slice none 0 0) false)=w0 at*;generalize w.heap.size+1+1=BR at*;generalize w.heap.size+1=BB at*;generalize w.heap.size=BA at*;have eR:=hQ U1
     have jC:=hQ (U2.to (M:= [Pr.pts BR (dO (.slice none 0 0) (.slice none 0 0) false),Pr.pts BB (dO (.slice bl B.lo.length dl) (.slice bh B.hi.length dh) false),Pr.pts BA (dO (.slice al A.lo.length cl) (.slice ah A.hi.length ch) true),Pr.own h,F]));clear U1 U2
     go_cut [5] from 6 to 18 (fun t1 wx=> ∃(J:Nat) (ov:Value),t1= .pointer (some ⟨J,0,none⟩)∧dN w wx∧dS [Pr.pts J (dO ov (.slice none 0 0) false),dM ov (eY A.lo B.lo),Pr.pts BR (dO (.slice none 0 0) (.slice none 0 0) false),Pr.pts BB (dO (.slice bl B.lo.length dl) (.slice bh B.hi.length dh) false),Pr.pts BA (dO (.slice al A.lo.length cl) (.slice ah A.hi.length ch) true),Pr.own h,F] wx)
     case first=>
      have c1:=jC.af.fx;refine fS (sz:=42) (by kernel_rfl) [0,1,2,3,5,6] [(12,[],[0,1,2,3,5,6],[(4,[7,8,9,10,11],[0,2,5,6]),(13,[],[])]),(4,[7,8,9,10,11],[0,2,5,6],[(12,[],[0,2,5,6,7,8,9,10,11]),(13,[],[])])] rfl (by kernel_rfl) (by kernel_rfl) (by kernel_rfl) ?_;refine dY _ rfl rfl ?_;simp only [pick,pQ]
      iterate 6 (go_big_quiet_step (fail))
      refine wpQuiet_nil ?_;intro sx mR;rcases aR.1 mR with rfl | mR
      · have gp:=jC.af.drew.alloc (dO (.slice none 0 0) (.slice none 0 0) false)
        have V:=hQ (MO.af _ _ (gp.ej (A1:=Pr.own h)));have nQ:=hQ (eR.af.drew.alloc (dO (.slice none 0 0) (.slice none 0 0) false));clear gp;refine dK rfl ?_;go_wp2;refine dQ ?_;refine dU ⟨?_,?_⟩
        · exact cQ
        refine dK rfl ?_;go_wp2_with fail
        refine V.af.mono ?_;rintro e w5 ⟨ov,rfl,iL,gY⟩;have gA:=dS.mH gY;rw [show w0.drew.heap.size=w0.heap.size by simp] at gA;obtain⟨ao,co,rfl⟩:=Row.shape gY;clear c1;have c1:=gA.fx;have lu:=((gA.set w0.heap.size 0 (.slice ao (eY A.lo B.lo).length co)).set w0.heap.size 1 (.slice none 0 0)).set w0.heap.size 2 (.bool false)
        have kh:=hQ (And.intro (((((nQ.af.trans iL).setCell ⟨w0.heap.size,0,none⟩ (.slice ao (eY A.lo B.lo).length co)).setCell ⟨w0.heap.size,1,none⟩ (.slice none 0 0)).setCell ⟨w0.heap.size,2,none⟩ (.bool false))) lu);clear gY gA lu iL V nQ;go_wp2;refine dQ ?_;refine dY _ rfl rfl ?_;simp only [pick,pQ];iterate 5 (go_big_quiet_step (fail))
        refine wpQuiet_nil ⟨?_,?_⟩
        · exact cQ
        refine dK rfl ?_;go_wp2;refine dQ ?_;refine dU ⟨?_,?_⟩
        · exact eM
        refine dW ?_;go_wp2;go_meet
        exact⟨_,.slice ao (eY A.lo B.lo).length co,rfl,kh.af.1,kh.af.2.to⟩
      · cases aC.1 mR
        have V:=hQ (MO.af _ _ (jC.af.drew.ej (A1:=Pr.own h)));refine dK rfl ?_;go_wp2_with fail
        refine V.af.mono ?_;rintro e w5 ⟨ov,rfl,iL,gY⟩;have gA:=dS.mH gY;obtain⟨ao,co,rfl⟩:=Row.shape gY;clear c1;have c1:=gA.fx;have lu:=gA.alloc (dO (.slice ao (eY A.lo B.lo).length co) (.slice none 0 0) false)
        have kh:=hQ (And.intro ((eR.af.drew.trans iL).alloc (dO (.slice ao (eY A.lo B.lo).length co) (.slice none 0 0) false)) lu);clear gY gA lu iL V;go_wp2;refine dQ ?_;refine dY _ rfl rfl ?_;simp only [pick,pQ];iterate 5 (go_big_quiet_step (fail))
        refine wpQuiet_nil ⟨?_,?_⟩
        · exact cQ
        refine dK rfl ?_;go_wp2;refine dQ ?_;refine dU ⟨?_,?_⟩
        · exact cQ
        refine dK rfl ?_;go_wp2;refine dQ ?_;refine dU ⟨?_,?_⟩
        · exact eM
        refine dW ?_;go_wp2;go_meet
        exact⟨_,.slice ao (eY A.lo B.lo).length co,rfl,kh.af.1,kh.af.2.to⟩
     case rest=>
      obtain⟨J,ov,rfl,fN,hs1⟩:=hcut;obtain⟨ao,co,rfl⟩:=Row.shape (hs1.ej (A1:=dM ov (eY A.lo B.lo)));have eQ:=hQ fN;have ig:=hQ hs1;have c1:=hs1.fx;clear fN hs1 eR jC MO;have V:=hQ (FB.af _ _ (ig.af.ej (A1:=Pr.own h)));go_wp2_with fail
      refine V.af.mono ?_;rintro e w5 ⟨hv,rfl,iL,gY⟩;have gA:=dS.mH gY;obtain⟨ai,ci,rfl⟩:=Row.shape gY;clear c1;have c1:=gA.fx;have yh:=hQ gA;have pF:=hQ (eQ.af.trans iL);clear gY gA iL V ig eQ;go_wp2
      have h5:=(((yh.af.set J 1 (.slice ai (B.hi).length ci)).set BR 0 (.slice ao (eY A.lo B.lo).length co)).set BR 1 (.slice ai (B.hi).length ci)).set BR 2 (.bool false);have iM:=hQ ((((pF.af.setCell ⟨J,1,none⟩ (.slice ai (B.hi).length ci)).setCell ⟨BR,0,none⟩ (.slice ao (eY A.lo B.lo).length co)).setCell ⟨BR,1,none⟩ (.slice ai (B.hi).length ci)).setCell ⟨BR,2,none⟩ (.bool false))
      refine bodyPost_ret (results_cell_row rfl _ _ BR _ _ _ _ rfl (h5.pts BR).dL Tryz.underlying64 rfl kQ) rfl ?_
      obtain⟨h',ha,h6⟩:=(h5.jk (dM (.slice ao (eY A.lo B.lo).length co) (eY A.lo B.lo)) (dM (.slice ai (B.hi).length ci) (B.hi))).arena ((dM (.slice ao (eY A.lo B.lo).length co) (eY A.lo B.lo)).star (dM (.slice ai (B.hi).length ci) (B.hi)));obtain⟨p,q,hp,hq,s1,s2⟩:=fF ha
      exact⟨iM.af,h',_,rfl,⟨_,_,rfl,(iP hp).sub s1,(iP hq).sub s2⟩,(h6.to (M:= [Pr.own h',Pr.own h,F])).sat.perm (by simp only [eJ,Pr.ei])⟩
 | false=>
   cases XP:B.op with
   | true=>
     simp only [Bool.false_and,bA,if_false,if_true];have hs0:=((vg.alloc (dO (.slice al A.lo.length cl) (.slice ah A.hi.length ch) false)).alloc (dO (.slice bl B.lo.length dl) (.slice bh B.hi.length dh) true)).alloc (dO (.slice none 0 0) (.slice none 0 0) false)
     rw [show ((w.alloc (dO (.slice al A.lo.length cl) (.slice ah A.hi.length ch) false)).alloc (dO (.slice bl B.lo.length dl) (.slice bh B.hi.length dh) true)).heap.size=w.heap.size+1+1 by simp,show (w.alloc (dO (.slice al A.lo.length cl) (.slice ah A.hi.length ch) false)).heap.size=w.heap.size+1 by simp] at hs0
     have eR:=hQ ((((dN.refl w).alloc (dO (.slice al A.lo.length cl) (.slice ah A.hi.length ch) false)).alloc (dO (.slice bl B.lo.length dl) (.slice bh B.hi.length dh) true)).alloc (dO (.slice none 0 0) (.slice none 0 0) false));have jC:=hQ hs0;clear vg hs0;go_enter Tryz.func83,Tryz.ntmps83
     go_wp2_with fail
     have U1:=eR.af;have U2:=jC.af;clear eR jC;generalize ((w.alloc (dO (.slice al A.lo.length cl) (.slice ah A.hi.length ch) false)).alloc (dO (.slice bl B.lo.length dl) (.slice bh B.hi.length dh) true)).alloc (dO (.slice none 0 0) (.slice none 0 0) false)=w0 at*;generalize w.heap.size+1+1=BR at*;generalize w.heap.size+1=BB at*;generalize w.heap.size=BA at*;have eR:=hQ U1
     have jC:=hQ (U2.to (M:= [Pr.pts BR (dO (.slice none 0 0) (.slice none 0 0) false),Pr.pts BB (dO (.slice bl B.lo.length dl) (.slice bh B.hi.length dh) true),Pr.pts BA (dO (.slice al A.lo.length cl) (.slice ah A.hi.length ch) false),Pr.own h,F]));clear U1 U2
     go_cut [5] from 6 to 18 (fun t1 wx=> ∃(J:Nat) (ov:Value),t1= .pointer (some ⟨J,0,none⟩)∧dN w wx∧dS [Pr.pts J (dO ov (.slice none 0 0) false),dM ov (eY A.lo B.lo),Pr.pts BR (dO (.slice none 0 0) (.slice none 0 0) false),Pr.pts BB (dO (.slice bl B.lo.length dl) (.slice bh B.hi.length dh) true),Pr.pts BA (dO (.slice al A.lo.length cl) (.slice ah A.hi.length ch) false),Pr.own h,F] wx)
     case first=>
      have c1:=jC.af.fx;refine fS (sz:=42) (by kernel_rfl) [0,1,2,3,5,6] [(12,[],[0,1,2,3,5,6],[(4,[7,8,9,10,11],[0,2,5,6]),(13,[],[])]),(4,[7,8,9,10,11],[0,2,5,6],[(12,[],[0,2,5,6,7,8,9,10,11]),(13,[],[])])] rfl (by kernel_rfl) (by kernel_rfl) (by kernel_rfl) ?_;refine dY _ rfl rfl ?_;simp only [pick,pQ]
      iterate 6 (go_big_quiet_step (fail))
      refine wpQuiet_nil ?_;intro sx mR;rcases aR.1 mR with rfl | mR
      · have gp:=jC.af.drew.alloc (dO (.slice none 0 0) (.slice none 0 0) false)
        have V:=hQ (MO.af _ _ (gp.ej (A1:=Pr.own h)));have nQ:=hQ (eR.af.drew.alloc (dO (.slice none 0 0) (.slice none 0 0) false));clear gp;refine dK rfl ?_;go_wp2;refine dQ ?_;refine dU ⟨?_,?_⟩
        · exact cQ
        refine dK rfl ?_;go_wp2_with fail
        refine V.af.mono ?_;rintro e w5 ⟨ov,rfl,iL,gY⟩;have gA:=dS.mH gY;rw [show w0.drew.heap.size=w0.heap.size by simp] at gA;obtain⟨ao,co,rfl⟩:=Row.shape gY;clear c1;have c1:=gA.fx;have lu:=((gA.set w0.heap.size 0 (.slice ao (eY A.lo B.lo).length co)).set w0.heap.size 1 (.slice none 0 0)).set w0.heap.size 2 (.bool false)
        have kh:=hQ (And.intro (((((nQ.af.trans iL).setCell ⟨w0.heap.size,0,none⟩ (.slice ao (eY A.lo B.lo).length co)).setCell ⟨w0.heap.size,1,none⟩ (.slice none 0 0)).setCell ⟨w0.heap.size,2,none⟩ (.bool false))) lu);clear gY gA lu iL V nQ;go_wp2;refine dQ ?_;refine dY _ rfl rfl ?_;simp only [pick,pQ];iterate 5 (go_big_quiet_step (fail))
        refine wpQuiet_nil ⟨?_,?_⟩
        · exact cQ
        refine dK rfl ?_;go_wp2;refine dQ ?_;refine dU ⟨?_,?_⟩
        · exact eM
        refine dW ?_;go_wp2;go_meet
        exact⟨_,.slice ao (eY A.lo B.lo).length co,rfl,kh.af.1,kh.af.2.to⟩
      · cases aC.1 mR
        have V:=hQ (MO.af _ _ (jC.af.drew.ej (A1:=Pr.own h)));refine dK rfl ?_;go_wp2_with fail
        refine V.af.mono ?_;rintro e w5 ⟨ov,rfl,iL,gY⟩;have gA:=dS.mH gY;obtain⟨ao,co,rfl⟩:=Row.shape gY;clear c1;have c1:=gA.fx;have lu:=gA.alloc (dO (.slice ao (eY A.lo B.lo).length co) (.slice none 0 0) false)
        have kh:=hQ (And.intro ((eR.af.drew.trans iL).alloc (dO (.slice ao (eY A.lo B.lo).length co) (.slice none 0 0) false)) lu);clear gY gA lu iL V;go_wp2;refine dQ ?_;refine dY _ rfl rfl ?_;simp only [pick,pQ];iterate 5 (go_big_quiet_step (fail))
        refine wpQuiet_nil ⟨?_,?_⟩
        · exact cQ
        refine dK rfl ?_;go_wp2;refine dQ ?_;refine dU ⟨?_,?_⟩
        · exact cQ
        refine dK rfl ?_;go_wp2;refine dQ ?_;refine dU ⟨?_,?_⟩
        · exact eM
        refine dW ?_;go_wp2;go_meet
        exact⟨_,.slice ao (eY A.lo B.lo).length co,rfl,kh.af.1,kh.af.2.to⟩
     case rest=>
      obtain⟨J,ov,rfl,fN,hs1⟩:=hcut;obtain⟨ao,co,rfl⟩:=Row.shape (hs1.ej (A1:=dM ov (eY A.lo B.lo)));have eQ:=hQ fN;have ig:=hQ hs1;have c1:=hs1.fx;clear fN hs1 eR jC MO;have V:=hQ (FA.af _ _ (ig.af.ej (A1:=Pr.own h)));go_wp2_with fail
      refine V.af.mono ?_;rintro e w5 ⟨hv,rfl,iL,gY⟩;have gA:=dS.mH gY;obtain⟨ai,ci,rfl⟩:=Row.shape gY;clear c1;have c1:=gA.fx;have yh:=hQ gA;have pF:=hQ (eQ.af.trans iL);clear gY gA iL V ig eQ;go_wp2
      have h5:=(((yh.af.set J 1 (.slice ai (A.hi).length ci)).set BR 0 (.slice ao (eY A.lo B.lo).length co)).set BR 1 (.slice ai (A.hi).length ci)).set BR 2 (.bool false);have iM:=hQ ((((pF.af.setCell ⟨J,1,none⟩ (.slice ai (A.hi).length ci)).setCell ⟨BR,0,none⟩ (.slice ao (eY A.lo B.lo).length co)).setCell ⟨BR,1,none⟩ (.slice ai (A.hi).length ci)).setCell ⟨BR,2,none⟩ (.bool false))
      refine bodyPost_ret (results_cell_row rfl _ _ BR _ _ _ _ rfl (h5.pts BR).dL Tryz.underlying64 rfl kQ) rfl ?_
      obtain⟨h',ha,h6⟩:=(h5.jk (dM (.slice ao (eY A.lo B.lo).length co) (eY A.lo B.lo)) (dM (.slice ai (A.hi).length ci) (A.hi))).arena ((dM (.slice ao (eY A.lo B.lo).length co) (eY A.lo B.lo)).star (dM (.slice ai (A.hi).length ci) (A.hi)));obtain⟨p,q,hp,hq,s1,s2⟩:=fF ha
      exact⟨iM.af,h',_,rfl,⟨_,_,rfl,(iP hp).sub s1,(iP hq).sub s2⟩,(h6.to (M:= [Pr.own h',Pr.own h,F])).sat.perm (by simp only [eJ,Pr.ei])⟩
   | false=>
     simp only [Bool.false_and,bA,if_false];have hs0:=((vg.alloc (dO (.slice al A.lo.length cl) (.slice ah A.hi.length ch) false)).alloc (dO (.slice bl B.lo.length dl) (.slice bh B.hi.length dh) false)).alloc (dO (.slice none 0 0) (.slice none 0 0) false)
     rw [show ((w.alloc (dO (.slice al A.lo.length cl) (.slice ah A.hi.length ch) false)).alloc (dO (.slice bl B.lo.length dl) (.slice bh B.hi.length dh) false)).heap.size=w.heap.size+1+1 by simp,show (w.alloc (dO (.slice al A.lo.length cl) (.slice ah A.hi.length ch) false)).heap.size=w.heap.size+1 by simp] at hs0
     have eR:=hQ ((((dN.refl w).alloc (dO (.slice al A.lo.length cl) (.slice ah A.hi.length ch) false)).alloc (dO (.slice bl B.lo.length dl) (.slice bh B.hi.length dh) false)).alloc (dO (.slice none 0 0) (.slice none 0 0) false));have jC:=hQ hs0;clear vg hs0;go_enter Tryz.func83,Tryz.ntmps83
     go_wp2_with fail
     have U1:=eR.af;have U2:=jC.af;clear eR jC;generalize ((w.alloc (dO (.slice al A.lo.length cl) (.slice ah A.hi.length ch) false)).alloc (dO (.slice bl B.lo.length dl) (.slice bh B.hi.length dh) false)).alloc (dO (.slice none 0 0) (.slice none 0 0) false)=w0 at*;generalize w.heap.size+1+1=BR at*;generalize w.heap.size+1=BB at*;generalize w.heap.size=BA at*;have eR:=hQ U1
     have jC:=hQ (U2.to (M:= [Pr.pts BR (dO (.slice none 0 0) (.slice none 0 0) false),Pr.pts BB (dO (.slice bl B.lo.length dl) (.slice bh B.hi.length dh) false),Pr.pts BA (dO (.slice al A.lo.length cl) (.slice ah A.hi.length ch) false),Pr.own h,F]));clear U1 U2
     go_cut [5] from 6 to 18 (fun t1 wx=> ∃(J:Nat) (ov:Value),t1= .pointer (some ⟨J,0,none⟩)∧dN w wx∧dS [Pr.pts J (dO ov (.slice none 0 0) false),dM ov (eY A.lo B.lo),Pr.pts BR (dO (.slice none 0 0) (.slice none 0 0) false),Pr.pts BB (dO (.slice bl B.lo.length dl) (.slice bh B.hi.length dh) false),Pr.pts BA (dO (.slice al A.lo.length cl) (.slice ah A.hi.length ch) false),Pr.own h,F] wx)
     case first=>
      have c1:=jC.af.fx;refine fS (sz:=42) (by kernel_rfl) [0,1,2,3,5,6] [(12,[],[0,1,2,3,5,6],[(4,[7,8,9,10,11],[0,2,5,6]),(13,[],[])]),(4,[7,8,9,10,11],[0,2,5,6],[(12,[],[0,2,5,6,7,8,9,10,11]),(13,[],[])])] rfl (by kernel_rfl) (by kernel_rfl) (by kernel_rfl) ?_;refine dY _ rfl rfl ?_;simp only [pick,pQ]
      iterate 6 (go_big_quiet_step (fail))
      refine wpQuiet_nil ?_;intro sx mR;rcases aR.1 mR with rfl | mR
      · have gp:=jC.af.drew.alloc (dO (.slice none 0 0) (.slice none 0 0) false)
        have V:=hQ (MO.af _ _ (gp.ej (A1:=Pr.own h)));have nQ:=hQ (eR.af.drew.alloc (dO (.slice none 0 0) (.slice none 0 0) false));clear gp;refine dK rfl ?_;go_wp2;refine dQ ?_;refine dU ⟨?_,?_⟩
        · exact cQ
        refine dK rfl ?_;go_wp2_with fail
        refine V.af.mono ?_;rintro e w5 ⟨ov,rfl,iL,gY⟩;have gA:=dS.mH gY;rw [show w0.drew.heap.size=w0.heap.size by simp] at gA;obtain⟨ao,co,rfl⟩:=Row.shape gY;clear c1;have c1:=gA.fx;have lu:=((gA.set w0.heap.size 0 (.slice ao (eY A.lo B.lo).length co)).set w0.heap.size 1 (.slice none 0 0)).set w0.heap.size 2 (.bool false)
        have kh:=hQ (And.intro (((((nQ.af.trans iL).setCell ⟨w0.heap.size,0,none⟩ (.slice ao (eY A.lo B.lo).length co)).setCell ⟨w0.heap.size,1,none⟩ (.slice none 0 0)).setCell ⟨w0.heap.size,2,none⟩ (.bool false))) lu);clear gY gA lu iL V nQ;go_wp2;refine dQ ?_;refine dY _ rfl rfl ?_;simp only [pick,pQ];iterate 5 (go_big_quiet_step (fail))
        refine wpQuiet_nil ⟨?_,?_⟩
        · exact cQ
        refine dK rfl ?_;go_wp2;refine dQ ?_;refine dU ⟨?_,?_⟩
        · exact eM
        refine dW ?_;go_wp2;go_meet
        exact⟨_,.slice ao (eY A.lo B.lo).length co,rfl,kh.af.1,kh.af.2.to⟩
      · cases aC.1 mR
        have V:=hQ (MO.af _ _ (jC.af.drew.ej (A1:=Pr.own h)));refine dK rfl ?_;go_wp2_with fail
        refine V.af.mono ?_;rintro e w5 ⟨ov,rfl,iL,gY⟩;have gA:=dS.mH gY;obtain⟨ao,co,rfl⟩:=Row.shape gY;clear c1;have c1:=gA.fx;have lu:=gA.alloc (dO (.slice ao (eY A.lo B.lo).length co) (.slice none 0 0) false)
        have kh:=hQ (And.intro ((eR.af.drew.trans iL).alloc (dO (.slice ao (eY A.lo B.lo).length co) (.slice none 0 0) false)) lu);clear gY gA lu iL V;go_wp2;refine dQ ?_;refine dY _ rfl rfl ?_;simp only [pick,pQ];iterate 5 (go_big_quiet_step (fail))
        refine wpQuiet_nil ⟨?_,?_⟩
        · exact cQ
        refine dK rfl ?_;go_wp2;refine dQ ?_;refine dU ⟨?_,?_⟩
        · exact cQ
        refine dK rfl ?_;go_wp2;refine dQ ?_;refine dU ⟨?_,?_⟩
        · exact eM
        refine dW ?_;go_wp2;go_meet
        exact⟨_,.slice ao (eY A.lo B.lo).length co,rfl,kh.af.1,kh.af.2.to⟩
     case rest=>
      obtain⟨J,ov,rfl,fN,hs1⟩:=hcut;obtain⟨ao,co,rfl⟩:=Row.shape (hs1.ej (A1:=dM ov (eY A.lo B.lo)));have eQ:=hQ fN;have ig:=hQ hs1;have c1:=hs1.fx;clear fN hs1 eR jC MO;have V:=hQ (LE.af _ _ (ig.af.ej (A1:=Pr.own h)));go_wp2_with fail
      refine V.af.mono ?_;rintro e w5 ⟨hv,rfl,iL,gY⟩;have gA:=dS.mH gY;obtain⟨ai,ci,rfl⟩:=Row.shape gY;clear c1;have c1:=gA.fx;have yh:=hQ gA;have pF:=hQ (eQ.af.trans iL);clear gY gA iL V ig eQ;go_wp2
      have h5:=(((yh.af.set J 1 (.slice ai (ji A.hi B.hi).length ci)).set BR 0 (.slice ao (eY A.lo B.lo).length co)).set BR 1 (.slice ai (ji A.hi B.hi).length ci)).set BR 2 (.bool false)
      have iM:=hQ ((((pF.af.setCell ⟨J,1,none⟩ (.slice ai (ji A.hi B.hi).length ci)).setCell ⟨BR,0,none⟩ (.slice ao (eY A.lo B.lo).length co)).setCell ⟨BR,1,none⟩ (.slice ai (ji A.hi B.hi).length ci)).setCell ⟨BR,2,none⟩ (.bool false));refine bodyPost_ret (results_cell_row rfl _ _ BR _ _ _ _ rfl (h5.pts BR).dL Tryz.underlying64 rfl kQ) rfl ?_
      obtain⟨h',ha,h6⟩:=(h5.jk (dM (.slice ao (eY A.lo B.lo).length co) (eY A.lo B.lo)) (dM (.slice ai (ji A.hi B.hi).length ci) (ji A.hi B.hi))).arena ((dM (.slice ao (eY A.lo B.lo).length co) (eY A.lo B.lo)).star (dM (.slice ai (ji A.hi B.hi).length ci) (ji A.hi B.hi)));obtain⟨p,q,hp,hq,s1,s2⟩:=fF ha
      exact⟨iM.af,h',_,rfl,⟨_,_,rfl,(iP hp).sub s1,(iP hq).sub s2⟩,(h6.to (M:= [Pr.own h',Pr.own h,F])).sat.perm (by simp only [eJ,Pr.ei])⟩
end Go.Proofs.YtiegeadmgpanoaaGreatDoor.D2
namespace Go.fB
theorem Jm(key:List Int)(l:List en)(k:Nat)(hk:k<l.length):pE key (l.drop k)=if 0<eX (d5 l k).key key then 0 else pE key (l.drop (k+1))+1:=by
 rw [aQ hk, ← gn hk];rfl
end Go.fB
namespace Go.Proofs.YtiegeadmgpanoaaGreatDoor.D2
open ChangeShapes WideShapes ChangeAt RowKit Sl fB L3 Z3 E4 X5
theorem F9 {ops:Array Oper}{rest:List Oper}{o:Oper}{ac:Act}{Q:Exit→Act→World→Prop}{w:World}(hgd:o.guard=none)(x y:Operand)(hop:o.op= .call { callee:= .builtin .max,args:= #[x,y],argTypes:= #[3,3] })
 (hty:o.type=3) (a b n:Int) (hn:n=max a b) (hx:ac.eval x= .int .i64 a) (hy:ac.eval y= .int .i64 b) (hK:wpList Tryz.prog ops Q rest (ac.put o.dst (.int .i64 n)) w):wpList Tryz.prog ops Q (o :: rest) ac w:=by
 refine wpList_plain hgd fun K' hK'=> ?_
 subst hn;unfold Oper.wp execOp;simp only [hop,resolve,invoke,builtin,Sem.run_bind,Sem.run_pure,Result.andThen_ok,cT,aT,aZ,hx,hy,hty];by_cases h:a<b
 · have e:max a b=b:=by omega
   rw [e] at hK;go_simp;exact hK' _ _ hK
 · have e:max a b=a:=by omega
   rw [e] at hK;go_simp;exact hK' _ _ hK
theorem Jn(ha hb:Hp)(pv kv:Value)(g:dR)(hp:fV ha pv g)(hfit:Fit g)(wC:∀x∈g.items,U8 x.key)(key:List Int)(hk:Bytes hb kv key)(uk:U8 key)(w:World)(la:ha.le w)(lb:hb.le w):
 Calls Tryz.prog 55 #[pv,kv] w fun e w'=>e= .returned (.int .i64 (ku g.items key))∧eV w w':=by
 obtain⟨vi,vd,rfl,hit,hb'⟩:=hp;obtain⟨iE,iF,rfl⟩:=eB hb';obtain⟨iG,gX,rfl,_,rd⟩:=fL hit;obtain⟨XQ,XR,rfl⟩:=eB hk;have Hf:(g.items.length:Int)≤8:=by have:=hfit.n;omega
 have HH:=hQ (And.intro hk (And.intro uk (And.intro wC hfit)));have RD:=hQ rd;have HL:=hQ (And.intro la lb);clear rd hit hb' hk uk wC hfit la lb;have HA:=hQ (HL.af.1.only ((eV.refl w).alloc (dV g.kind g.level (.slice iG g.items.length gX) (.slice iE g.data.length iF) g.next)))
 have HB:=hQ (HL.af.2.only ((eV.refl w).alloc (dV g.kind g.level (.slice iG g.items.length gX) (.slice iE g.data.length iF) g.next)));have HO:=hQ ((eV.refl w).alloc (dV g.kind g.level (.slice iG g.items.length gX) (.slice iE g.data.length iF) g.next))
 have c0:(w.alloc (dV g.kind g.level (.slice iG g.items.length gX) (.slice iE g.data.length iF) g.next)).cell? ⟨w.heap.size,2,none⟩=some (.slice iG g.items.length gX):=by simp
 go_enter Tryz.func55,Tryz.ntmps55
 go_wp2;generalize Kd:w.alloc (dV g.kind g.level (.slice iG g.items.length gX) (.slice iE g.data.length iF) g.next)=w1 at*;have FC:=hQ (fun(wr:World) (ho:eV w1 wr)=>(ho.cell c0:wr.cell? ⟨w.heap.size,2,none⟩=some (.slice iG g.items.length gX)));clear c0 Kd;generalize w.heap.size=J at*
 go_loopw [5] (fun t wr=> ∃k:Nat,1≤k∧(k≤g.items.length∨k=1)∧t= .int .i64 k∧eV w1 wr∧Hid (ku g.items key=(k-1)+pE key (g.items.drop k))) (fun t _=>g.items.length+1-(intOf t).toNat)
 case atStart=>exact⟨1,aD _,.inr rfl,rfl,eV.refl _,hQ (by unfold ku;rw [← List.drop_one];omega)⟩
 case round=>
  obtain⟨k,hk1,hk2,rfl,ho,heq⟩:=hrel;rename World=>wr
  have c0:=FC.af wr ho;have cz:=ay _ _ c0;simp only at cz;rcases aB k g.items.length with hlt | hge
  · obtain⟨b,off,ak,ck,av,cv,rfl,hbk,_,hc⟩:=RD.af k hlt
    obtain⟨d0,_,_,_⟩:=hc wr (HA.af.only ho);have dz:=ay _ _ d0;simp only at dz;rw [← gn hlt] at hbk d0;have BC:=hQ (jV ha hb _ _ (d5 g.items k).key key hbk HH.af.1 (HH.af.2.2.1 _ (jF hlt)) HH.af.2.1 wr (HA.af.only ho) (HB.af.only ho));have uo:=hQ (heq.af.trans (by rw [Jm key g.items k hlt]));have C5:=hQ ho
    have hkl:(k:Int)<(g.items.length:Int):=by omega
    clear hbk hc heq ho hk2;generalize d5 g.items k=y at*;by_cases LW:0<eX y.key key
    · have HQ:=hQ (uo.af.trans (by rw [if_pos LW]))
      go_wp2_with fail
      refine BC.af.mono ?_;rintro e w2 ⟨rfl,rfl⟩;go_wp2;go_ret;rw [HQ.af];exact⟨congrArg (fun z=>Ending.returned (Value.int .i64 z)) (by omega),HO.af.trans C5.af⟩
    · have HQ:=hQ (uo.af.trans (by rw [if_neg LW]))
      go_wp2_with fail
      refine BC.af.mono ?_;rintro e w2 ⟨rfl,rfl⟩;go_wp2;go_roundw
      case rel=>exact⟨k+1,by omega,.inl (by omega),congrArg (Value.int .i64) (by omega),C5.af,hQ (by rw [HQ.af];omega)⟩
      case measure=>simp [intOf];omega
  · obtain⟨m,hm⟩:∃m,m=max ((g.items.length:Int)-1) 0:=⟨_,rfl⟩
    have HQ:=hQ (show ((ku g.items key:Nat):Int)=m from by
     rw [heq.af,cy hge]
     show (((k-1)+0:Nat):Int)=m
     omega)
    have HM:=hQ hm;have C5:=hQ ho;have hkl:¬(k:Int)<(g.items.length:Int):=by omega
    clear hm heq ho hk2;go_wp2_with (refine F9 rfl _ _ rfl rfl ((g.items.length:Int)-1) 0 m HM.af rfl rfl ?_)
    go_ret;rw [HQ.af];exact⟨rfl,HO.af.trans C5.af⟩
end Go.Proofs.YtiegeadmgpanoaaGreatDoor.D2
namespace Go.fB
theorem Dx(key:List Int)(l:List en)(k:Nat)(hk:k<l.length):i_ key (l.drop k)=if 0≤eX (d5 l k).key key then(0,eX (d5 l k).key key == 0) else((i_ key (l.drop (k+1))).1+1,(i_ key (l.drop (k+1))).2):=by
 rw [aQ hk, ← gn hk];rfl
end Go.fB
namespace Go.Proofs.YtiegeadmgpanoaaGreatDoor.D2
open ChangeShapes WideShapes ChangeAt RowKit Sl fB L3 Z3 E4 X5
theorem F_(ha hb:Hp)(pv kv:Value)(g:dR)(hp:fV ha pv g)(hfit:Fit g)(wC:∀x∈g.items,U8 x.key)(key:List Int)(hk:Bytes hb kv key)(uk:U8 key)(w:World)(la:ha.le w)(lb:hb.le w):
 Calls Tryz.prog 49 #[pv,kv] w fun e w'=>e= .returned (.tuple #[.int .i64 (i_ key g.items).1,.bool (i_ key g.items).2])∧eV w w':=by
 obtain⟨vi,vd,rfl,hit,hb'⟩:=hp;obtain⟨iE,iF,rfl⟩:=eB hb';obtain⟨iG,gX,rfl,_,rd⟩:=fL hit;obtain⟨XQ,XR,rfl⟩:=eB hk;have Hf:(g.items.length:Int)≤8:=by have:=hfit.n;omega
 have HH:=hQ (And.intro hk (And.intro uk (And.intro wC hfit)));have RD:=hQ rd;have HL:=hQ (And.intro la lb);clear rd hit hb' hk uk wC hfit la lb;have HA:=hQ (HL.af.1.only ((eV.refl w).alloc (dV g.kind g.level (.slice iG g.items.length gX) (.slice iE g.data.length iF) g.next)))
 have HB:=hQ (HL.af.2.only ((eV.refl w).alloc (dV g.kind g.level (.slice iG g.items.length gX) (.slice iE g.data.length iF) g.next)));have HO:=hQ ((eV.refl w).alloc (dV g.kind g.level (.slice iG g.items.length gX) (.slice iE g.data.length iF) g.next))
 have c0:(w.alloc (dV g.kind g.level (.slice iG g.items.length gX) (.slice iE g.data.length iF) g.next)).cell? ⟨w.heap.size,2,none⟩=some (.slice iG g.items.length gX):=by simp
 go_enter Tryz.func49,Tryz.ntmps49
 go_wp2;generalize Kd:w.alloc (dV g.kind g.level (.slice iG g.items.length gX) (.slice iE g.data.length iF) g.next)=w1 at*;have FC:=hQ (fun(wr:World) (ho:eV w1 wr)=>(ho.cell c0:wr.cell? ⟨w.heap.size,2,none⟩=some (.slice iG g.items.length gX)));clear c0 Kd;generalize w.heap.size=J at*
 go_loopw [12] (fun t wr=> ∃k:Nat,k≤g.items.length∧t= .int .i64 k∧eV w1 wr∧Hid (i_ key g.items=(k+(i_ key (g.items.drop k)).1,(i_ key (g.items.drop k)).2))) (fun t _=>g.items.length-(intOf t).toNat)
 case atStart=>exact⟨0,aG _,rfl,eV.refl _,hQ (by rw [cH,Nat.zero_add])⟩
 case round=>
  obtain⟨k,hk2,rfl,ho,heq⟩:=hrel;rename World=>wr
  have c0:=FC.af wr ho;have cz:=ay _ _ c0;simp only at cz;rcases aB k g.items.length with hlt | hge
  · obtain⟨b,off,ak,ck,av,cv,rfl,hbk,_,hc⟩:=RD.af k hlt
    obtain⟨d0,d1,d2,d3⟩:=hc wr (HA.af.only ho);have dz:=ay _ _ d0;simp only at dz;rw [← gn hlt] at hbk d0 d1 d2 d3;have uo:=hQ (heq.af.trans (by rw [Dx key g.items k hlt]));have hkl:(k:Int)<(g.items.length:Int):=by omega
    have uy:=HH.af.2.2.1 _ (jF hlt);generalize d5 g.items k=y at*
    have BC:=hQ (jV ha hb _ _ y.key key hbk HH.af.1 uy HH.af.2.1 _ ((HA.af.only ho).only ((eV.refl wr).alloc (.cells #[.slice ak y.key.length ck,.slice av y.value.length cv,.int .i64 y.child,.int .i64 y.size] 89))) ((HB.af.only ho).only ((eV.refl wr).alloc (.cells #[.slice ak y.key.length ck,.slice av y.value.length cv,.int .i64 y.child,.int .i64 y.size] 89))))
    have C5:=hQ (ho.alloc (.cells #[.slice ak y.key.length ck,.slice av y.value.length cv,.int .i64 y.child,.int .i64 y.size] 89));clear hbk hc heq ho hk2 uy;generalize eX y.key key=q at*;by_cases LW:0≤q
    · have HQ:=hQ (uo.af.trans (by rw [if_pos LW]))
      go_wp2_with fail
      refine BC.af.mono ?_;rintro e w2 ⟨rfl,rfl⟩;go_wp2;go_ret2;rw [HQ.af];exact⟨by simp,HO.af.trans C5.af⟩
    · have HQ:=hQ (uo.af.trans (by rw [if_neg LW]))
      go_wp2_with fail
      refine BC.af.mono ?_;rintro e w2 ⟨rfl,rfl⟩;go_wp2;go_roundw
      case rel=>exact⟨k+1,by omega,congrArg (Value.int .i64) (by omega),C5.af,hQ (by rw [HQ.af];exact congrArg (fun z=>(z,_)) (by omega))⟩
      case measure=>simp [intOf];omega
  · have hke:k=g.items.length:=by omega
    have HQ:=hQ (show i_ key g.items=(g.items.length,false) from by
     rw [heq.af,cy hge,hke]
     rfl)
    have C5:=hQ ho;clear heq ho hk2;subst hke;go_wp2;go_ret2;rw [HQ.af];exact⟨rfl,HO.af.trans C5.af⟩
end Go.Proofs.YtiegeadmgpanoaaGreatDoor.D2
namespace Go.fB
def jJ(k:List Int):Nat→Nat
 | 0=>0
 | n+1=>if k.getD n 0=255 then jJ k n else n+1
theorem Dy(k:List Int):∀n,jJ k n≤n
 | 0=>aD _
 | n+1=>by
   unfold jJ;split
   · exact Nat.le_succ_of_le (Dy k n)
   · exact aD _
end Go.fB
namespace Go.Proofs.YtiegeadmgpanoaaGreatDoor.D2
open ChangeShapes WideShapes ChangeAt RowKit Sl fB L3 X5
theorem LX(h:Hp)(a:Option Addr)(k:List Int)(c:Nat)(hk:Bytes h (.slice a k.length c) k)(nk:k.length≤140737488355328)(w:World)(hle:h.le w):
 Calls Tryz.prog 159 #[.slice a k.length c] w fun e w'=>e= .returned (.slice a (jJ k k.length) (jJ k k.length))∧eV w w':=by
 have hkc:(k.length:Int)≤(c:Int):=by
  obtain⟨_,_,_,e,h1,_⟩:=id hk;cases e;omega
 obtain⟨a',c',e,rd⟩:=eL hk;cases e;have RD:=hQ rd;have vC:=hQ hle;clear rd hk hle;go_enter Tryz.func159,Tryz.ntmps159
 go_wp2;go_loopw [3] (fun t wr=> ∃n:Nat,n≤k.length∧t= .int .i64 n∧eV w wr∧Hid (jJ k k.length=jJ k n)) (fun t _=>(intOf t).toNat)
 case atStart=>exact⟨k.length,aD _,rfl,eV.refl _,hQ rfl⟩
 case round=>
  obtain⟨n,hn,rfl,ho,heq⟩:=hrel;have HO:=hQ ho;cases n with
  | zero=>
    have HQ:=hQ (heq.af.trans (show jJ k 0=0 from rfl));clear heq ho;go_wp2;go_ret;rw [HQ.af];exact⟨rfl,HO.af⟩
  | succ m=>
    obtain⟨b,off,rfl,hc⟩:=RD.af m (by omega);have d0:=hc wr (vC.af.only ho);have RV:((m+1:Nat):Int)=(m:Int)+1:=by omega
    have Px:(m:Int)+1≤(c:Int):=by omega
    have aam:(0:Int)≤(m:Int)+1:=by omega
    have Qt:(m:Int)<(k.length:Int):=by omega
    rw [RV];clear ho hc RV;by_cases Jo:k.getD m 0=255
    · have HQ:=hQ (heq.af.trans (show jJ k (m+1)=jJ k m from if_pos Jo))
      rw [Jo] at d0;clear heq Jo;go_wp2;go_roundw
      case rel=>exact⟨m,by omega,congrArg (Value.int .i64) (by omega),HO.af,HQ⟩
      case measure=>simp [intOf]
    · have HQ:=hQ (heq.af.trans (show jJ k (m+1)=m+1 from if_neg Jo))
      have hb:(k.getD m 0 == 255)=false:=by rw [beq_eq_false_iff_ne];exact Jo
      clear heq Jo;generalize k.getD m 0=q at*;go_wp2;go_ret;rw [HQ.af];exact⟨rfl,HO.af⟩
end Go.Proofs.YtiegeadmgpanoaaGreatDoor.D2
