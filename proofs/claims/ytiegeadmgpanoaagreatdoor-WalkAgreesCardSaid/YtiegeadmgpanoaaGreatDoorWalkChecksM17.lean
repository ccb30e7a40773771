/- The program's isKey, Has and Meet of ranges; the conditions stand as hypotheses. -/
import Derived.Test.YtiegeadmgpanoaaGreatDoorWalkChecksM15
import Derived.Test.YtiegeadmgpanoaaGreatDoorWalkChecksM03
import Derived.Test.YtiegeadmgpanoaaGreatDoorWalkChecksM13
import Derived.Deep.CutRange
import Derived.Test.YtiegeadmgpanoaaGreatDoorWalkChecksM11
import Derived.Test.YtiegeadmgpanoaaGreatDoorWalkChecksM05
import Derived.Test.YtiegeadmgpanoaaGreatDoorWalkChecksM01
set_option maxRecDepth 100000
set_option maxHeartbeats 16000000
namespace Go.Proofs.YtiegeadmgpanoaaGreatDoor.S5
open ChangeShapes WideShapes ChangeAt RowKit Sl Cop F3 G2 J2 N2 P2 Q4 M5 N5
abbrev rangeC(lo hi:Value)(op:Bool):Obj:= .cells #[lo,hi,.bool op] 64
theorem bcompare_only(ha hb:Hp)(va vb:Value)(A B:List Int)(h1:Bytes ha va A)(h2:Bytes hb vb B)(u1:U8 A)(u2:U8 B)(w:World)(l1:ha.le w)(l2:hb.le w):
 Calls Tryz.prog 89 #[va,vb] w fun e w'=>e= .returned (.int .i64 (cmpI A B))∧Only w w':=
 (bcompare_any ha hb va vb A B h1 h2 u1 u2 w l1 l2).mono fun _ _ ⟨h1,h2⟩=>⟨h1,h2 ▸ Only.refl _⟩
theorem sizeRange:(Tryz.prog.info? 64).map (·.size)=some 3:=by kernel_rfl
theorem iskey_any(a:Option Addr)(n c:Nat)(hn:n≤140737488355328)(w:World):
 Calls Tryz.prog 132 #[.slice a n c] w fun e w'=>e= .returned (.bool (decide (1≤n∧n≤24)))∧w=w':=by
 have hn2:(n:Int)≤140737488355328:=by omega
 by_cases h1:1≤n
 · have e1:(1:Int)≤(n:Int):=by omega
   by_cases h2:n≤24
   · have e2:(n:Int)≤24:=by omega
     rw [decide_eq_true (⟨h1,h2⟩:1≤n∧n≤24)];clear h1 h2;go_enter Tryz.func132,Tryz.ntmps132
     go_wp2;go_ret;exact⟨rfl,rfl⟩
   · have e2:¬(n:Int)≤24:=by omega
     rw [decide_eq_false (fun h:1≤n∧n≤24=>h2 h.2)];clear h1 h2;go_enter Tryz.func132,Tryz.ntmps132
     go_wp2;go_ret;exact⟨rfl,rfl⟩
 · have e1:¬(1:Int)≤(n:Int):=by omega
   rw [decide_eq_false (fun h:1≤n∧n≤24=>h1 h.1)];clear h1;go_enter Tryz.func132,Tryz.ntmps132
   go_wp2;go_ret;exact⟨rfl,rfl⟩
theorem has_any(h:Hp)(rv kv:Value)(r:RangeV)(k:List Int)(hr:RangeIn h rv r)(hk:Bytes h kv k)(ur:RU8 r)(uk:U8 k)(nk:k.length≤140737488355328)(w:World)(hle:h.le w):
 Calls Tryz.prog 94 #[rv,kv] w fun e w'=>e= .returned (.bool (hasR r k))∧Only w w':=by
 obtain⟨lo,hi,rfl,hlo,hhi⟩:=hr;obtain⟨al,cl,rfl,_⟩:=bytes_rd hlo;obtain⟨ah,ch,rfl,_⟩:=bytes_rd hhi;obtain⟨ak,ck,rfl,_⟩:=bytes_rd hk;have o1:Only w (w.alloc (rangeC (.slice al r.lo.length cl) (.slice ah r.hi.length ch) r.op)):=(Only.refl w).alloc _;have le1:=hle.only o1;have hs0:=(OwnL.in0 (sat_heap w)).alloc (rangeC (.slice al r.lo.length cl) (.slice ah r.hi.length ch) r.op)
 have IK:=hQ (iskey_any ak k.length ck nk (w.alloc (rangeC (.slice al r.lo.length cl) (.slice ah r.hi.length ch) r.op)));have C1:=hQ (bcompare_only h h _ _ k r.lo hk hlo uk ur.lo _ le1 le1);have C2:=hQ (fun(wx:World) (hx:h.le wx)=>bcompare_only h h _ _ k r.hi hk hhi uk ur.hi wx hx hx);have HO:=hQ o1;have HLE:=hQ le1;have HS:=hQ hs0
 have HV:hasR r k=(decide (1≤k.length∧k.length≤24) && (decide (0≤cmpI k r.lo) && (r.op || decide (cmpI k r.hi<0)))):=rfl;rw [HV];have c1:=hs0.facts;simp only [CellsAt,Nat.reduceAdd,and_true] at c1;clear hlo hhi hk hle o1 le1 hs0 HV nk;generalize k.length=nk at*;generalize r.lo.length=nl at*;generalize r.hi.length=nh at*;generalize cmpI k r.lo=q1 at*;generalize cmpI k r.hi=q2 at*
 generalize r.op=op at*;by_cases h1:1≤nk∧nk≤24
 · rw [decide_eq_true h1] at IK ⊢
   clear h1;by_cases h2:0≤q1
   · rw [decide_eq_true h2]
     cases op with
     | true=>
       go_enter Tryz.func94,Tryz.ntmps94
       go_wp2_with fail
       refine IK.out.mono ?_;rintro e w1 ⟨rfl,rfl⟩;go_wp2_with fail
       refine C1.out.mono ?_;rintro e w2 ⟨rfl,ho⟩;have hs2:=HS.out.ext ho.heap;have HO2:=hQ (HO.out.trans ho);clear c1;have c1:=hs2.facts;simp only [CellsAt,Nat.reduceAdd,and_true] at c1;clear hs2 ho;go_wp2;go_ret;exact⟨rfl,HO2.out⟩
     | false=>
       simp only [Bool.true_and,Bool.false_or];go_enter Tryz.func94,Tryz.ntmps94
       go_wp2_with fail
       refine IK.out.mono ?_;rintro e w1 ⟨rfl,rfl⟩;go_wp2_with fail
       refine C1.out.mono ?_;rintro e w2 ⟨rfl,ho⟩;have hs2:=HS.out.ext ho.heap;have C3:=hQ (C2.out w2 (HLE.out.only ho));have HO2:=hQ (HO.out.trans ho);clear c1;have c1:=hs2.facts;simp only [CellsAt,Nat.reduceAdd,and_true] at c1;clear hs2 ho;go_wp2_with fail
       refine C3.out.mono ?_;rintro e w3 ⟨rfl,ho3⟩;have HO3:=hQ (HO2.out.trans ho3);clear ho3;go_wp2;go_ret;exact⟨rfl,HO3.out⟩
   · rw [decide_eq_false h2]
     go_enter Tryz.func94,Tryz.ntmps94
     go_wp2_with fail
     refine IK.out.mono ?_;rintro e w1 ⟨rfl,rfl⟩;go_wp2_with fail
     refine C1.out.mono ?_;rintro e w2 ⟨rfl,ho⟩;have HO2:=hQ (HO.out.trans ho);clear ho;go_wp2;go_ret;exact⟨rfl,HO2.out⟩
 · rw [decide_eq_false h1] at IK ⊢
   clear h1;go_enter Tryz.func94,Tryz.ntmps94
   go_wp2_with fail
   refine IK.out.mono ?_;rintro e w1 ⟨rfl,rfl⟩;go_wp2;go_ret;exact⟨rfl,HO.out⟩
theorem row_bytes {v:Value}{l:List Int}{h:Hp}(hr:BytesRow v l h):Bytes h v l:=Row.rowIn hr
theorem meet_any(h:Hp)(ra rb:Value)(A B:RangeV)(hA:RangeIn h ra A)(hB:RangeIn h rb B)(uA:RU8 A)(uB:RU8 B)(nA:RLen 140737488355000 A)(nB:RLen 140737488355000 B)(F:Pr)(w:World)(hF:Sat ((Pr.own h).star F) w):
 Calls Tryz.prog 83 #[ra,rb] w fun e w'=>Stays w w'∧∃h' rv,e= .returned rv∧RangeIn h' rv (meetR A B)∧Sat ((Pr.own h').star ((Pr.own h).star F)) w':=by
 obtain⟨la,ha,rfl,hla,hha⟩:=hA;obtain⟨lb,hb,rfl,hlb,hhb⟩:=hB;obtain⟨al,cl,rfl,_⟩:=bytes_rd hla;obtain⟨ah,ch,rfl,_⟩:=bytes_rd hha;obtain⟨bl,dl,rfl,_⟩:=bytes_rd hlb;obtain⟨bh,dh,rfl,_⟩:=bytes_rd hhb;have MO:=hQ (fun(G:Pr) (wx:World) hF=>more_any h _ _ A.lo B.lo hla hlb uA.lo uB.lo nA.lo nB.lo G wx hF)
 have LE:=hQ (fun(G:Pr) (wx:World) hF=>less_any h _ _ A.hi B.hi hha hhb uA.hi uB.hi nA.hi nB.hi G wx hF);have FA:=hQ (fun(G:Pr) (wx:World) hF=>fresh_any h _ A.hi hha nA.hi G wx hF);have FB:=hQ (fun(G:Pr) (wx:World) hF=>fresh_any h _ B.hi hhb nB.hi G wx hF);have hF1:=OwnL.in1 hF;unfold meetR;clear hF hla hha hlb hhb uA uB nA nB;cases hao:A.op with
 | true=>
   cases hbo:B.op with
   | true=>
     simp only [Bool.and_true,if_true];have hs0:=((hF1.alloc (rangeC (.slice al A.lo.length cl) (.slice ah A.hi.length ch) true)).alloc (rangeC (.slice bl B.lo.length dl) (.slice bh B.hi.length dh) true)).alloc (rangeC (.slice none 0 0) (.slice none 0 0) false)
     rw [show ((w.alloc (rangeC (.slice al A.lo.length cl) (.slice ah A.hi.length ch) true)).alloc (rangeC (.slice bl B.lo.length dl) (.slice bh B.hi.length dh) true)).heap.size=w.heap.size+1+1 by simp,show (w.alloc (rangeC (.slice al A.lo.length cl) (.slice ah A.hi.length ch) true)).heap.size=w.heap.size+1 by simp] at hs0
     have HST:=hQ ((((Stays.refl w).alloc (rangeC (.slice al A.lo.length cl) (.slice ah A.hi.length ch) true)).alloc (rangeC (.slice bl B.lo.length dl) (.slice bh B.hi.length dh) true)).alloc (rangeC (.slice none 0 0) (.slice none 0 0) false));have HS0:=hQ hs0;clear hF1 hs0;go_enter Tryz.func83,Tryz.ntmps83
     go_wp2_with fail
     have U1:=HST.out;have U2:=HS0.out;clear HST HS0;generalize ((w.alloc (rangeC (.slice al A.lo.length cl) (.slice ah A.hi.length ch) true)).alloc (rangeC (.slice bl B.lo.length dl) (.slice bh B.hi.length dh) true)).alloc (rangeC (.slice none 0 0) (.slice none 0 0) false)=w0 at*;generalize w.heap.size+1+1=BR at*;generalize w.heap.size+1=BB at*;generalize w.heap.size=BA at*;have HST:=hQ U1
     have HS0:=hQ (U2.to (M:= [Pr.pts BR (rangeC (.slice none 0 0) (.slice none 0 0) false),Pr.pts BB (rangeC (.slice bl B.lo.length dl) (.slice bh B.hi.length dh) true),Pr.pts BA (rangeC (.slice al A.lo.length cl) (.slice ah A.hi.length ch) true),Pr.own h,F]));clear U1 U2
     go_cut [5] from 6 to 18 (fun t1 wx=> ∃(J:Nat) (ov:Value),t1= .pointer (some ⟨J,0,none⟩)∧Stays w wx∧OwnL [Pr.pts J (rangeC ov (.slice none 0 0) true),BytesRow ov (moreL A.lo B.lo),Pr.pts BR (rangeC (.slice none 0 0) (.slice none 0 0) false),Pr.pts BB (rangeC (.slice bl B.lo.length dl) (.slice bh B.hi.length dh) true),Pr.pts BA (rangeC (.slice al A.lo.length cl) (.slice ah A.hi.length ch) true),Pr.own h,F] wx)
     case first=>
      have c1:=HS0.out.facts;simp only [CellsAt,Nat.reduceAdd,and_true] at c1;refine wp_region_forked (sz:=42) (by kernel_rfl) [0,1,2,3,5,6] [(12,[],[0,1,2,3,5,6],[(4,[7,8,9,10,11],[0,2,5,6]),(13,[],[])]),(4,[7,8,9,10,11],[0,2,5,6],[(12,[],[0,2,5,6,7,8,9,10,11]),(13,[],[])])] rfl (by kernel_rfl) (by kernel_rfl) (by kernel_rfl) ?_;refine wpQ_all _ rfl rfl ?_;simp only [pick,pQ]
      iterate 6 (go_big_quiet_step (fail))
      refine wpQuiet_nil ?_;intro sx hsx;rcases List.mem_cons.1 hsx with rfl | hsx
      · have hs8:=HS0.out.drew.alloc (rangeC (.slice none 0 0) (.slice none 0 0) false)
        have V:=hQ (MO.out _ _ (hs8.pull1 (A1:=Pr.own h)));have HSTA:=hQ (HST.out.drew.alloc (rangeC (.slice none 0 0) (.slice none 0 0) false));clear hs8;refine wpRest_act rfl ?_;go_wp2;refine onN_mk ?_;refine wpQ_nil ⟨?_,?_⟩
        · exact cQ
        refine wpRest_act rfl ?_;go_wp2_with fail
        refine V.out.mono ?_;rintro e w5 ⟨ov,rfl,st5,hs9⟩;have hs10:=OwnL.of2 hs9;rw [show w0.drew.heap.size=w0.heap.size by simp] at hs10;obtain⟨ao,co,rfl⟩:=Row.shape hs9;clear c1;have c1:=hs10.facts;simp only [CellsAt,Nat.reduceAdd,and_true] at c1;have hs11:=((hs10.set w0.heap.size 0 (.slice ao (moreL A.lo B.lo).length co)).set w0.heap.size 1 (.slice none 0 0)).set w0.heap.size 2 (.bool true)
        have HEND:=hQ (And.intro (((((HSTA.out.trans st5).setCell ⟨w0.heap.size,0,none⟩ (.slice ao (moreL A.lo B.lo).length co)).setCell ⟨w0.heap.size,1,none⟩ (.slice none 0 0)).setCell ⟨w0.heap.size,2,none⟩ (.bool true))) hs11);clear hs9 hs10 hs11 st5 V HSTA;go_wp2;refine onN_mk ?_;refine wpQ_all _ rfl rfl ?_;simp only [pick,pQ];iterate 5 (go_big_quiet_step (fail))
        refine wpQuiet_nil ⟨?_,?_⟩
        · exact cQ
        refine wpRest_act rfl ?_;go_wp2;refine onN_mk ?_;refine wpQ_nil ⟨?_,?_⟩
        · exact chk_nil
        refine wpRest_nil ?_;go_wp2;go_meet
        exact⟨_,.slice ao (moreL A.lo B.lo).length co,rfl,HEND.out.1,HEND.out.2.to⟩
      · cases List.mem_singleton.1 hsx
        have V:=hQ (MO.out _ _ (HS0.out.drew.pull1 (A1:=Pr.own h)));refine wpRest_act rfl ?_;go_wp2_with fail
        refine V.out.mono ?_;rintro e w5 ⟨ov,rfl,st5,hs9⟩;have hs10:=OwnL.of2 hs9;obtain⟨ao,co,rfl⟩:=Row.shape hs9;clear c1;have c1:=hs10.facts;simp only [CellsAt,Nat.reduceAdd,and_true] at c1;have hs11:=hs10.alloc (rangeC (.slice ao (moreL A.lo B.lo).length co) (.slice none 0 0) true)
        have HEND:=hQ (And.intro ((HST.out.drew.trans st5).alloc (rangeC (.slice ao (moreL A.lo B.lo).length co) (.slice none 0 0) true)) hs11);clear hs9 hs10 hs11 st5 V;go_wp2;refine onN_mk ?_;refine wpQ_all _ rfl rfl ?_;simp only [pick,pQ];iterate 5 (go_big_quiet_step (fail))
        refine wpQuiet_nil ⟨?_,?_⟩
        · exact cQ
        refine wpRest_act rfl ?_;go_wp2;refine onN_mk ?_;refine wpQ_nil ⟨?_,?_⟩
        · exact cQ
        refine wpRest_act rfl ?_;go_wp2;refine onN_mk ?_;refine wpQ_nil ⟨?_,?_⟩
        · exact chk_nil
        refine wpRest_nil ?_;go_wp2;go_meet
        exact⟨_,.slice ao (moreL A.lo B.lo).length co,rfl,HEND.out.1,HEND.out.2.to⟩
     case rest=>
      obtain⟨J,ov,rfl,st1,hs1⟩:=hcut;obtain⟨ao,co,rfl⟩:=Row.shape (hs1.pull1 (A1:=BytesRow ov (moreL A.lo B.lo)));have HST1:=hQ st1;have HS1:=hQ hs1;have c1:=hs1.facts;simp only [CellsAt,Nat.reduceAdd,and_true] at c1;clear st1 hs1 HST HS0 MO;go_wp2;have h5:=((HS1.out.set BR 0 (.slice ao (moreL A.lo B.lo).length co)).set BR 1 (.slice none 0 0)).set BR 2 (.bool true)
      have HST5:=hQ (((HST1.out.setCell ⟨BR,0,none⟩ (.slice ao (moreL A.lo B.lo).length co)).setCell ⟨BR,1,none⟩ (.slice none 0 0)).setCell ⟨BR,2,none⟩ (.bool true));refine bodyPost_ret (results_cell_row rfl _ _ BR _ _ _ _ rfl (h5.pts BR).pts_heap Tryz.underlying64 rfl sizeRange) rfl ?_;obtain⟨h',ha,h6⟩:=h5.arena (BytesRow (.slice ao (moreL A.lo B.lo).length co) (moreL A.lo B.lo))
      exact⟨HST5.out,h',_,rfl,⟨_,_,rfl,row_bytes ha,RowIn.nil _ _⟩,(h6.to (M:= [Pr.own h',Pr.own h,F])).sat.perm (by simp only [starL,Pr.star_emp])⟩
   | false=>
     simp only [Bool.and_false,Bool.false_eq_true,if_false,if_true];have hs0:=((hF1.alloc (rangeC (.slice al A.lo.length cl) (.slice ah A.hi.length ch) true)).alloc (rangeC (.slice bl B.lo.length dl) (.slice bh B.hi.length dh) false)).alloc (rangeC (.slice none 0 0) (.slice none 0 0) false)
     rw [show ((w.alloc (rangeC (.slice al A.lo.length cl) (.slice ah A.hi.length ch) true)).alloc (rangeC (.slice bl B.lo.length dl) (.slice bh B.hi.length dh) false)).heap.size=w.heap.size+1+1 by simp,show (w.alloc (rangeC (.slice al A.lo.length cl) (.slice ah A.hi.length ch) true)).heap.size=w.heap.size+1 by simp] at hs0
     have HST:=hQ ((((Stays.refl w).alloc (rangeC (.slice al A.lo.length cl) (.slice ah A.hi.length ch) true)).alloc (rangeC (.slice bl B.lo.length dl) (.slice bh B.hi.length dh) false)).alloc (rangeC (.slice none 0 0) (.slice none 0 0) false));have HS0:=hQ hs0;clear hF1 hs0;go_enter Tryz.func83,Tryz.ntmps83
     go_wp2_with fail
     have U1:=HST.out;have U2:=HS0.out;clear HST HS0;generalize ((w.alloc (rangeC (.slice al A.lo.length cl) (.slice ah A.hi.length ch) true)).alloc (rangeC (.slice bl B.lo.length dl) (.slice bh B.hi.length dh) false)).alloc (rangeC (.slice none 0 0) (.slice none 0 0) false)=w0 at*;generalize w.heap.size+1+1=BR at*;generalize w.heap.size+1=BB at*;generalize w.heap.size=BA at*;have HST:=hQ U1
     have HS0:=hQ (U2.to (M:= [Pr.pts BR (rangeC (.slice none 0 0) (.slice none 0 0) false),Pr.pts BB (rangeC (.slice bl B.lo.length dl) (.slice bh B.hi.length dh) false),Pr.pts BA (rangeC (.slice al A.lo.length cl) (.slice ah A.hi.length ch) true),Pr.own h,F]));clear U1 U2
     go_cut [5] from 6 to 18 (fun t1 wx=> ∃(J:Nat) (ov:Value),t1= .pointer (some ⟨J,0,none⟩)∧Stays w wx∧OwnL [Pr.pts J (rangeC ov (.slice none 0 0) false),BytesRow ov (moreL A.lo B.lo),Pr.pts BR (rangeC (.slice none 0 0) (.slice none 0 0) false),Pr.pts BB (rangeC (.slice bl B.lo.length dl) (.slice bh B.hi.length dh) false),Pr.pts BA (rangeC (.slice al A.lo.length cl) (.slice ah A.hi.length ch) true),Pr.own h,F] wx)
     case first=>
      have c1:=HS0.out.facts;simp only [CellsAt,Nat.reduceAdd,and_true] at c1;refine wp_region_forked (sz:=42) (by kernel_rfl) [0,1,2,3,5,6] [(12,[],[0,1,2,3,5,6],[(4,[7,8,9,10,11],[0,2,5,6]),(13,[],[])]),(4,[7,8,9,10,11],[0,2,5,6],[(12,[],[0,2,5,6,7,8,9,10,11]),(13,[],[])])] rfl (by kernel_rfl) (by kernel_rfl) (by kernel_rfl) ?_;refine wpQ_all _ rfl rfl ?_;simp only [pick,pQ]
      iterate 6 (go_big_quiet_step (fail))
      refine wpQuiet_nil ?_;intro sx hsx;rcases List.mem_cons.1 hsx with rfl | hsx
      · have hs8:=HS0.out.drew.alloc (rangeC (.slice none 0 0) (.slice none 0 0) false)
        have V:=hQ (MO.out _ _ (hs8.pull1 (A1:=Pr.own h)));have HSTA:=hQ (HST.out.drew.alloc (rangeC (.slice none 0 0) (.slice none 0 0) false));clear hs8;refine wpRest_act rfl ?_;go_wp2;refine onN_mk ?_;refine wpQ_nil ⟨?_,?_⟩
        · exact cQ
        refine wpRest_act rfl ?_;go_wp2_with fail
        refine V.out.mono ?_;rintro e w5 ⟨ov,rfl,st5,hs9⟩;have hs10:=OwnL.of2 hs9;rw [show w0.drew.heap.size=w0.heap.size by simp] at hs10;obtain⟨ao,co,rfl⟩:=Row.shape hs9;clear c1;have c1:=hs10.facts;simp only [CellsAt,Nat.reduceAdd,and_true] at c1;have hs11:=((hs10.set w0.heap.size 0 (.slice ao (moreL A.lo B.lo).length co)).set w0.heap.size 1 (.slice none 0 0)).set w0.heap.size 2 (.bool false)
        have HEND:=hQ (And.intro (((((HSTA.out.trans st5).setCell ⟨w0.heap.size,0,none⟩ (.slice ao (moreL A.lo B.lo).length co)).setCell ⟨w0.heap.size,1,none⟩ (.slice none 0 0)).setCell ⟨w0.heap.size,2,none⟩ (.bool false))) hs11);clear hs9 hs10 hs11 st5 V HSTA;go_wp2;refine onN_mk ?_;refine wpQ_all _ rfl rfl ?_;simp only [pick,pQ];iterate 5 (go_big_quiet_step (fail))
        refine wpQuiet_nil ⟨?_,?_⟩
        · exact cQ
        refine wpRest_act rfl ?_;go_wp2;refine onN_mk ?_;refine wpQ_nil ⟨?_,?_⟩
        · exact chk_nil
        refine wpRest_nil ?_;go_wp2;go_meet
        exact⟨_,.slice ao (moreL A.lo B.lo).length co,rfl,HEND.out.1,HEND.out.2.to⟩
      · cases List.mem_singleton.1 hsx
        have V:=hQ (MO.out _ _ (HS0.out.drew.pull1 (A1:=Pr.own h)));refine wpRest_act rfl ?_;go_wp2_with fail
        refine V.out.mono ?_;rintro e w5 ⟨ov,rfl,st5,hs9⟩;have hs10:=OwnL.of2 hs9;obtain⟨ao,co,rfl⟩:=Row.shape hs9;clear c1;have c1:=hs10.facts;simp only [CellsAt,Nat.reduceAdd,and_true] at c1;have hs11:=hs10.alloc (rangeC (.slice ao (moreL A.lo B.lo).length co) (.slice none 0 0) false)
        have HEND:=hQ (And.intro ((HST.out.drew.trans st5).alloc (rangeC (.slice ao (moreL A.lo B.lo).length co) (.slice none 0 0) false)) hs11);clear hs9 hs10 hs11 st5 V;go_wp2;refine onN_mk ?_;refine wpQ_all _ rfl rfl ?_;simp only [pick,pQ];iterate 5 (go_big_quiet_step (fail))
        refine wpQuiet_nil ⟨?_,?_⟩
        · exact cQ
        refine wpRest_act rfl ?_;go_wp2;refine onN_mk ?_;refine wpQ_nil ⟨?_,?_⟩
        · exact cQ
        refine wpRest_act rfl ?_;go_wp2;refine onN_mk ?_;refine wpQ_nil ⟨?_,?_⟩
        · exact chk_nil
        refine wpRest_nil ?_;go_wp2;go_meet
        exact⟨_,.slice ao (moreL A.lo B.lo).length co,rfl,HEND.out.1,HEND.out.2.to⟩
     case rest=>
      obtain⟨J,ov,rfl,st1,hs1⟩:=hcut;obtain⟨ao,co,rfl⟩:=Row.shape (hs1.pull1 (A1:=BytesRow ov (moreL A.lo B.lo)));have HST1:=hQ st1;have HS1:=hQ hs1;have c1:=hs1.facts;simp only [CellsAt,Nat.reduceAdd,and_true] at c1;clear st1 hs1 HST HS0 MO;have V:=hQ (FB.out _ _ (HS1.out.pull1 (A1:=Pr.own h)));go_wp2_with fail
      refine V.out.mono ?_;rintro e w5 ⟨hv,rfl,st5,hs9⟩;have hs10:=OwnL.of2 hs9;obtain⟨ai,ci,rfl⟩:=Row.shape hs9;clear c1;have c1:=hs10.facts;simp only [CellsAt,Nat.reduceAdd,and_true] at c1;have HS10:=hQ hs10;have HST10:=hQ (HST1.out.trans st5);clear hs9 hs10 st5 V HS1 HST1;go_wp2
      have h5:=(((HS10.out.set J 1 (.slice ai (B.hi).length ci)).set BR 0 (.slice ao (moreL A.lo B.lo).length co)).set BR 1 (.slice ai (B.hi).length ci)).set BR 2 (.bool false);have HST5:=hQ ((((HST10.out.setCell ⟨J,1,none⟩ (.slice ai (B.hi).length ci)).setCell ⟨BR,0,none⟩ (.slice ao (moreL A.lo B.lo).length co)).setCell ⟨BR,1,none⟩ (.slice ai (B.hi).length ci)).setCell ⟨BR,2,none⟩ (.bool false))
      refine bodyPost_ret (results_cell_row rfl _ _ BR _ _ _ _ rfl (h5.pts BR).pts_heap Tryz.underlying64 rfl sizeRange) rfl ?_
      obtain⟨h',ha,h6⟩:=(h5.join2 (BytesRow (.slice ao (moreL A.lo B.lo).length co) (moreL A.lo B.lo)) (BytesRow (.slice ai (B.hi).length ci) (B.hi))).arena ((BytesRow (.slice ao (moreL A.lo B.lo).length co) (moreL A.lo B.lo)).star (BytesRow (.slice ai (B.hi).length ci) (B.hi)));obtain⟨p,q,hp,hq,s1,s2⟩:=star_sub ha
      exact⟨HST5.out,h',_,rfl,⟨_,_,rfl,(row_bytes hp).sub s1,(row_bytes hq).sub s2⟩,(h6.to (M:= [Pr.own h',Pr.own h,F])).sat.perm (by simp only [starL,Pr.star_emp])⟩
 | false=>
   cases hbo:B.op with
   | true=>
     simp only [Bool.false_and,Bool.false_eq_true,if_false,if_true];have hs0:=((hF1.alloc (rangeC (.slice al A.lo.length cl) (.slice ah A.hi.length ch) false)).alloc (rangeC (.slice bl B.lo.length dl) (.slice bh B.hi.length dh) true)).alloc (rangeC (.slice none 0 0) (.slice none 0 0) false)
     rw [show ((w.alloc (rangeC (.slice al A.lo.length cl) (.slice ah A.hi.length ch) false)).alloc (rangeC (.slice bl B.lo.length dl) (.slice bh B.hi.length dh) true)).heap.size=w.heap.size+1+1 by simp,show (w.alloc (rangeC (.slice al A.lo.length cl) (.slice ah A.hi.length ch) false)).heap.size=w.heap.size+1 by simp] at hs0
     have HST:=hQ ((((Stays.refl w).alloc (rangeC (.slice al A.lo.length cl) (.slice ah A.hi.length ch) false)).alloc (rangeC (.slice bl B.lo.length dl) (.slice bh B.hi.length dh) true)).alloc (rangeC (.slice none 0 0) (.slice none 0 0) false));have HS0:=hQ hs0;clear hF1 hs0;go_enter Tryz.func83,Tryz.ntmps83
     go_wp2_with fail
     have U1:=HST.out;have U2:=HS0.out;clear HST HS0;generalize ((w.alloc (rangeC (.slice al A.lo.length cl) (.slice ah A.hi.length ch) false)).alloc (rangeC (.slice bl B.lo.length dl) (.slice bh B.hi.length dh) true)).alloc (rangeC (.slice none 0 0) (.slice none 0 0) false)=w0 at*;generalize w.heap.size+1+1=BR at*;generalize w.heap.size+1=BB at*;generalize w.heap.size=BA at*;have HST:=hQ U1
     have HS0:=hQ (U2.to (M:= [Pr.pts BR (rangeC (.slice none 0 0) (.slice none 0 0) false),Pr.pts BB (rangeC (.slice bl B.lo.length dl) (.slice bh B.hi.length dh) true),Pr.pts BA (rangeC (.slice al A.lo.length cl) (.slice ah A.hi.length ch) false),Pr.own h,F]));clear U1 U2
     go_cut [5] from 6 to 18 (fun t1 wx=> ∃(J:Nat) (ov:Value),t1= .pointer (some ⟨J,0,none⟩)∧Stays w wx∧OwnL [Pr.pts J (rangeC ov (.slice none 0 0) false),BytesRow ov (moreL A.lo B.lo),Pr.pts BR (rangeC (.slice none 0 0) (.slice none 0 0) false),Pr.pts BB (rangeC (.slice bl B.lo.length dl) (.slice bh B.hi.length dh) true),Pr.pts BA (rangeC (.slice al A.lo.length cl) (.slice ah A.hi.length ch) false),Pr.own h,F] wx)
     case first=>
      have c1:=HS0.out.facts;simp only [CellsAt,Nat.reduceAdd,and_true] at c1;refine wp_region_forked (sz:=42) (by kernel_rfl) [0,1,2,3,5,6] [(12,[],[0,1,2,3,5,6],[(4,[7,8,9,10,11],[0,2,5,6]),(13,[],[])]),(4,[7,8,9,10,11],[0,2,5,6],[(12,[],[0,2,5,6,7,8,9,10,11]),(13,[],[])])] rfl (by kernel_rfl) (by kernel_rfl) (by kernel_rfl) ?_;refine wpQ_all _ rfl rfl ?_;simp only [pick,pQ]
      iterate 6 (go_big_quiet_step (fail))
      refine wpQuiet_nil ?_;intro sx hsx;rcases List.mem_cons.1 hsx with rfl | hsx
      · have hs8:=HS0.out.drew.alloc (rangeC (.slice none 0 0) (.slice none 0 0) false)
        have V:=hQ (MO.out _ _ (hs8.pull1 (A1:=Pr.own h)));have HSTA:=hQ (HST.out.drew.alloc (rangeC (.slice none 0 0) (.slice none 0 0) false));clear hs8;refine wpRest_act rfl ?_;go_wp2;refine onN_mk ?_;refine wpQ_nil ⟨?_,?_⟩
        · exact cQ
        refine wpRest_act rfl ?_;go_wp2_with fail
        refine V.out.mono ?_;rintro e w5 ⟨ov,rfl,st5,hs9⟩;have hs10:=OwnL.of2 hs9;rw [show w0.drew.heap.size=w0.heap.size by simp] at hs10;obtain⟨ao,co,rfl⟩:=Row.shape hs9;clear c1;have c1:=hs10.facts;simp only [CellsAt,Nat.reduceAdd,and_true] at c1;have hs11:=((hs10.set w0.heap.size 0 (.slice ao (moreL A.lo B.lo).length co)).set w0.heap.size 1 (.slice none 0 0)).set w0.heap.size 2 (.bool false)
        have HEND:=hQ (And.intro (((((HSTA.out.trans st5).setCell ⟨w0.heap.size,0,none⟩ (.slice ao (moreL A.lo B.lo).length co)).setCell ⟨w0.heap.size,1,none⟩ (.slice none 0 0)).setCell ⟨w0.heap.size,2,none⟩ (.bool false))) hs11);clear hs9 hs10 hs11 st5 V HSTA;go_wp2;refine onN_mk ?_;refine wpQ_all _ rfl rfl ?_;simp only [pick,pQ];iterate 5 (go_big_quiet_step (fail))
        refine wpQuiet_nil ⟨?_,?_⟩
        · exact cQ
        refine wpRest_act rfl ?_;go_wp2;refine onN_mk ?_;refine wpQ_nil ⟨?_,?_⟩
        · exact chk_nil
        refine wpRest_nil ?_;go_wp2;go_meet
        exact⟨_,.slice ao (moreL A.lo B.lo).length co,rfl,HEND.out.1,HEND.out.2.to⟩
      · cases List.mem_singleton.1 hsx
        have V:=hQ (MO.out _ _ (HS0.out.drew.pull1 (A1:=Pr.own h)));refine wpRest_act rfl ?_;go_wp2_with fail
        refine V.out.mono ?_;rintro e w5 ⟨ov,rfl,st5,hs9⟩;have hs10:=OwnL.of2 hs9;obtain⟨ao,co,rfl⟩:=Row.shape hs9;clear c1;have c1:=hs10.facts;simp only [CellsAt,Nat.reduceAdd,and_true] at c1;have hs11:=hs10.alloc (rangeC (.slice ao (moreL A.lo B.lo).length co) (.slice none 0 0) false)
        have HEND:=hQ (And.intro ((HST.out.drew.trans st5).alloc (rangeC (.slice ao (moreL A.lo B.lo).length co) (.slice none 0 0) false)) hs11);clear hs9 hs10 hs11 st5 V;go_wp2;refine onN_mk ?_;refine wpQ_all _ rfl rfl ?_;simp only [pick,pQ];iterate 5 (go_big_quiet_step (fail))
        refine wpQuiet_nil ⟨?_,?_⟩
        · exact cQ
        refine wpRest_act rfl ?_;go_wp2;refine onN_mk ?_;refine wpQ_nil ⟨?_,?_⟩
        · exact cQ
        refine wpRest_act rfl ?_;go_wp2;refine onN_mk ?_;refine wpQ_nil ⟨?_,?_⟩
        · exact chk_nil
        refine wpRest_nil ?_;go_wp2;go_meet
        exact⟨_,.slice ao (moreL A.lo B.lo).length co,rfl,HEND.out.1,HEND.out.2.to⟩
     case rest=>
      obtain⟨J,ov,rfl,st1,hs1⟩:=hcut;obtain⟨ao,co,rfl⟩:=Row.shape (hs1.pull1 (A1:=BytesRow ov (moreL A.lo B.lo)));have HST1:=hQ st1;have HS1:=hQ hs1;have c1:=hs1.facts;simp only [CellsAt,Nat.reduceAdd,and_true] at c1;clear st1 hs1 HST HS0 MO;have V:=hQ (FA.out _ _ (HS1.out.pull1 (A1:=Pr.own h)));go_wp2_with fail
      refine V.out.mono ?_;rintro e w5 ⟨hv,rfl,st5,hs9⟩;have hs10:=OwnL.of2 hs9;obtain⟨ai,ci,rfl⟩:=Row.shape hs9;clear c1;have c1:=hs10.facts;simp only [CellsAt,Nat.reduceAdd,and_true] at c1;have HS10:=hQ hs10;have HST10:=hQ (HST1.out.trans st5);clear hs9 hs10 st5 V HS1 HST1;go_wp2
      have h5:=(((HS10.out.set J 1 (.slice ai (A.hi).length ci)).set BR 0 (.slice ao (moreL A.lo B.lo).length co)).set BR 1 (.slice ai (A.hi).length ci)).set BR 2 (.bool false);have HST5:=hQ ((((HST10.out.setCell ⟨J,1,none⟩ (.slice ai (A.hi).length ci)).setCell ⟨BR,0,none⟩ (.slice ao (moreL A.lo B.lo).length co)).setCell ⟨BR,1,none⟩ (.slice ai (A.hi).length ci)).setCell ⟨BR,2,none⟩ (.bool false))
      refine bodyPost_ret (results_cell_row rfl _ _ BR _ _ _ _ rfl (h5.pts BR).pts_heap Tryz.underlying64 rfl sizeRange) rfl ?_
      obtain⟨h',ha,h6⟩:=(h5.join2 (BytesRow (.slice ao (moreL A.lo B.lo).length co) (moreL A.lo B.lo)) (BytesRow (.slice ai (A.hi).length ci) (A.hi))).arena ((BytesRow (.slice ao (moreL A.lo B.lo).length co) (moreL A.lo B.lo)).star (BytesRow (.slice ai (A.hi).length ci) (A.hi)));obtain⟨p,q,hp,hq,s1,s2⟩:=star_sub ha
      exact⟨HST5.out,h',_,rfl,⟨_,_,rfl,(row_bytes hp).sub s1,(row_bytes hq).sub s2⟩,(h6.to (M:= [Pr.own h',Pr.own h,F])).sat.perm (by simp only [starL,Pr.star_emp])⟩
   | false=>
     simp only [Bool.false_and,Bool.false_eq_true,if_false];have hs0:=((hF1.alloc (rangeC (.slice al A.lo.length cl) (.slice ah A.hi.length ch) false)).alloc (rangeC (.slice bl B.lo.length dl) (.slice bh B.hi.length dh) false)).alloc (rangeC (.slice none 0 0) (.slice none 0 0) false)
     rw [show ((w.alloc (rangeC (.slice al A.lo.length cl) (.slice ah A.hi.length ch) false)).alloc (rangeC (.slice bl B.lo.length dl) (.slice bh B.hi.length dh) false)).heap.size=w.heap.size+1+1 by simp,show (w.alloc (rangeC (.slice al A.lo.length cl) (.slice ah A.hi.length ch) false)).heap.size=w.heap.size+1 by simp] at hs0
     have HST:=hQ ((((Stays.refl w).alloc (rangeC (.slice al A.lo.length cl) (.slice ah A.hi.length ch) false)).alloc (rangeC (.slice bl B.lo.length dl) (.slice bh B.hi.length dh) false)).alloc (rangeC (.slice none 0 0) (.slice none 0 0) false));have HS0:=hQ hs0;clear hF1 hs0;go_enter Tryz.func83,Tryz.ntmps83
     go_wp2_with fail
     have U1:=HST.out;have U2:=HS0.out;clear HST HS0;generalize ((w.alloc (rangeC (.slice al A.lo.length cl) (.slice ah A.hi.length ch) false)).alloc (rangeC (.slice bl B.lo.length dl) (.slice bh B.hi.length dh) false)).alloc (rangeC (.slice none 0 0) (.slice none 0 0) false)=w0 at*;generalize w.heap.size+1+1=BR at*;generalize w.heap.size+1=BB at*;generalize w.heap.size=BA at*;have HST:=hQ U1
     have HS0:=hQ (U2.to (M:= [Pr.pts BR (rangeC (.slice none 0 0) (.slice none 0 0) false),Pr.pts BB (rangeC (.slice bl B.lo.length dl) (.slice bh B.hi.length dh) false),Pr.pts BA (rangeC (.slice al A.lo.length cl) (.slice ah A.hi.length ch) false),Pr.own h,F]));clear U1 U2
     go_cut [5] from 6 to 18 (fun t1 wx=> ∃(J:Nat) (ov:Value),t1= .pointer (some ⟨J,0,none⟩)∧Stays w wx∧OwnL [Pr.pts J (rangeC ov (.slice none 0 0) false),BytesRow ov (moreL A.lo B.lo),Pr.pts BR (rangeC (.slice none 0 0) (.slice none 0 0) false),Pr.pts BB (rangeC (.slice bl B.lo.length dl) (.slice bh B.hi.length dh) false),Pr.pts BA (rangeC (.slice al A.lo.length cl) (.slice ah A.hi.length ch) false),Pr.own h,F] wx)
     case first=>
      have c1:=HS0.out.facts;simp only [CellsAt,Nat.reduceAdd,and_true] at c1;refine wp_region_forked (sz:=42) (by kernel_rfl) [0,1,2,3,5,6] [(12,[],[0,1,2,3,5,6],[(4,[7,8,9,10,11],[0,2,5,6]),(13,[],[])]),(4,[7,8,9,10,11],[0,2,5,6],[(12,[],[0,2,5,6,7,8,9,10,11]),(13,[],[])])] rfl (by kernel_rfl) (by kernel_rfl) (by kernel_rfl) ?_;refine wpQ_all _ rfl rfl ?_;simp only [pick,pQ]
      iterate 6 (go_big_quiet_step (fail))
      refine wpQuiet_nil ?_;intro sx hsx;rcases List.mem_cons.1 hsx with rfl | hsx
      · have hs8:=HS0.out.drew.alloc (rangeC (.slice none 0 0) (.slice none 0 0) false)
        have V:=hQ (MO.out _ _ (hs8.pull1 (A1:=Pr.own h)));have HSTA:=hQ (HST.out.drew.alloc (rangeC (.slice none 0 0) (.slice none 0 0) false));clear hs8;refine wpRest_act rfl ?_;go_wp2;refine onN_mk ?_;refine wpQ_nil ⟨?_,?_⟩
        · exact cQ
        refine wpRest_act rfl ?_;go_wp2_with fail
        refine V.out.mono ?_;rintro e w5 ⟨ov,rfl,st5,hs9⟩;have hs10:=OwnL.of2 hs9;rw [show w0.drew.heap.size=w0.heap.size by simp] at hs10;obtain⟨ao,co,rfl⟩:=Row.shape hs9;clear c1;have c1:=hs10.facts;simp only [CellsAt,Nat.reduceAdd,and_true] at c1;have hs11:=((hs10.set w0.heap.size 0 (.slice ao (moreL A.lo B.lo).length co)).set w0.heap.size 1 (.slice none 0 0)).set w0.heap.size 2 (.bool false)
        have HEND:=hQ (And.intro (((((HSTA.out.trans st5).setCell ⟨w0.heap.size,0,none⟩ (.slice ao (moreL A.lo B.lo).length co)).setCell ⟨w0.heap.size,1,none⟩ (.slice none 0 0)).setCell ⟨w0.heap.size,2,none⟩ (.bool false))) hs11);clear hs9 hs10 hs11 st5 V HSTA;go_wp2;refine onN_mk ?_;refine wpQ_all _ rfl rfl ?_;simp only [pick,pQ];iterate 5 (go_big_quiet_step (fail))
        refine wpQuiet_nil ⟨?_,?_⟩
        · exact cQ
        refine wpRest_act rfl ?_;go_wp2;refine onN_mk ?_;refine wpQ_nil ⟨?_,?_⟩
        · exact chk_nil
        refine wpRest_nil ?_;go_wp2;go_meet
        exact⟨_,.slice ao (moreL A.lo B.lo).length co,rfl,HEND.out.1,HEND.out.2.to⟩
      · cases List.mem_singleton.1 hsx
        have V:=hQ (MO.out _ _ (HS0.out.drew.pull1 (A1:=Pr.own h)));refine wpRest_act rfl ?_;go_wp2_with fail
        refine V.out.mono ?_;rintro e w5 ⟨ov,rfl,st5,hs9⟩;have hs10:=OwnL.of2 hs9;obtain⟨ao,co,rfl⟩:=Row.shape hs9;clear c1;have c1:=hs10.facts;simp only [CellsAt,Nat.reduceAdd,and_true] at c1;have hs11:=hs10.alloc (rangeC (.slice ao (moreL A.lo B.lo).length co) (.slice none 0 0) false)
        have HEND:=hQ (And.intro ((HST.out.drew.trans st5).alloc (rangeC (.slice ao (moreL A.lo B.lo).length co) (.slice none 0 0) false)) hs11);clear hs9 hs10 hs11 st5 V;go_wp2;refine onN_mk ?_;refine wpQ_all _ rfl rfl ?_;simp only [pick,pQ];iterate 5 (go_big_quiet_step (fail))
        refine wpQuiet_nil ⟨?_,?_⟩
        · exact cQ
        refine wpRest_act rfl ?_;go_wp2;refine onN_mk ?_;refine wpQ_nil ⟨?_,?_⟩
        · exact cQ
        refine wpRest_act rfl ?_;go_wp2;refine onN_mk ?_;refine wpQ_nil ⟨?_,?_⟩
        · exact chk_nil
        refine wpRest_nil ?_;go_wp2;go_meet
        exact⟨_,.slice ao (moreL A.lo B.lo).length co,rfl,HEND.out.1,HEND.out.2.to⟩
     case rest=>
      obtain⟨J,ov,rfl,st1,hs1⟩:=hcut;obtain⟨ao,co,rfl⟩:=Row.shape (hs1.pull1 (A1:=BytesRow ov (moreL A.lo B.lo)));have HST1:=hQ st1;have HS1:=hQ hs1;have c1:=hs1.facts;simp only [CellsAt,Nat.reduceAdd,and_true] at c1;clear st1 hs1 HST HS0 MO;have V:=hQ (LE.out _ _ (HS1.out.pull1 (A1:=Pr.own h)));go_wp2_with fail
      refine V.out.mono ?_;rintro e w5 ⟨hv,rfl,st5,hs9⟩;have hs10:=OwnL.of2 hs9;obtain⟨ai,ci,rfl⟩:=Row.shape hs9;clear c1;have c1:=hs10.facts;simp only [CellsAt,Nat.reduceAdd,and_true] at c1;have HS10:=hQ hs10;have HST10:=hQ (HST1.out.trans st5);clear hs9 hs10 st5 V HS1 HST1;go_wp2
      have h5:=(((HS10.out.set J 1 (.slice ai (lessL A.hi B.hi).length ci)).set BR 0 (.slice ao (moreL A.lo B.lo).length co)).set BR 1 (.slice ai (lessL A.hi B.hi).length ci)).set BR 2 (.bool false)
      have HST5:=hQ ((((HST10.out.setCell ⟨J,1,none⟩ (.slice ai (lessL A.hi B.hi).length ci)).setCell ⟨BR,0,none⟩ (.slice ao (moreL A.lo B.lo).length co)).setCell ⟨BR,1,none⟩ (.slice ai (lessL A.hi B.hi).length ci)).setCell ⟨BR,2,none⟩ (.bool false));refine bodyPost_ret (results_cell_row rfl _ _ BR _ _ _ _ rfl (h5.pts BR).pts_heap Tryz.underlying64 rfl sizeRange) rfl ?_
      obtain⟨h',ha,h6⟩:=(h5.join2 (BytesRow (.slice ao (moreL A.lo B.lo).length co) (moreL A.lo B.lo)) (BytesRow (.slice ai (lessL A.hi B.hi).length ci) (lessL A.hi B.hi))).arena ((BytesRow (.slice ao (moreL A.lo B.lo).length co) (moreL A.lo B.lo)).star (BytesRow (.slice ai (lessL A.hi B.hi).length ci) (lessL A.hi B.hi)));obtain⟨p,q,hp,hq,s1,s2⟩:=star_sub ha
      exact⟨HST5.out,h',_,rfl,⟨_,_,rfl,(row_bytes hp).sub s1,(row_bytes hq).sub s2⟩,(h6.to (M:= [Pr.own h',Pr.own h,F])).sat.perm (by simp only [starL,Pr.star_emp])⟩
end Go.Proofs.YtiegeadmgpanoaaGreatDoor.S5
namespace Go.Cop
theorem skip_drop(key:List Int)(l:List ItemV)(k:Nat)(hk:k<l.length):skipR key (l.drop k)=if 0<cmpI (itemAt l k).key key then 0 else skipR key (l.drop (k+1))+1:=by
 rw [List.drop_eq_getElem_cons hk, ← itemAt_get hk];rfl
end Go.Cop
namespace Go.Proofs.YtiegeadmgpanoaaGreatDoor.X5
open ChangeShapes WideShapes ChangeAt RowKit Sl Cop F3 G2 J2 Q3 V3 X3 M5 N2 P2 N5 S5 M2
theorem wpList_max {ops:Array Oper}{rest:List Oper}{o:Oper}{ac:Act}{Q:Exit→Act→World→Prop}{w:World}(hgd:o.guard=none)(x y:Operand)(hop:o.op= .call { callee:= .builtin .max,args:= #[x,y],argTypes:= #[3,3] })
 (hty:o.type=3) (a b n:Int) (hn:n=max a b) (hx:ac.eval x= .int .i64 a) (hy:ac.eval y= .int .i64 b) (hK:wpList Tryz.prog ops Q rest (ac.put o.dst (.int .i64 n)) w):wpList Tryz.prog ops Q (o :: rest) ac w:=by
 refine wpList_plain hgd fun K' hK'=> ?_
 subst hn;unfold Oper.wp execOp;simp only [hop,resolve,invoke,builtin,Sem.run_bind,Sem.run_pure,Result.andThen_ok,List.map_toArray,List.map_cons,List.map_nil,hx,hy,hty];by_cases h:a<b
 · have e:max a b=b:=by omega
   rw [e] at hK;go_simp;exact hK' _ _ hK
 · have e:max a b=a:=by omega
   rw [e] at hK;go_simp;exact hK' _ _ hK
theorem route_any(ha hb:Hp)(pv kv:Value)(g:PageV)(hp:PageIn ha pv g)(hfit:Fit g)(hu8:∀x∈g.items,U8 x.key)(key:List Int)(hk:Bytes hb kv key)(uk:U8 key)(w:World)(la:ha.le w)(lb:hb.le w):
 Calls Tryz.prog 55 #[pv,kv] w fun e w'=>e= .returned (.int .i64 (routeK g.items key))∧Only w w':=by
 obtain⟨vi,vd,rfl,hit,hb'⟩:=hp;obtain⟨tad,tcd,rfl⟩:=bytes_shape hb';obtain⟨tai,tci,rfl,_,rd⟩:=items_rd hit;obtain⟨kak,kck,rfl⟩:=bytes_shape hk;have hn8:(g.items.length:Int)≤8:=by have:=hfit.n;omega
 have HH:=hQ (And.intro hk (And.intro uk (And.intro hu8 hfit)));have RD:=hQ rd;have HL:=hQ (And.intro la lb);clear rd hit hb' hk uk hu8 hfit la lb;have HA:=hQ (HL.out.1.only ((Only.refl w).alloc (pageC g.kind g.level (.slice tai g.items.length tci) (.slice tad g.data.length tcd) g.next)))
 have HB:=hQ (HL.out.2.only ((Only.refl w).alloc (pageC g.kind g.level (.slice tai g.items.length tci) (.slice tad g.data.length tcd) g.next)));have HO:=hQ ((Only.refl w).alloc (pageC g.kind g.level (.slice tai g.items.length tci) (.slice tad g.data.length tcd) g.next))
 have c0:(w.alloc (pageC g.kind g.level (.slice tai g.items.length tci) (.slice tad g.data.length tcd) g.next)).cell? ⟨w.heap.size,2,none⟩=some (.slice tai g.items.length tci):=by simp
 go_enter Tryz.func55,Tryz.ntmps55
 go_wp2;generalize hw1:w.alloc (pageC g.kind g.level (.slice tai g.items.length tci) (.slice tad g.data.length tcd) g.next)=w1 at*;have FC:=hQ (fun(wr:World) (ho:Only w1 wr)=>(ho.cell c0:wr.cell? ⟨w.heap.size,2,none⟩=some (.slice tai g.items.length tci)));clear c0 hw1;generalize w.heap.size=J at*
 go_loopw [5] (fun t wr=> ∃k:Nat,1≤k∧(k≤g.items.length∨k=1)∧t= .int .i64 k∧Only w1 wr∧Hid (routeK g.items key=(k-1)+skipR key (g.items.drop k))) (fun t _=>g.items.length+1-(intOf t).toNat)
 case atStart=>exact⟨1,Nat.le_refl _,.inr rfl,rfl,Only.refl _,hQ (by unfold routeK;rw [← List.drop_one];omega)⟩
 case round=>
  obtain⟨k,hk1,hk2,rfl,ho,heq⟩:=hrel;rename World=>wr
  have c0:=FC.out wr ho;have cz:=World.block_lt_of_cell? _ _ c0;simp only at cz;rcases Nat.lt_or_ge k g.items.length with hlt | hge
  · obtain⟨b,off,ak,ck,av,cv,rfl,hbk,_,hc⟩:=RD.out k hlt
    obtain⟨d0,_,_,_⟩:=hc wr (HA.out.only ho);have dz:=World.block_lt_of_cell? _ _ d0;simp only at dz;rw [← itemAt_get hlt] at hbk d0;have BC:=hQ (bcompare_any ha hb _ _ (itemAt g.items k).key key hbk HH.out.1 (HH.out.2.2.1 _ (getD_mem hlt)) HH.out.2.1 wr (HA.out.only ho) (HB.out.only ho));have HEQ:=hQ (heq.out.trans (by rw [skip_drop key g.items k hlt]));have HO1:=hQ ho
    have hkl:(k:Int)<(g.items.length:Int):=by omega
    clear hbk hc heq ho hk2;generalize itemAt g.items k=y at*;by_cases hcmp:0<cmpI y.key key
    · have HQ:=hQ (HEQ.out.trans (by rw [if_pos hcmp]))
      go_wp2_with fail
      refine BC.out.mono ?_;rintro e w2 ⟨rfl,rfl⟩;go_wp2;go_ret;rw [HQ.out];exact⟨congrArg (fun z=>Ending.returned (Value.int .i64 z)) (by omega),HO.out.trans HO1.out⟩
    · have HQ:=hQ (HEQ.out.trans (by rw [if_neg hcmp]))
      go_wp2_with fail
      refine BC.out.mono ?_;rintro e w2 ⟨rfl,rfl⟩;go_wp2;go_roundw
      case rel=>exact⟨k+1,by omega,.inl (by omega),congrArg (Value.int .i64) (by omega),HO1.out,hQ (by rw [HQ.out];omega)⟩
      case measure=>simp [intOf];omega
  · obtain⟨m,hm⟩:∃m,m=max ((g.items.length:Int)-1) 0:=⟨_,rfl⟩
    have HQ:=hQ (show ((routeK g.items key:Nat):Int)=m from by
     rw [heq.out,List.drop_eq_nil_of_le hge]
     show (((k-1)+0:Nat):Int)=m
     omega)
    have HM:=hQ hm;have HO1:=hQ ho;have hkl:¬(k:Int)<(g.items.length:Int):=by omega
    clear hm heq ho hk2;go_wp2_with (refine wpList_max rfl _ _ rfl rfl ((g.items.length:Int)-1) 0 m HM.out rfl rfl ?_)
    go_ret;rw [HQ.out];exact⟨rfl,HO.out.trans HO1.out⟩
end Go.Proofs.YtiegeadmgpanoaaGreatDoor.X5
namespace Go.Cop
theorem search_drop(key:List Int)(l:List ItemV)(k:Nat)(hk:k<l.length):searchK key (l.drop k)=if 0≤cmpI (itemAt l k).key key then(0,cmpI (itemAt l k).key key == 0) else((searchK key (l.drop (k+1))).1+1,(searchK key (l.drop (k+1))).2):=by
 rw [List.drop_eq_getElem_cons hk, ← itemAt_get hk];rfl
end Go.Cop
namespace Go.Proofs.YtiegeadmgpanoaaGreatDoor.Y5
open ChangeShapes WideShapes ChangeAt RowKit Sl Cop F3 G2 J2 Q3 V3 X3 M5 N2 P2 N5 S5 M2
theorem search_any(ha hb:Hp)(pv kv:Value)(g:PageV)(hp:PageIn ha pv g)(hfit:Fit g)(hu8:∀x∈g.items,U8 x.key)(key:List Int)(hk:Bytes hb kv key)(uk:U8 key)(w:World)(la:ha.le w)(lb:hb.le w):
 Calls Tryz.prog 49 #[pv,kv] w fun e w'=>e= .returned (.tuple #[.int .i64 (searchK key g.items).1,.bool (searchK key g.items).2])∧Only w w':=by
 obtain⟨vi,vd,rfl,hit,hb'⟩:=hp;obtain⟨tad,tcd,rfl⟩:=bytes_shape hb';obtain⟨tai,tci,rfl,_,rd⟩:=items_rd hit;obtain⟨kak,kck,rfl⟩:=bytes_shape hk;have hn8:(g.items.length:Int)≤8:=by have:=hfit.n;omega
 have HH:=hQ (And.intro hk (And.intro uk (And.intro hu8 hfit)));have RD:=hQ rd;have HL:=hQ (And.intro la lb);clear rd hit hb' hk uk hu8 hfit la lb;have HA:=hQ (HL.out.1.only ((Only.refl w).alloc (pageC g.kind g.level (.slice tai g.items.length tci) (.slice tad g.data.length tcd) g.next)))
 have HB:=hQ (HL.out.2.only ((Only.refl w).alloc (pageC g.kind g.level (.slice tai g.items.length tci) (.slice tad g.data.length tcd) g.next)));have HO:=hQ ((Only.refl w).alloc (pageC g.kind g.level (.slice tai g.items.length tci) (.slice tad g.data.length tcd) g.next))
 have c0:(w.alloc (pageC g.kind g.level (.slice tai g.items.length tci) (.slice tad g.data.length tcd) g.next)).cell? ⟨w.heap.size,2,none⟩=some (.slice tai g.items.length tci):=by simp
 go_enter Tryz.func49,Tryz.ntmps49
 go_wp2;generalize hw1:w.alloc (pageC g.kind g.level (.slice tai g.items.length tci) (.slice tad g.data.length tcd) g.next)=w1 at*;have FC:=hQ (fun(wr:World) (ho:Only w1 wr)=>(ho.cell c0:wr.cell? ⟨w.heap.size,2,none⟩=some (.slice tai g.items.length tci)));clear c0 hw1;generalize w.heap.size=J at*
 go_loopw [12] (fun t wr=> ∃k:Nat,k≤g.items.length∧t= .int .i64 k∧Only w1 wr∧Hid (searchK key g.items=(k+(searchK key (g.items.drop k)).1,(searchK key (g.items.drop k)).2))) (fun t _=>g.items.length-(intOf t).toNat)
 case atStart=>exact⟨0,Nat.zero_le _,rfl,Only.refl _,hQ (by rw [List.drop_zero,Nat.zero_add])⟩
 case round=>
  obtain⟨k,hk2,rfl,ho,heq⟩:=hrel;rename World=>wr
  have c0:=FC.out wr ho;have cz:=World.block_lt_of_cell? _ _ c0;simp only at cz;rcases Nat.lt_or_ge k g.items.length with hlt | hge
  · obtain⟨b,off,ak,ck,av,cv,rfl,hbk,_,hc⟩:=RD.out k hlt
    obtain⟨d0,d1,d2,d3⟩:=hc wr (HA.out.only ho);have dz:=World.block_lt_of_cell? _ _ d0;simp only at dz;rw [← itemAt_get hlt] at hbk d0 d1 d2 d3;have HEQ:=hQ (heq.out.trans (by rw [search_drop key g.items k hlt]));have hkl:(k:Int)<(g.items.length:Int):=by omega
    have uy:=HH.out.2.2.1 _ (getD_mem hlt);generalize itemAt g.items k=y at*
    have BC:=hQ (bcompare_any ha hb _ _ y.key key hbk HH.out.1 uy HH.out.2.1 _ ((HA.out.only ho).only ((Only.refl wr).alloc (.cells #[.slice ak y.key.length ck,.slice av y.value.length cv,.int .i64 y.child,.int .i64 y.size] 89))) ((HB.out.only ho).only ((Only.refl wr).alloc (.cells #[.slice ak y.key.length ck,.slice av y.value.length cv,.int .i64 y.child,.int .i64 y.size] 89))))
    have HO1:=hQ (ho.alloc (.cells #[.slice ak y.key.length ck,.slice av y.value.length cv,.int .i64 y.child,.int .i64 y.size] 89));clear hbk hc heq ho hk2 uy;generalize cmpI y.key key=q at*;by_cases hcmp:0≤q
    · have HQ:=hQ (HEQ.out.trans (by rw [if_pos hcmp]))
      go_wp2_with fail
      refine BC.out.mono ?_;rintro e w2 ⟨rfl,rfl⟩;go_wp2;go_ret2;rw [HQ.out];exact⟨by simp,HO.out.trans HO1.out⟩
    · have HQ:=hQ (HEQ.out.trans (by rw [if_neg hcmp]))
      go_wp2_with fail
      refine BC.out.mono ?_;rintro e w2 ⟨rfl,rfl⟩;go_wp2;go_roundw
      case rel=>exact⟨k+1,by omega,congrArg (Value.int .i64) (by omega),HO1.out,hQ (by rw [HQ.out];exact congrArg (fun z=>(z,_)) (by omega))⟩
      case measure=>simp [intOf];omega
  · have hke:k=g.items.length:=by omega
    have HQ:=hQ (show searchK key g.items=(g.items.length,false) from by
     rw [heq.out,List.drop_eq_nil_of_le hge,hke]
     rfl)
    have HO1:=hQ ho;clear heq ho hk2;subst hke;go_wp2;go_ret2;rw [HQ.out];exact⟨rfl,HO.out.trans HO1.out⟩
end Go.Proofs.YtiegeadmgpanoaaGreatDoor.Y5
namespace Go.Cop
def stemN(k:List Int):Nat→Nat
 | 0=>0
 | n+1=>if k.getD n 0=255 then stemN k n else n+1
theorem stemN_le(k:List Int):∀n,stemN k n≤n
 | 0=>Nat.le_refl _
 | n+1=>by
   unfold stemN;split
   · exact Nat.le_succ_of_le (stemN_le k n)
   · exact Nat.le_refl _
end Go.Cop
namespace Go.Proofs.YtiegeadmgpanoaaGreatDoor.Z5
open ChangeShapes WideShapes ChangeAt RowKit Sl Cop F3 G2 J2 N2 N5 S5
theorem stem_any(h:Hp)(a:Option Addr)(k:List Int)(c:Nat)(hk:Bytes h (.slice a k.length c) k)(nk:k.length≤140737488355328)(w:World)(hle:h.le w):
 Calls Tryz.prog 159 #[.slice a k.length c] w fun e w'=>e= .returned (.slice a (stemN k k.length) (stemN k k.length))∧Only w w':=by
 have hkc:(k.length:Int)≤(c:Int):=by
  obtain⟨_,_,_,e,h1,_⟩:=id hk;cases e;omega
 obtain⟨a',c',e,rd⟩:=bytes_rd hk;cases e;have RD:=hQ rd;have HLE:=hQ hle;clear rd hk hle;go_enter Tryz.func159,Tryz.ntmps159
 go_wp2;go_loopw [3] (fun t wr=> ∃n:Nat,n≤k.length∧t= .int .i64 n∧Only w wr∧Hid (stemN k k.length=stemN k n)) (fun t _=>(intOf t).toNat)
 case atStart=>exact⟨k.length,Nat.le_refl _,rfl,Only.refl _,hQ rfl⟩
 case round=>
  obtain⟨n,hn,rfl,ho,heq⟩:=hrel;have HO:=hQ ho;cases n with
  | zero=>
    have HQ:=hQ (heq.out.trans (show stemN k 0=0 from rfl));clear heq ho;go_wp2;go_ret;rw [HQ.out];exact⟨rfl,HO.out⟩
  | succ m=>
    obtain⟨b,off,rfl,hc⟩:=RD.out m (by omega);have d0:=hc wr (HLE.out.only ho);have hmi:((m+1:Nat):Int)=(m:Int)+1:=by omega
    have hmc:(m:Int)+1≤(c:Int):=by omega
    have hmc0:(0:Int)≤(m:Int)+1:=by omega
    have hml:(m:Int)<(k.length:Int):=by omega
    rw [hmi];clear ho hc hmi;by_cases h255:k.getD m 0=255
    · have HQ:=hQ (heq.out.trans (show stemN k (m+1)=stemN k m from if_pos h255))
      rw [h255] at d0;clear heq h255;go_wp2;go_roundw
      case rel=>exact⟨m,by omega,congrArg (Value.int .i64) (by omega),HO.out,HQ⟩
      case measure=>simp [intOf]
    · have HQ:=hQ (heq.out.trans (show stemN k (m+1)=m+1 from if_neg h255))
      have hb:(k.getD m 0 == 255)=false:=by rw [beq_eq_false_iff_ne];exact h255
      clear heq h255;generalize k.getD m 0=q at*;go_wp2;go_ret;rw [HQ.out];exact⟨rfl,HO.out⟩
end Go.Proofs.YtiegeadmgpanoaaGreatDoor.Z5
