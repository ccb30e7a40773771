/- The document's Key, Has, greater, lesser and Meet of ranges; the conditions stand as hypotheses. -/
import Derived.Test.YtiegeadmgpanoaaGreatDoorWalkChecksM17
import Derived.Test.YtiegeadmgpanoaaGreatDoorWalkChecksM01
set_option maxRecDepth 100000
set_option maxHeartbeats 16000000
namespace Go.Proofs.YtiegeadmgpanoaaGreatDoor.B6
open ChangeShapes WideShapes ChangeAt RowKit Sl Cop F3 G2 J2 N2 P2 Q4 M5 K5 N5 S5
theorem rkey_any(a:Option Addr)(n c:Nat)(hn:n≤140737488355328)(w:World):
 Calls Tryz.prog 98 #[.slice a n c] w fun e w'=>e= .returned (.bool (decide (1≤n∧n≤24)))∧w=w':=by
 have hn2:(n:Int)≤140737488355328:=by omega
 by_cases h1:1≤n
 · have e1:(1:Int)≤(n:Int):=by omega
   by_cases h2:n≤24
   · have e2:(n:Int)≤24:=by omega
     rw [decide_eq_true (⟨h1,h2⟩:1≤n∧n≤24)];clear h1 h2;go_enter Tryz.func98,Tryz.ntmps98
     go_wp2;go_ret;exact⟨rfl,rfl⟩
   · have e2:¬(n:Int)≤24:=by omega
     rw [decide_eq_false (fun h:1≤n∧n≤24=>h2 h.2)];clear h1 h2;go_enter Tryz.func98,Tryz.ntmps98
     go_wp2;go_ret;exact⟨rfl,rfl⟩
 · have e1:¬(1:Int)≤(n:Int):=by omega
   rw [decide_eq_false (fun h:1≤n∧n≤24=>h1 h.1)];clear h1;go_enter Tryz.func98,Tryz.ntmps98
   go_wp2;go_ret;exact⟨rfl,rfl⟩
theorem rhas_any(h:Hp)(rv kv:Value)(r:RangeV)(k:List Int)(hr:RangeIn h rv r)(hk:Bytes h kv k)(nk:k.length≤140737488355328)(w:World)(hle:h.le w):
 Calls Tryz.prog 61 #[rv,kv] w fun e w'=>e= .returned (.bool (hasR r k))∧Only w w':=by
 obtain⟨lo,hi,rfl,hlo,hhi⟩:=hr;obtain⟨al,cl,rfl,_⟩:=bytes_rd hlo;obtain⟨ah,ch,rfl,_⟩:=bytes_rd hhi;obtain⟨ak,ck,rfl,_⟩:=bytes_rd hk;have o1:Only w (w.alloc (rangeC (.slice al r.lo.length cl) (.slice ah r.hi.length ch) r.op)):=(Only.refl w).alloc _;have le1:=hle.only o1;have hs0:=(OwnL.in0 (sat_heap w)).alloc (rangeC (.slice al r.lo.length cl) (.slice ah r.hi.length ch) r.op)
 have IK:=hQ (rkey_any ak k.length ck nk (w.alloc (rangeC (.slice al r.lo.length cl) (.slice ah r.hi.length ch) r.op)));have C1:=hQ (compare_any h h _ _ k r.lo hk hlo (by omega) _ le1 le1);have C2:=hQ (fun(wx:World) (hx:h.le wx)=>compare_any h h _ _ k r.hi hk hhi (by omega) wx hx hx);have HO:=hQ o1;have HLE:=hQ le1;have HS:=hQ hs0
 have HV:hasR r k=(decide (1≤k.length∧k.length≤24) && (decide (0≤cmpI k r.lo) && (r.op || decide (cmpI k r.hi<0)))):=rfl;rw [HV];have c1:=hs0.facts;simp only [CellsAt,Nat.reduceAdd,and_true] at c1;clear hlo hhi hk hle o1 le1 hs0 HV nk;generalize k.length=nk at*;generalize r.lo.length=nl at*;generalize r.hi.length=nh at*;generalize cmpI k r.lo=q1 at*;generalize cmpI k r.hi=q2 at*
 generalize r.op=op at*;by_cases h1:1≤nk∧nk≤24
 · rw [decide_eq_true h1] at IK ⊢
   clear h1;by_cases h2:0≤q1
   · rw [decide_eq_true h2]
     cases op with
     | true=>
       go_enter Tryz.func61,Tryz.ntmps61
       go_wp2_with fail
       refine IK.out.mono ?_;rintro e w1 ⟨rfl,rfl⟩;go_wp2_with fail
       refine C1.out.mono ?_;rintro e w2 ⟨rfl,ho⟩;have hs2:=HS.out.ext ho.heap;have HO2:=hQ (HO.out.trans ho);clear c1;have c1:=hs2.facts;simp only [CellsAt,Nat.reduceAdd,and_true] at c1;clear hs2 ho;go_wp2;go_ret;exact⟨rfl,HO2.out⟩
     | false=>
       simp only [Bool.true_and,Bool.false_or];go_enter Tryz.func61,Tryz.ntmps61
       go_wp2_with fail
       refine IK.out.mono ?_;rintro e w1 ⟨rfl,rfl⟩;go_wp2_with fail
       refine C1.out.mono ?_;rintro e w2 ⟨rfl,ho⟩;have hs2:=HS.out.ext ho.heap;have C3:=hQ (C2.out w2 (HLE.out.only ho));have HO2:=hQ (HO.out.trans ho);clear c1;have c1:=hs2.facts;simp only [CellsAt,Nat.reduceAdd,and_true] at c1;clear hs2 ho;go_wp2_with fail
       refine C3.out.mono ?_;rintro e w3 ⟨rfl,ho3⟩;have HO3:=hQ (HO2.out.trans ho3);clear ho3;go_wp2;go_ret;exact⟨rfl,HO3.out⟩
   · rw [decide_eq_false h2]
     go_enter Tryz.func61,Tryz.ntmps61
     go_wp2_with fail
     refine IK.out.mono ?_;rintro e w1 ⟨rfl,rfl⟩;go_wp2_with fail
     refine C1.out.mono ?_;rintro e w2 ⟨rfl,ho⟩;have HO2:=hQ (HO.out.trans ho);clear ho;go_wp2;go_ret;exact⟨rfl,HO2.out⟩
 · rw [decide_eq_false h1] at IK ⊢
   clear h1;go_enter Tryz.func61,Tryz.ntmps61
   go_wp2_with fail
   refine IK.out.mono ?_;rintro e w1 ⟨rfl,rfl⟩;go_wp2;go_ret;exact⟨rfl,HO.out⟩
theorem rmore_any(h:Hp)(va vb:Value)(A B:List Int)(hA:Bytes h va A)(hB:Bytes h vb B)(nA:A.length≤140737488355000)(nB:B.length≤140737488355000)(F:Pr)(w:World)(hF:Sat ((Pr.own h).star F) w):
 Calls Tryz.prog 146 #[va,vb] w fun e w'=> ∃o,e= .returned o∧Stays w w'∧Sat ((BytesRow o (moreL A B)).star ((Pr.own h).star F)) w':=by
 have CM:=hQ (compare_any h h va vb A B hA hB (by omega) w hF.own hF.own);have FR:=hQ (fun(v:Value) (l:List Int) (hx:Bytes h v l) (hn:l.length≤140737488355000) (wx:World) hF=>copybytes_any h v l F wx hF hx (by omega));have HS:=hQ hF;have HX:=hQ (And.intro (And.intro hA nA) (And.intro hB nB));obtain⟨aa,ca,rfl,_⟩:=bytes_rd hA;obtain⟨ab,cb,rfl,_⟩:=bytes_rd hB;clear hF hA hB nA nB
 by_cases hc:cmpI A B<0
 · have HM:=hQ (show moreL A B=B from by unfold moreL;rw [if_pos hc])
   generalize cmpI A B=q at*;go_enter Tryz.func146,Tryz.ntmps146
   go_wp2_with fail
   refine CM.out.mono ?_;rintro e w1 ⟨rfl,ho⟩;have F1:=hQ (FR.out _ B HX.out.2.1 HX.out.2.2 w1 (HS.out.ext ho.heap));have HST:=hQ ho.st;clear ho CM FR HS;go_wp2_with fail
   refine F1.out.mono ?_;rintro e w2 ⟨o,rfl,hs2,st2⟩;have HS2:=hQ hs2;have HST2:=hQ (HST.out.trans st2);clear hs2 st2;go_wp2;go_ret;rw [HM.out];exact⟨_,rfl,HST2.out,HS2.out⟩
 · have HM:=hQ (show moreL A B=A from by unfold moreL;rw [if_neg hc])
   generalize cmpI A B=q at*;go_enter Tryz.func146,Tryz.ntmps146
   go_wp2_with fail
   refine CM.out.mono ?_;rintro e w1 ⟨rfl,ho⟩;have F1:=hQ (FR.out _ A HX.out.1.1 HX.out.1.2 w1 (HS.out.ext ho.heap));have HST:=hQ ho.st;clear ho CM FR HS;go_wp2_with fail
   refine F1.out.mono ?_;rintro e w2 ⟨o,rfl,hs2,st2⟩;have HS2:=hQ hs2;have HST2:=hQ (HST.out.trans st2);clear hs2 st2;go_wp2;go_ret;rw [HM.out];exact⟨_,rfl,HST2.out,HS2.out⟩
theorem rless_any(h:Hp)(va vb:Value)(A B:List Int)(hA:Bytes h va A)(hB:Bytes h vb B)(nA:A.length≤140737488355000)(nB:B.length≤140737488355000)(F:Pr)(w:World)(hF:Sat ((Pr.own h).star F) w):
 Calls Tryz.prog 147 #[va,vb] w fun e w'=> ∃o,e= .returned o∧Stays w w'∧Sat ((BytesRow o (lessL A B)).star ((Pr.own h).star F)) w':=by
 have CM:=hQ (compare_any h h va vb A B hA hB (by omega) w hF.own hF.own);have FR:=hQ (fun(v:Value) (l:List Int) (hx:Bytes h v l) (hn:l.length≤140737488355000) (wx:World) hF=>copybytes_any h v l F wx hF hx (by omega));have HS:=hQ hF;have HX:=hQ (And.intro (And.intro hA nA) (And.intro hB nB));obtain⟨aa,ca,rfl,_⟩:=bytes_rd hA;obtain⟨ab,cb,rfl,_⟩:=bytes_rd hB;clear hF hA hB nA nB
 by_cases hc:0<cmpI A B
 · have HM:=hQ (show lessL A B=B from by unfold lessL;rw [if_pos hc])
   generalize cmpI A B=q at*;go_enter Tryz.func147,Tryz.ntmps147
   go_wp2_with fail
   refine CM.out.mono ?_;rintro e w1 ⟨rfl,ho⟩;have F1:=hQ (FR.out _ B HX.out.2.1 HX.out.2.2 w1 (HS.out.ext ho.heap));have HST:=hQ ho.st;clear ho CM FR HS;go_wp2_with fail
   refine F1.out.mono ?_;rintro e w2 ⟨o,rfl,hs2,st2⟩;have HS2:=hQ hs2;have HST2:=hQ (HST.out.trans st2);clear hs2 st2;go_wp2;go_ret;rw [HM.out];exact⟨_,rfl,HST2.out,HS2.out⟩
 · have HM:=hQ (show lessL A B=A from by unfold lessL;rw [if_neg hc])
   generalize cmpI A B=q at*;go_enter Tryz.func147,Tryz.ntmps147
   go_wp2_with fail
   refine CM.out.mono ?_;rintro e w1 ⟨rfl,ho⟩;have F1:=hQ (FR.out _ A HX.out.1.1 HX.out.1.2 w1 (HS.out.ext ho.heap));have HST:=hQ ho.st;clear ho CM FR HS;go_wp2_with fail
   refine F1.out.mono ?_;rintro e w2 ⟨o,rfl,hs2,st2⟩;have HS2:=hQ hs2;have HST2:=hQ (HST.out.trans st2);clear hs2 st2;go_wp2;go_ret;rw [HM.out];exact⟨_,rfl,HST2.out,HS2.out⟩
theorem rmeet_any(h:Hp)(ra rb:Value)(A B:RangeV)(hA:RangeIn h ra A)(hB:RangeIn h rb B)(nA:RLen 140737488355000 A)(nB:RLen 140737488355000 B)(F:Pr)(w:World)(hF:Sat ((Pr.own h).star F) w):
 Calls Tryz.prog 123 #[ra,rb] w fun e w'=>Stays w w'∧∃h' rv,e= .returned rv∧RangeIn h' rv (meetR A B)∧Sat ((Pr.own h').star ((Pr.own h).star F)) w':=by
 obtain⟨la,ha,rfl,hla,hha⟩:=hA;obtain⟨lb,hb,rfl,hlb,hhb⟩:=hB;obtain⟨al,cl,rfl,_⟩:=bytes_rd hla;obtain⟨ah,ch,rfl,_⟩:=bytes_rd hha;obtain⟨bl,dl,rfl,_⟩:=bytes_rd hlb;obtain⟨bh,dh,rfl,_⟩:=bytes_rd hhb;have MO:=hQ (fun(G:Pr) (wx:World) hF=>rmore_any h _ _ A.lo B.lo hla hlb nA.lo nB.lo G wx hF);have LE:=hQ (fun(G:Pr) (wx:World) hF=>rless_any h _ _ A.hi B.hi hha hhb nA.hi nB.hi G wx hF)
 have FA:=hQ (fun(G:Pr) (wx:World) hF=>copybytes_any h _ A.hi G wx hF hha (Nat.le_trans nA.hi (by omega)));have FB:=hQ (fun(G:Pr) (wx:World) hF=>copybytes_any h _ B.hi G wx hF hhb (Nat.le_trans nB.hi (by omega)));have hF1:=OwnL.in1 hF;unfold meetR;clear hF hla hha hlb hhb nA nB;cases hao:A.op with
 | true=>
   cases hbo:B.op with
   | true=>
     simp only [Bool.and_true,if_true];have hs0:=((hF1.alloc (rangeC (.slice al A.lo.length cl) (.slice ah A.hi.length ch) true)).alloc (rangeC (.slice bl B.lo.length dl) (.slice bh B.hi.length dh) true)).alloc (rangeC (.slice none 0 0) (.slice none 0 0) false)
     rw [show ((w.alloc (rangeC (.slice al A.lo.length cl) (.slice ah A.hi.length ch) true)).alloc (rangeC (.slice bl B.lo.length dl) (.slice bh B.hi.length dh) true)).heap.size=w.heap.size+1+1 by simp,show (w.alloc (rangeC (.slice al A.lo.length cl) (.slice ah A.hi.length ch) true)).heap.size=w.heap.size+1 by simp] at hs0
     have HST:=hQ ((((Stays.refl w).alloc (rangeC (.slice al A.lo.length cl) (.slice ah A.hi.length ch) true)).alloc (rangeC (.slice bl B.lo.length dl) (.slice bh B.hi.length dh) true)).alloc (rangeC (.slice none 0 0) (.slice none 0 0) false));have V0:=hQ (MO.out _ _ (hs0.pull1 (A1:=Pr.own h)));have c1:=hs0.facts;simp only [CellsAt,Nat.reduceAdd,and_true] at c1;clear hF1 hs0
     go_enter Tryz.func123,Tryz.ntmps123
     go_wp2_with fail
     refine V0.out.mono ?_;rintro e w5 ⟨ov,rfl,st5,hs9⟩;generalize w.heap.size+1+1=BR at*;generalize w.heap.size+1=BB at*;generalize w.heap.size=BA at*;obtain⟨ao,co,rfl⟩:=Row.shape hs9;have hs1:=(OwnL.of2 hs9).alloc (rangeC (.slice ao (moreL A.lo B.lo).length co) (.slice none 0 0) false)
     have HST1:=hQ ((HST.out.trans st5).alloc (rangeC (.slice ao (moreL A.lo B.lo).length co) (.slice none 0 0) false));clear c1;have c1:=(OwnL.of2 hs9).facts;simp only [CellsAt,Nat.reduceAdd,and_true] at c1;have HS1:=hQ hs1;have HS9:=hQ (OwnL.of2 hs9);have HST9:=hQ (HST.out.trans st5);clear hs9 hs1 st5 V0 HST MO;go_wp2
     have h5:=(((HS9.out.set BR 0 (.slice ao (moreL A.lo B.lo).length co)).set BR 1 (.slice none 0 0)).set BR 2 (.bool true)).alloc (rangeC (.slice ao (moreL A.lo B.lo).length co) (.slice none 0 0) true)
     have HST5:=hQ ((((HST9.out.setCell ⟨BR,0,none⟩ (.slice ao (moreL A.lo B.lo).length co)).setCell ⟨BR,1,none⟩ (.slice none 0 0)).setCell ⟨BR,2,none⟩ (.bool true)).alloc (rangeC (.slice ao (moreL A.lo B.lo).length co) (.slice none 0 0) true));refine bodyPost_ret (results_cell_row rfl _ _ BR _ _ _ _ rfl (h5.pts BR).pts_heap Tryz.underlying64 rfl sizeRange) rfl ?_
     obtain⟨h',ha,h6⟩:=h5.arena (BytesRow (.slice ao (moreL A.lo B.lo).length co) (moreL A.lo B.lo));exact⟨HST5.out,h',_,rfl,⟨_,_,rfl,row_bytes ha,RowIn.nil _ _⟩,(h6.to (M:= [Pr.own h',Pr.own h,F])).sat.perm (by simp only [starL,Pr.star_emp])⟩
   | false=>
     simp only [Bool.and_false,Bool.false_eq_true,if_false,if_true];have hs0:=((hF1.alloc (rangeC (.slice al A.lo.length cl) (.slice ah A.hi.length ch) true)).alloc (rangeC (.slice bl B.lo.length dl) (.slice bh B.hi.length dh) false)).alloc (rangeC (.slice none 0 0) (.slice none 0 0) false)
     rw [show ((w.alloc (rangeC (.slice al A.lo.length cl) (.slice ah A.hi.length ch) true)).alloc (rangeC (.slice bl B.lo.length dl) (.slice bh B.hi.length dh) false)).heap.size=w.heap.size+1+1 by simp,show (w.alloc (rangeC (.slice al A.lo.length cl) (.slice ah A.hi.length ch) true)).heap.size=w.heap.size+1 by simp] at hs0
     have HST:=hQ ((((Stays.refl w).alloc (rangeC (.slice al A.lo.length cl) (.slice ah A.hi.length ch) true)).alloc (rangeC (.slice bl B.lo.length dl) (.slice bh B.hi.length dh) false)).alloc (rangeC (.slice none 0 0) (.slice none 0 0) false));have V0:=hQ (MO.out _ _ (hs0.pull1 (A1:=Pr.own h)));have c1:=hs0.facts;simp only [CellsAt,Nat.reduceAdd,and_true] at c1;clear hF1 hs0
     go_enter Tryz.func123,Tryz.ntmps123
     go_wp2_with fail
     refine V0.out.mono ?_;rintro e w5 ⟨ov,rfl,st5,hs9⟩;generalize w.heap.size+1+1=BR at*;generalize w.heap.size+1=BB at*;generalize w.heap.size=BA at*;obtain⟨ao,co,rfl⟩:=Row.shape hs9;have hs1:=(OwnL.of2 hs9).alloc (rangeC (.slice ao (moreL A.lo B.lo).length co) (.slice none 0 0) false)
     have HST1:=hQ ((HST.out.trans st5).alloc (rangeC (.slice ao (moreL A.lo B.lo).length co) (.slice none 0 0) false));clear c1;have c1:=(OwnL.of2 hs9).facts;simp only [CellsAt,Nat.reduceAdd,and_true] at c1;have HS1:=hQ hs1;have HS9:=hQ (OwnL.of2 hs9);have HST9:=hQ (HST.out.trans st5);clear hs9 hs1 st5 V0 HST MO;have V:=hQ (FB.out _ _ (HS1.out.pull1 (A1:=Pr.own h)));go_wp2_with fail
     refine V.out.mono ?_;rintro e w6 ⟨hv,rfl,hs9,st5⟩;have hs10:=OwnL.of2 hs9;obtain⟨ai,ci,rfl⟩:=Row.shape hs9;clear c1;have c1:=hs10.facts;simp only [CellsAt,Nat.reduceAdd,and_true] at c1;have HS10:=hQ hs10;have HST10:=hQ (HST1.out.trans st5);clear hs9 hs10 st5 V HS1 HST1 HS9 HST9;generalize w5.heap.size=J at*;go_wp2
     have h5:=(((HS10.out.set J 1 (.slice ai (B.hi).length ci)).set BR 0 (.slice ao (moreL A.lo B.lo).length co)).set BR 1 (.slice ai (B.hi).length ci)).set BR 2 (.bool false);have HST5:=hQ ((((HST10.out.setCell ⟨J,1,none⟩ (.slice ai (B.hi).length ci)).setCell ⟨BR,0,none⟩ (.slice ao (moreL A.lo B.lo).length co)).setCell ⟨BR,1,none⟩ (.slice ai (B.hi).length ci)).setCell ⟨BR,2,none⟩ (.bool false))
     refine bodyPost_ret (results_cell_row rfl _ _ BR _ _ _ _ rfl (h5.pts BR).pts_heap Tryz.underlying64 rfl sizeRange) rfl ?_;obtain⟨h',ha,h6⟩:=(h5.join2 (BytesRow (.slice ao (moreL A.lo B.lo).length co) (moreL A.lo B.lo)) (BytesRow (.slice ai (B.hi).length ci) (B.hi))).arena ((BytesRow (.slice ao (moreL A.lo B.lo).length co) (moreL A.lo B.lo)).star (BytesRow (.slice ai (B.hi).length ci) (B.hi)))
     obtain⟨p,q,hp,hq,s1,s2⟩:=star_sub ha;exact⟨HST5.out,h',_,rfl,⟨_,_,rfl,(row_bytes hp).sub s1,(row_bytes hq).sub s2⟩,(h6.to (M:= [Pr.own h',Pr.own h,F])).sat.perm (by simp only [starL,Pr.star_emp])⟩
 | false=>
   cases hbo:B.op with
   | true=>
     simp only [Bool.false_and,Bool.false_eq_true,if_false,if_true];have hs0:=((hF1.alloc (rangeC (.slice al A.lo.length cl) (.slice ah A.hi.length ch) false)).alloc (rangeC (.slice bl B.lo.length dl) (.slice bh B.hi.length dh) true)).alloc (rangeC (.slice none 0 0) (.slice none 0 0) false)
     rw [show ((w.alloc (rangeC (.slice al A.lo.length cl) (.slice ah A.hi.length ch) false)).alloc (rangeC (.slice bl B.lo.length dl) (.slice bh B.hi.length dh) true)).heap.size=w.heap.size+1+1 by simp,show (w.alloc (rangeC (.slice al A.lo.length cl) (.slice ah A.hi.length ch) false)).heap.size=w.heap.size+1 by simp] at hs0
     have HST:=hQ ((((Stays.refl w).alloc (rangeC (.slice al A.lo.length cl) (.slice ah A.hi.length ch) false)).alloc (rangeC (.slice bl B.lo.length dl) (.slice bh B.hi.length dh) true)).alloc (rangeC (.slice none 0 0) (.slice none 0 0) false));have V0:=hQ (MO.out _ _ (hs0.pull1 (A1:=Pr.own h)));have c1:=hs0.facts;simp only [CellsAt,Nat.reduceAdd,and_true] at c1;clear hF1 hs0
     go_enter Tryz.func123,Tryz.ntmps123
     go_wp2_with fail
     refine V0.out.mono ?_;rintro e w5 ⟨ov,rfl,st5,hs9⟩;generalize w.heap.size+1+1=BR at*;generalize w.heap.size+1=BB at*;generalize w.heap.size=BA at*;obtain⟨ao,co,rfl⟩:=Row.shape hs9;have hs1:=(OwnL.of2 hs9).alloc (rangeC (.slice ao (moreL A.lo B.lo).length co) (.slice none 0 0) false)
     have HST1:=hQ ((HST.out.trans st5).alloc (rangeC (.slice ao (moreL A.lo B.lo).length co) (.slice none 0 0) false));clear c1;have c1:=(OwnL.of2 hs9).facts;simp only [CellsAt,Nat.reduceAdd,and_true] at c1;have HS1:=hQ hs1;have HS9:=hQ (OwnL.of2 hs9);have HST9:=hQ (HST.out.trans st5);clear hs9 hs1 st5 V0 HST MO;have V:=hQ (FA.out _ _ (HS1.out.pull1 (A1:=Pr.own h)));go_wp2_with fail
     refine V.out.mono ?_;rintro e w6 ⟨hv,rfl,hs9,st5⟩;have hs10:=OwnL.of2 hs9;obtain⟨ai,ci,rfl⟩:=Row.shape hs9;clear c1;have c1:=hs10.facts;simp only [CellsAt,Nat.reduceAdd,and_true] at c1;have HS10:=hQ hs10;have HST10:=hQ (HST1.out.trans st5);clear hs9 hs10 st5 V HS1 HST1 HS9 HST9;generalize w5.heap.size=J at*;go_wp2
     have h5:=(((HS10.out.set J 1 (.slice ai (A.hi).length ci)).set BR 0 (.slice ao (moreL A.lo B.lo).length co)).set BR 1 (.slice ai (A.hi).length ci)).set BR 2 (.bool false);have HST5:=hQ ((((HST10.out.setCell ⟨J,1,none⟩ (.slice ai (A.hi).length ci)).setCell ⟨BR,0,none⟩ (.slice ao (moreL A.lo B.lo).length co)).setCell ⟨BR,1,none⟩ (.slice ai (A.hi).length ci)).setCell ⟨BR,2,none⟩ (.bool false))
     refine bodyPost_ret (results_cell_row rfl _ _ BR _ _ _ _ rfl (h5.pts BR).pts_heap Tryz.underlying64 rfl sizeRange) rfl ?_;obtain⟨h',ha,h6⟩:=(h5.join2 (BytesRow (.slice ao (moreL A.lo B.lo).length co) (moreL A.lo B.lo)) (BytesRow (.slice ai (A.hi).length ci) (A.hi))).arena ((BytesRow (.slice ao (moreL A.lo B.lo).length co) (moreL A.lo B.lo)).star (BytesRow (.slice ai (A.hi).length ci) (A.hi)))
     obtain⟨p,q,hp,hq,s1,s2⟩:=star_sub ha;exact⟨HST5.out,h',_,rfl,⟨_,_,rfl,(row_bytes hp).sub s1,(row_bytes hq).sub s2⟩,(h6.to (M:= [Pr.own h',Pr.own h,F])).sat.perm (by simp only [starL,Pr.star_emp])⟩
   | false=>
     simp only [Bool.false_and,Bool.false_eq_true,if_false];have hs0:=((hF1.alloc (rangeC (.slice al A.lo.length cl) (.slice ah A.hi.length ch) false)).alloc (rangeC (.slice bl B.lo.length dl) (.slice bh B.hi.length dh) false)).alloc (rangeC (.slice none 0 0) (.slice none 0 0) false)
     rw [show ((w.alloc (rangeC (.slice al A.lo.length cl) (.slice ah A.hi.length ch) false)).alloc (rangeC (.slice bl B.lo.length dl) (.slice bh B.hi.length dh) false)).heap.size=w.heap.size+1+1 by simp,show (w.alloc (rangeC (.slice al A.lo.length cl) (.slice ah A.hi.length ch) false)).heap.size=w.heap.size+1 by simp] at hs0
     have HST:=hQ ((((Stays.refl w).alloc (rangeC (.slice al A.lo.length cl) (.slice ah A.hi.length ch) false)).alloc (rangeC (.slice bl B.lo.length dl) (.slice bh B.hi.length dh) false)).alloc (rangeC (.slice none 0 0) (.slice none 0 0) false));have V0:=hQ (MO.out _ _ (hs0.pull1 (A1:=Pr.own h)));have c1:=hs0.facts;simp only [CellsAt,Nat.reduceAdd,and_true] at c1;clear hF1 hs0
     go_enter Tryz.func123,Tryz.ntmps123
     go_wp2_with fail
     refine V0.out.mono ?_;rintro e w5 ⟨ov,rfl,st5,hs9⟩;generalize w.heap.size+1+1=BR at*;generalize w.heap.size+1=BB at*;generalize w.heap.size=BA at*;obtain⟨ao,co,rfl⟩:=Row.shape hs9;have hs1:=(OwnL.of2 hs9).alloc (rangeC (.slice ao (moreL A.lo B.lo).length co) (.slice none 0 0) false)
     have HST1:=hQ ((HST.out.trans st5).alloc (rangeC (.slice ao (moreL A.lo B.lo).length co) (.slice none 0 0) false));clear c1;have c1:=(OwnL.of2 hs9).facts;simp only [CellsAt,Nat.reduceAdd,and_true] at c1;have HS1:=hQ hs1;have HS9:=hQ (OwnL.of2 hs9);have HST9:=hQ (HST.out.trans st5);clear hs9 hs1 st5 V0 HST MO;have V:=hQ (LE.out _ _ (HS1.out.pull1 (A1:=Pr.own h)));go_wp2_with fail
     refine V.out.mono ?_;rintro e w6 ⟨hv,rfl,st5,hs9⟩;have hs10:=OwnL.of2 hs9;obtain⟨ai,ci,rfl⟩:=Row.shape hs9;clear c1;have c1:=hs10.facts;simp only [CellsAt,Nat.reduceAdd,and_true] at c1;have HS10:=hQ hs10;have HST10:=hQ (HST1.out.trans st5);clear hs9 hs10 st5 V HS1 HST1 HS9 HST9;generalize w5.heap.size=J at*;go_wp2
     have h5:=(((HS10.out.set J 1 (.slice ai (lessL A.hi B.hi).length ci)).set BR 0 (.slice ao (moreL A.lo B.lo).length co)).set BR 1 (.slice ai (lessL A.hi B.hi).length ci)).set BR 2 (.bool false)
     have HST5:=hQ ((((HST10.out.setCell ⟨J,1,none⟩ (.slice ai (lessL A.hi B.hi).length ci)).setCell ⟨BR,0,none⟩ (.slice ao (moreL A.lo B.lo).length co)).setCell ⟨BR,1,none⟩ (.slice ai (lessL A.hi B.hi).length ci)).setCell ⟨BR,2,none⟩ (.bool false));refine bodyPost_ret (results_cell_row rfl _ _ BR _ _ _ _ rfl (h5.pts BR).pts_heap Tryz.underlying64 rfl sizeRange) rfl ?_
     obtain⟨h',ha,h6⟩:=(h5.join2 (BytesRow (.slice ao (moreL A.lo B.lo).length co) (moreL A.lo B.lo)) (BytesRow (.slice ai (lessL A.hi B.hi).length ci) (lessL A.hi B.hi))).arena ((BytesRow (.slice ao (moreL A.lo B.lo).length co) (moreL A.lo B.lo)).star (BytesRow (.slice ai (lessL A.hi B.hi).length ci) (lessL A.hi B.hi)));obtain⟨p,q,hp,hq,s1,s2⟩:=star_sub ha
     exact⟨HST5.out,h',_,rfl,⟨_,_,rfl,(row_bytes hp).sub s1,(row_bytes hq).sub s2⟩,(h6.to (M:= [Pr.own h',Pr.own h,F])).sat.perm (by simp only [starL,Pr.star_emp])⟩
end Go.Proofs.YtiegeadmgpanoaaGreatDoor.B6
