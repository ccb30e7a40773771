/- The law's near: Get, Ceil, Floor and Path of a key that is there, and of the row right above it; the conditions stand as hypotheses. -/
import Derived.Test.YtiegeadmgpanoaaGreatDoorWalkAgreesM08
import Derived.Test.YtiegeadmgpanoaaGreatDoorWalkAgreesM07
import Derived.Test.YtiegeadmgpanoaaGreatDoorWalkChecksM28
import Derived.Test.YtiegeadmgpanoaaGreatDoorWalkChecksM03
import Derived.Test.YtiegeadmgpanoaaGreatDoorWalkAgreesM01
import Derived.Test.YtiegeadmgpanoaaGreatDoorWalkChecksM13
import Derived.Test.YtiegeadmgpanoaaGreatDoorWalkAgreesM02
import Derived.Test.YtiegeadmgpanoaaGreatDoorWalkChecksM15
import Derived.Test.YtiegeadmgpanoaaGreatDoorWalkAgreesM03
import Derived.Deep.CutRange
import Derived.Deep.Cut
import Derived.Test.YtiegeadmgpanoaaGreatDoorWalkChecksM01
set_option maxRecDepth 100000
set_option maxHeartbeats 16000000
namespace Go.Proofs.YtiegeadmgpanoaaGreatDoor.Z8
open ChangeShapes WideShapes ChangeAt RowKit Sl Cop Go.Shelf D2 F3 N3 P3 G2 J2 Q3 V3 G4 K4 X3 M5 P5 U5 W5 N2 P2 L6 S6 J7 N5 S5 K7 V7 Z7 B8 C8 N8 G6 J6 T6 B6 M2 N7 M7 K3 C4 D4 F4 M4 G5 K5 F6 D7 K8 Q7 T8 M8 X5 Y5 X7 V8 P8
attribute [local go_sem] Oper.semAt_some
theorem eqrow_in(a b:Value)(V:List Int)(hn:V.length≤9000000000000000000)(y:Hp)(hy:Bytes y b V)(F:Pr)(w:World)(h:Sat ((BytesRow a V).star ((Pr.own y).star F)) w):
 Calls Tryz.prog 16 #[a,b] w fun e w'=>e= .returned (.bool true)∧Only w w':=by
 obtain⟨x,hx,h1⟩:=h.toOwn;exact eq_same x y a b V (Row.rowIn hx) hy hn w h1.own h1.right.own
theorem eqpair_in(a b c d:Value)(A B:List Int)(hn:A.length≤9000000000000000000)(hm:B.length≤9000000000000000000)(y:Hp)(hc:Bytes y c A)(hd:Bytes y d B)(F:Pr)(w:World)(h:Sat ((BytesRow a A).star ((BytesRow b B).star ((Pr.own y).star F))) w):
 Calls Tryz.prog 19 #[pairV a b,pairV c d] w fun e w'=>e= .returned (.bool true)∧Only w w':=by
 obtain⟨x,hx,h1⟩:=(h.perm (B:=((BytesRow a A).star (BytesRow b B)).star ((Pr.own y).star F)) (by ac_rfl)).toOwn;obtain⟨x1,x2,g1,g2,s1,s2⟩:=star_sub hx;exact eqpair_same x y a b c d A B ((Row.rowIn g1).sub s1) ((Row.rowIn g2).sub s2) hc hd hn hm w h1.own h1.right.own
theorem hkey9 {look:Int→Option PageV}(ok:PgsOk look){n:Int}{g:PageV}(h:look n=some g){x:ItemV}(hx:x∈g.items):x.key.length≤65536:=by
 have:=((fit_of_check (ok.chk n g h)).k x hx).1
 omega
def isB(o:Option ItemV)(k:List Int):Bool:=match o with | some y=>cmpI y.key k == 0 | none=>false
theorem near_any(v:Nat)(s:VaultS)(look:Int→Option PageV)(hl:L6.Looks s look)(okp:PgsOk look)(root height items:Int)(L:List ItemV)(hT:StandT look root height items L)(hw:Hp)(av:Value)(zs:List PairX)(hPI:PairsIn hw av zs)(hz:zs.map (·.2)=L.map (pairK look))(hg:Hp)(GE:EveryIn hg)(i:Nat)(hi:i<L.length)(F:Pr)(w:World)(hF:OwnL [VaultA v s,Pr.own hw,Pr.own hg,F] w):
 Calls Tryz.prog 29 #[.pointer (some ⟨v,0,none⟩),treeV root height items,av,.int .i64 i] w fun e w'=>e= .returned (.bool true)∧Stays w w'∧OwnL [VaultA v s,Pr.own hw,Pr.own hg,F] w':=by
 obtain⟨hsd,_,hu⟩:=stand_facts okp hT;have hzl:zs.length=L.length:=by have:=congrArg List.length hz;simpa using this
 have hLn:=stand_len okp hT;have hiz:i<zs.length:=by omega
 obtain⟨ab0,ac,rfl,_,_,rd⟩:=pairs_rd hPI;obtain⟨b,off,k1,n1,k2,n2,rfl,e1,e2,hc⟩:=rd i hiz;obtain⟨p1,p2⟩:=hPI.2 _ (List.getElem_mem hiz);have ez:=zs_at look hz hiz hi;rw [e1,ez] at p1;rw [e2,ez] at p2;rw [ez] at hc;dsimp only at p1 p2 hc;clear e1 e2 ez;have NG:=near_get okp hT hi;have NC:=near_ceil hsd hi;have NF:=near_floor hsd hi;have NC2:=near_ceil2 hsd hi hu;have NF2:=near_floor2 hsd hi
 have NF3:=near_floor3 hsd hi hu;have NW:=near_way okp hT hi;have hux:=hu _ (List.getElem_mem hi);have hkx:=(stand_key hT _ (List.getElem_mem hi)).2;generalize hX:L[i]=X at*;have hs1:=hF.alloc (treeC root height items);have HST1:=hQ ((Stays.refl w).alloc (treeC root height items));have HH:=hQ (And.intro hl (And.intro okp GE));have HT:=hQ hT;have HP:=hQ (And.intro p1 p2)
 have HU:=hQ (And.intro hux hkx);have HNG:=hQ NG;have HNC:=hQ NC;have HNF:=hQ NF;have HN2:=hQ (And.intro NC2 (And.intro NF2 NF3));have HNW:=hQ NW;have HC:=hQ hc;have HRD:=hQ (And.intro rd (And.intro hPI hz));have HVL:=hQ (show (valK look X).length≤3840 from value_len _ _ _ _);have HX:=hQ hX;have hii:(i:Int)<zs.length:=by omega
 have hzn:(zs.length:Int)≤68719476736:=by omega
 have HZL:=hQ hzl;clear hF hl okp GE hT p1 p2 hux hkx NG NC NF NC2 NF2 NF3 NW hc rd hPI hz hX hsd hu hLn hiz hzl;have HS1:=hQ hs1;clear hs1;go_enter Tryz.func29,Tryz.ntmps29
 go_wp2_with fail
 have hs1:=HS1.out;have HSQ:=HST1.out;clear HS1 HST1;generalize w.heap.size=TB at*;generalize w.alloc (treeC root height items)=w1 at*;have HST1:=hQ HSQ;clear HSQ;have c1:=hs1.facts;simp only [CellsAt,Nat.reduceAdd,and_true] at c1;obtain⟨d0,d1⟩:=HC.out w1 (hs1.le (a:=hw));have zb:=World.block_lt_of_cell? _ _ d0;simp only at zb
 have R1:=get_any v s look HH.out.1 HH.out.2.1 hw _ X.key HP.out.1 HU.out.1 (by have:=HU.out.2;omega) root height items L HT.out _ _ (OwnL.in2 (hs1.drew.pull2 (A1:=VaultA v s) (A2:=Pr.own hw)));rw [HNG.out.1,HNG.out.2.1,HNG.out.2.2] at R1;have RR:=hQ R1;clear hs1 R1;refine wS 240 [0,1,2,3,4,5,6] [(7,[8,9,10,11,12,13,14],[2,3,4,5])] ?_;refine wpQ_all _ rfl rfl ?_;simp only [pick,pQ]
 iterate 7 (go_big_quiet_step (fail))
 refine wpQuiet_nil ?_;refine wpRest_act rfl ?_;go_wp2_with fail
 refine RR.out.mono ?_;rintro e w2 ⟨st2,o1,rfl,hs2⟩;have hs3:=hs2.flat;obtain⟨o1a,o1c,rfl⟩:=Row.shape (hs3.pull1 (A1:=BytesRow o1 (valK look X)));have HST2:=hQ (HST1.out.drew.trans st2);clear c1 d0 d1 zb;have c1:=hs3.facts;simp only [CellsAt,Nat.reduceAdd,and_true] at c1;obtain⟨d0,d1⟩:=HC.out w2 (hs3.le (a:=hw));have zb:=World.block_lt_of_cell? _ _ d0;simp only at zb
 have EQ:=hQ (eqrow_in _ _ (valK look X) (by have:=HVL.out;omega) hw HP.out.2 _ _ (hs3.pull2 (A1:=BytesRow (.slice o1a (valK look X).length o1c) (valK look X)) (A2:=Pr.own hw)));have HS3:=hQ hs3;clear hs2 hs3 st2 RR HST1;go_wp2;refine onN_mk ?_;refine wpQ_all _ rfl rfl ?_;simp only [pick,pQ];iterate 7 (go_big_quiet_step (fail))
 refine wpQuiet_nil ⟨?_,?_⟩
 · exact cQ
 refine wpRest_nil ?_;go_wp2_with fail
 refine EQ.out.mono ?_;rintro e w3 ⟨rfl,ho3⟩;have hs4:OwnL _ w3:=⟨HS3.out.sat.only ho3⟩;have HS:=hQ (hs4.to (M:= [VaultA v s,Pr.own hw,Pr.own hg,Pr.pts TB (treeC root height items),F]));have HST3:=hQ (HST2.out.trans ho3.st);clear HS3 HST2 EQ ho3 hs4 c1 d0 d1 zb;go_wp2_with fail
 go_cut [12,10,13] from 53 to 65 (fun t1 t2 t3 wx=> ∃(J:Nat) (pa pb:Option Addr) (ca cb:Nat),t1= .pointer (some ⟨J,0,none⟩)∧t2= .bool true∧t3= .int .i64 0∧Stays w wx∧
  OwnL [Pr.pts J (pairC (.slice pa (X.key).length ca) (.slice pb (valK look X).length cb)),BytesRow (.slice pa (X.key).length ca) (X.key),BytesRow (.slice pb (valK look X).length cb) (valK look X),VaultA v s,Pr.own hw,Pr.own hg,Pr.pts TB (treeC root height items),F] wx)
 case first=>
  have hs20:=HS.out;have c1:=hs20.facts;simp only [CellsAt,Nat.reduceAdd,and_true] at c1;obtain⟨d0,d1⟩:=HC.out w3 (hs20.le (a:=hw));have zb:=World.block_lt_of_cell? _ _ d0;simp only at zb
  refine wp_region_forked (sz:=240) (by kernel_rfl) [0,1,2,3,4,5,6] [(12,[],[0,1,2,3,4,5,6],[(7,[8,9,10,11],[2,3,4,5]),(13,[14,15],[10,11])]),(7,[8,9,10,11],[2,3,4,5],[(12,[],[2,3,4,5,8,9,10,11]),(13,[14,15],[10,11])])] rfl (by kernel_rfl) (by kernel_rfl) (by kernel_rfl) ?_;refine wpQ_all _ rfl rfl ?_;simp only [pick,pQ];iterate 7 (go_big_quiet_step (fail))
  refine wpQuiet_nil ?_;intro sx hsx;rcases List.mem_cons.1 hsx with rfl | hsx
  · have hs8:=hs20.drew.alloc (pairC (.slice none 0 0) (.slice none 0 0))
    have RV0:=ceil_any v s look HH.out.1 HH.out.2.1 root height items L HT.out _ X.key hw HP.out.1 HU.out.1 (by have:=HU.out.2;omega) _ _ (OwnL.in2 (hs8.pull2 (A1:=VaultA v s) (A2:=Pr.own hw)));rw [ceil_same HT.out X.key,HNC.out] at RV0;simp only [optK,optV,Option.isSome_some] at RV0;have RV:=hQ RV0;clear RV0;have HSTA:=hQ (HST3.out.drew.alloc (pairC (.slice none 0 0) (.slice none 0 0)));clear hs8
    refine wpRest_act rfl ?_;go_wp2;refine onN_mk ?_;refine wpQ_nil ⟨?_,?_⟩
    · exact cQ
    refine wpRest_act rfl ?_;go_wp2_with fail
    refine RV.out.mono ?_;rintro e w11 ⟨st11,pv,qv,rfl,hs9⟩;have hs10:=hs9.flat;rw [show w3.drew.heap.size=w3.heap.size by simp] at hs10;obtain⟨pa,ca,rfl⟩:=Row.shape (hs10.pull1 (A1:=BytesRow pv (X.key)));obtain⟨pb,cb,rfl⟩:=Row.shape (hs10.pull1 (A1:=BytesRow qv (valK look X)));dsimp only [pairV];clear c1;have c1:=hs10.facts;simp only [CellsAt,Nat.reduceAdd,and_true] at c1
    have hs11:=(hs10.set w3.heap.size 0 (.slice pa (X.key).length ca)).set w3.heap.size 1 (.slice pb (valK look X).length cb);have HEND:=hQ (And.intro (((HSTA.out.trans st11).setCell ⟨w3.heap.size,0,none⟩ (.slice pa (X.key).length ca)).setCell ⟨w3.heap.size,1,none⟩ (.slice pb (valK look X).length cb)) hs11);clear hs9 hs10 hs11 st11 RV HSTA;go_wp2;refine onN_mk ?_;refine wpQ_all _ rfl rfl ?_
    simp only [pick,pQ];iterate 4 (go_big_quiet_step (fail))
    refine wpQuiet_nil ⟨?_,?_⟩
    · exact cQ
    refine wpRest_act rfl ?_;go_wp2;refine onN_mk ?_;refine wpQ_all _ rfl rfl ?_;simp only [pick,pQ];iterate 2 (go_big_quiet_step (fail))
    refine wpQuiet_nil ⟨?_,?_⟩
    · exact cQ
    refine wpRest_nil ?_;go_wp2;go_meet
    exact⟨_,pa,pb,ca,cb,rfl,rfl,rfl,HEND.out.1,HEND.out.2.to⟩
  · cases List.mem_singleton.1 hsx
    have hs8:=hs20.drew;have RV0:=ceil_any v s look HH.out.1 HH.out.2.1 root height items L HT.out _ X.key hw HP.out.1 HU.out.1 (by have:=HU.out.2;omega) _ _ (OwnL.in2 (hs8.pull2 (A1:=VaultA v s) (A2:=Pr.own hw)));rw [ceil_same HT.out X.key,HNC.out] at RV0;simp only [optK,optV,Option.isSome_some] at RV0;have RV:=hQ RV0;clear RV0;clear hs8;refine wpRest_act rfl ?_;go_wp2_with fail
    refine RV.out.mono ?_;rintro e w11 ⟨st11,pv,qv,rfl,hs9⟩;have hs10:=hs9.flat;obtain⟨pa,ca,rfl⟩:=Row.shape (hs10.pull1 (A1:=BytesRow pv (X.key)));obtain⟨pb,cb,rfl⟩:=Row.shape (hs10.pull1 (A1:=BytesRow qv (valK look X)));dsimp only [pairV];clear c1 d0 d1 zb;have c1:=hs10.facts;simp only [CellsAt,Nat.reduceAdd,and_true] at c1;obtain⟨d0,d1⟩:=HC.out w11 (hs10.le (a:=hw))
    have zb:=World.block_lt_of_cell? _ _ d0;simp only at zb;have hs11:=hs10.alloc (pairC (.slice pa (X.key).length ca) (.slice pb (valK look X).length cb));have HEND:=hQ (And.intro ((HST3.out.drew.trans st11).alloc (pairC (.slice pa (X.key).length ca) (.slice pb (valK look X).length cb))) hs11);clear hs9 hs10 hs11 st11 RV;go_wp2;refine onN_mk ?_;refine wpQ_all _ rfl rfl ?_;simp only [pick,pQ]
    iterate 4 (go_big_quiet_step (fail))
    refine wpQuiet_nil ⟨?_,?_⟩
    · exact cQ
    refine wpRest_act rfl ?_;go_wp2;refine onN_mk ?_;refine wpQ_nil ⟨?_,?_⟩
    · exact cQ
    refine wpRest_act rfl ?_;go_wp2;refine onN_mk ?_;refine wpQ_all _ rfl rfl ?_;simp only [pick,pQ];iterate 2 (go_big_quiet_step (fail))
    refine wpQuiet_nil ⟨?_,?_⟩
    · exact cQ
    refine wpRest_nil ?_;go_wp2;go_meet
    exact⟨_,pa,pb,ca,cb,rfl,rfl,rfl,HEND.out.1,HEND.out.2.to⟩
 case rest=>
  obtain⟨JA,aa,ab,ca1,ca2,rfl,rfl,rfl,st21,hs21⟩:=hcut;rename World=>w4
  have HS4:=hQ hs21;have HST4:=hQ st21;clear hs21 st21 HS HST3;go_wp2_with fail
  go_cut [14,15,16] from 65 to 77 (fun t1 t2 t3 wx=> ∃(J:Nat) (pa pb:Option Addr) (ca cb:Nat),t1= .pointer (some ⟨J,0,none⟩)∧t2= .bool true∧t3= .int .i64 0∧Stays w wx∧
   OwnL [Pr.pts J (pairC (.slice pa (X.key).length ca) (.slice pb (valK look X).length cb)),BytesRow (.slice pa (X.key).length ca) (X.key),BytesRow (.slice pb (valK look X).length cb) (valK look X),Pr.pts JA (pairC (.slice aa (X.key).length ca1) (.slice ab (valK look X).length ca2)),BytesRow (.slice aa (X.key).length ca1) (X.key),BytesRow (.slice ab (valK look X).length ca2) (valK look X),VaultA v s,Pr.own hw,Pr.own hg,Pr.pts TB (treeC root height items),F] wx)
  case first=>
   have hs20:=HS4.out;have c1:=hs20.facts;simp only [CellsAt,Nat.reduceAdd,and_true] at c1;obtain⟨d0,d1⟩:=HC.out w4 (hs20.le (a:=hw));have zb:=World.block_lt_of_cell? _ _ d0;simp only at zb
   refine wp_region_forked (sz:=240) (by kernel_rfl) [0,1,2,3,4,5,6] [(12,[],[0,1,2,3,4,5,6],[(7,[8,9,10,11],[2,3,4,5]),(13,[14,15],[10,11])]),(7,[8,9,10,11],[2,3,4,5],[(12,[],[2,3,4,5,8,9,10,11]),(13,[14,15],[10,11])])] rfl (by kernel_rfl) (by kernel_rfl) (by kernel_rfl) ?_;refine wpQ_all _ rfl rfl ?_;simp only [pick,pQ];iterate 7 (go_big_quiet_step (fail))
   refine wpQuiet_nil ?_;intro sx hsx;rcases List.mem_cons.1 hsx with rfl | hsx
   · have hs8:=hs20.drew.alloc (pairC (.slice none 0 0) (.slice none 0 0))
     have RV0:=floor_any v s look HH.out.1 HH.out.2.1 root height items L HT.out _ X.key hw HP.out.1 HU.out.1 hg HH.out.2.2 _ _ (OwnL.in3 (hs8.pull3 (A1:=VaultA v s) (A2:=Pr.own hw) (A3:=Pr.own hg)));rw [HNF.out] at RV0;simp only [optK,optV,Option.isSome_some] at RV0;have RV:=hQ RV0;clear RV0;have HSTA:=hQ (HST4.out.drew.alloc (pairC (.slice none 0 0) (.slice none 0 0)));clear hs8
     refine wpRest_act rfl ?_;go_wp2;refine onN_mk ?_;refine wpQ_nil ⟨?_,?_⟩
     · exact cQ
     refine wpRest_act rfl ?_;go_wp2_with fail
     refine RV.out.mono ?_;rintro e w11 ⟨st11,pv,qv,rfl,hs9⟩;have hs10:=hs9.flat;rw [show w4.drew.heap.size=w4.heap.size by simp] at hs10;obtain⟨pa,ca,rfl⟩:=Row.shape (hs10.pull1 (A1:=BytesRow pv (X.key)));obtain⟨pb,cb,rfl⟩:=Row.shape (hs10.pull1 (A1:=BytesRow qv (valK look X)));dsimp only [pairV];clear c1;have c1:=hs10.facts;simp only [CellsAt,Nat.reduceAdd,and_true] at c1
     have hs11:=(hs10.set w4.heap.size 0 (.slice pa (X.key).length ca)).set w4.heap.size 1 (.slice pb (valK look X).length cb);have HEND:=hQ (And.intro (((HSTA.out.trans st11).setCell ⟨w4.heap.size,0,none⟩ (.slice pa (X.key).length ca)).setCell ⟨w4.heap.size,1,none⟩ (.slice pb (valK look X).length cb)) hs11);clear hs9 hs10 hs11 st11 RV HSTA;go_wp2;refine onN_mk ?_;refine wpQ_all _ rfl rfl ?_
     simp only [pick,pQ];iterate 4 (go_big_quiet_step (fail))
     refine wpQuiet_nil ⟨?_,?_⟩
     · exact cQ
     refine wpRest_act rfl ?_;go_wp2;refine onN_mk ?_;refine wpQ_all _ rfl rfl ?_;simp only [pick,pQ];iterate 2 (go_big_quiet_step (fail))
     refine wpQuiet_nil ⟨?_,?_⟩
     · exact cQ
     refine wpRest_nil ?_;go_wp2;go_meet
     exact⟨_,pa,pb,ca,cb,rfl,rfl,rfl,HEND.out.1,HEND.out.2.to⟩
   · cases List.mem_singleton.1 hsx
     have hs8:=hs20.drew;have RV0:=floor_any v s look HH.out.1 HH.out.2.1 root height items L HT.out _ X.key hw HP.out.1 HU.out.1 hg HH.out.2.2 _ _ (OwnL.in3 (hs8.pull3 (A1:=VaultA v s) (A2:=Pr.own hw) (A3:=Pr.own hg)));rw [HNF.out] at RV0;simp only [optK,optV,Option.isSome_some] at RV0;have RV:=hQ RV0;clear RV0;clear hs8;refine wpRest_act rfl ?_;go_wp2_with fail
     refine RV.out.mono ?_;rintro e w11 ⟨st11,pv,qv,rfl,hs9⟩;have hs10:=hs9.flat;obtain⟨pa,ca,rfl⟩:=Row.shape (hs10.pull1 (A1:=BytesRow pv (X.key)));obtain⟨pb,cb,rfl⟩:=Row.shape (hs10.pull1 (A1:=BytesRow qv (valK look X)));dsimp only [pairV];clear c1 d0 d1 zb;have c1:=hs10.facts;simp only [CellsAt,Nat.reduceAdd,and_true] at c1;obtain⟨d0,d1⟩:=HC.out w11 (hs10.le (a:=hw))
     have zb:=World.block_lt_of_cell? _ _ d0;simp only at zb;have hs11:=hs10.alloc (pairC (.slice pa (X.key).length ca) (.slice pb (valK look X).length cb));have HEND:=hQ (And.intro ((HST4.out.drew.trans st11).alloc (pairC (.slice pa (X.key).length ca) (.slice pb (valK look X).length cb))) hs11);clear hs9 hs10 hs11 st11 RV;go_wp2;refine onN_mk ?_;refine wpQ_all _ rfl rfl ?_;simp only [pick,pQ]
     iterate 4 (go_big_quiet_step (fail))
     refine wpQuiet_nil ⟨?_,?_⟩
     · exact cQ
     refine wpRest_act rfl ?_;go_wp2;refine onN_mk ?_;refine wpQ_nil ⟨?_,?_⟩
     · exact cQ
     refine wpRest_act rfl ?_;go_wp2;refine onN_mk ?_;refine wpQ_all _ rfl rfl ?_;simp only [pick,pQ];iterate 2 (go_big_quiet_step (fail))
     refine wpQuiet_nil ⟨?_,?_⟩
     · exact cQ
     refine wpRest_nil ?_;go_wp2;go_meet
     exact⟨_,pa,pb,ca,cb,rfl,rfl,rfl,HEND.out.1,HEND.out.2.to⟩
  case rest=>
   obtain⟨JB,ba,bb,cb1,cb2,rfl,rfl,rfl,st21,hs21⟩:=hcut;rename World=>w5
   clear HS4 HST4;have c1:=hs21.facts;simp only [CellsAt,Nat.reduceAdd,and_true] at c1;obtain⟨d0,d1⟩:=HC.out w5 (hs21.le (a:=hw));have zb:=World.block_lt_of_cell? _ _ d0;simp only at zb
   have EP1:=hQ (eqpair_in _ _ _ _ (X.key) (valK look X) (by have:=HU.out.2;omega) (by have:=HVL.out;omega) hw HP.out.1 HP.out.2 _ _ (hs21.drew.pull3 (A1:=BytesRow (.slice aa (X.key).length ca1) (X.key)) (A2:=BytesRow (.slice ab (valK look X).length ca2) (valK look X)) (A3:=Pr.own hw)));have HS5:=hQ hs21;have HST5:=hQ st21;clear hs21 st21;go_wp2_with fail
   refine wS 240 [0,1,2,3,4,5,6,7,8,9,10,11] [(12,[13,14,15,16,17,18,19,20],[0,1,2,3,4,5,8,9,10]),(21,[22,23],[0,1,2,3,4,5,8,9,10,13,14,17,18,19])] ?_;refine wpQ_all _ rfl rfl ?_;simp only [pick,pQ];iterate 12 (go_big_quiet_step (fail))
   refine wpQuiet_nil ?_;refine wpRest_act rfl ?_;go_wp2_with fail
   refine EP1.out.mono ?_;rintro e w6 ⟨rfl,ho6⟩;have hs6:OwnL _ w6:=⟨HS5.out.drew.sat.only ho6⟩;have HST6:=hQ (HST5.out.drew.trans ho6.st);have HS6:=hQ hs6;clear c1 d0 d1 zb;have c1:=hs6.facts;simp only [CellsAt,Nat.reduceAdd,and_true] at c1;obtain⟨d0,d1⟩:=HC.out w6 (hs6.le (a:=hw));have zb:=World.block_lt_of_cell? _ _ d0;simp only at zb
   have EP2:=hQ (eqpair_in _ _ _ _ (X.key) (valK look X) (by have:=HU.out.2;omega) (by have:=HVL.out;omega) hw HP.out.1 HP.out.2 _ _ (hs6.pull3 (A1:=BytesRow (.slice ba (X.key).length cb1) (X.key)) (A2:=BytesRow (.slice bb (valK look X).length cb2) (valK look X)) (A3:=Pr.own hw)));clear HS5 HST5 EP1 ho6 hs6;go_wp2;refine onN_mk ?_;refine wpQ_all _ rfl rfl ?_;simp only [pick,pQ]
   iterate 8 (go_big_quiet_step (fail))
   refine wpQuiet_nil ⟨?_,?_⟩
   · exact cQ
   refine wpRest_act rfl ?_;go_wp2_with fail
   refine EP2.out.mono ?_;rintro e w7 ⟨rfl,ho7⟩;have hs7:OwnL _ w7:=⟨HS6.out.sat.only ho7⟩;have HS7:=hQ (hs7.to (M:= [VaultA v s,Pr.own hw,Pr.own hg,Pr.pts TB (treeC root height items),F]));have HST7:=hQ (HST6.out.trans ho7.st);clear c1 d0 d1 zb;have c1:=hs7.facts;simp only [CellsAt,Nat.reduceAdd,and_true] at c1;obtain⟨d0,d1⟩:=HC.out w7 (hs7.le (a:=hw));have zb:=World.block_lt_of_cell? _ _ d0
   simp only at zb;clear hs7 ho7 EP2 HS6 HST6;go_wp2;refine onN_mk ?_;refine wpQ_all _ rfl rfl ?_;simp only [pick,pQ];iterate 2 (go_big_quiet_step (fail))
   refine wpQuiet_nil ⟨?_,?_⟩
   · exact cQ
   refine wpRest_nil ?_;have CB:=hQ (copybytes_any hw _ X.key _ _ (HS7.out.pull1 (A1:=Pr.own hw)) HP.out.1 (by have:=HU.out.2;omega));go_wp2_with fail
   refine CB.out.mono ?_;rintro e w8 ⟨cv,rfl,hs8,st8⟩;obtain⟨ca0,cc0,rfl⟩:=Row.shape hs8;have hs9:=OwnL.of2 hs8;have hal:=hs9.alloc (.cells [Value.int .u8 0].toArray 5);have A1:=hQ (hal.pull1 (A1:=BytesRow (.slice ca0 X.key.length cc0) X.key));have hnew:=hQ (new_cells w8 [.int .u8 0] 5 _ rfl);have HST8:=hQ ((HST7.out.trans st8).alloc (.cells [Value.int .u8 0].toArray 5))
   have hkl:(X.key.length:Int)≤24:=by have:=HU.out.2;omega
   clear hs8 hs9 hal st8 CB HS7 HST7 c1 d0 d1 zb;obtain⟨i0,hi0,hz0,hz1,hz2⟩:=info_parts infoByte
   go_wp2_with (first
    | (at_builtin
       refine wpList_append_sl rfl _ _ _ rfl 5 i0 (.int .u8 0) 1 1 Tryz.underlying42 hi0 hz0 hz1 hz2 rfl _ _ _ rfl A1.out ⟨w8.heap.size,0,none⟩ 1 1 [.int .u8 0] rfl rfl hnew.out (by simp [Value.oneCell']) (by simp only [maxLen];omega) (by omega) ?_
       intro v9 w9 hs9 hg9 _
       obtain⟨a9,c9,e9,_,_⟩:=Row.read hs9
       subst e9
       have HS9:=hQ (OwnL.of1 hs9)
       have HST9:=hQ (HST8.out.of_grown hg9)
       have c1:=HS9.out.facts
       simp only [CellsAt,Nat.reduceAdd,and_true] at c1
       clear hs9 hg9 A1 hnew HST8))
   obtain⟨ha,hrow,hs10⟩:=HS9.out.arena (Row 5 1 (.slice a9 (X.key.length+1) c9) (X.key.length+1) (X.key.map (Value.int .u8)++ [.int .u8 0]))
   have hb9:Bytes ha (.slice a9 (X.key.length+1) c9) (X.key++ [0]):=by
    have h:=Row.rowIn hrow;unfold Bytes;rw [List.length_append,List.map_append];exact h
   have huu:U8 (X.key++ [0]):=by
    intro z hz;rcases List.mem_append.1 hz with h | h
    · exact HU.out.1 z h
    · rw [List.mem_singleton.1 h];omega
   have hll:(X.key++ [0]).length≤25:=by rw [List.length_append];have:=HU.out.2;simp only [List.length_singleton];omega
   have HB9:=hQ (And.intro hb9 (And.intro huu hll));clear hb9 huu hll hrow;obtain⟨O1,hO1⟩:∃O,L[i+1]? =O:=⟨_,rfl⟩;obtain⟨B1,hB1⟩:∃B,O1.isSome=B:=⟨_,rfl⟩;have CV:=ceil_any v s look HH.out.1 HH.out.2.1 root height items L HT.out _ (X.key++ [0]) ha HB9.out.1 HB9.out.2.1 (by have:=HB9.out.2.2;omega) _ _ (OwnL.in2 (hs10.pull2 (A1:=VaultA v s) (A2:=Pr.own ha)))
   rw [ceil_same HT.out,HN2.out.1,hO1,hB1] at CV;have RV:=hQ CV;have HO1:=hQ (And.intro hO1 hB1);clear hO1 hB1 CV hs10;refine RV.out.mono ?_;rintro e w10 ⟨st10,cv,dv,rfl,hs11⟩;have hs12:=hs11.flat;obtain⟨ca,cc1,rfl⟩:=Row.shape (hs12.pull1 (A1:=BytesRow cv (optK O1)));obtain⟨cb,cc2,rfl⟩:=Row.shape (hs12.pull1 (A1:=BytesRow dv (optV look O1)));dsimp only [pairV]
   have HS13:=hQ (hs12.alloc (pairC (.slice ca (optK O1).length cc1) (.slice cb (optV look O1).length cc2)));have HST13:=hQ ((HST9.out.trans st10).alloc (pairC (.slice ca (optK O1).length cc1) (.slice cb (optV look O1).length cc2)));clear c1;have c1:=hs12.facts;simp only [CellsAt,Nat.reduceAdd,and_true] at c1;clear hs11 hs12 st10 RV HS9 HST9;go_wp2_with fail
   have U1:=HS13.out;have U2:=HST13.out;clear HS13 HST13 c1;generalize w10.heap.size=JC at*;generalize w10.alloc (pairC (.slice ca (optK O1).length cc1) (.slice cb (optV look O1).length cc2))=w11 at*;have HS13:=hQ U1;have HST13:=hQ U2;clear U1 U2;obtain⟨O2,hO2⟩:∃O,(L.filter (leK (X.key++ [0]))).getLast?=O:=⟨_,rfl⟩
   have hD:(∃Y,L[i+1]? =some Y∧cmpI Y.key (X.key++ [0])=0∧O2=some Y)∨((∀Y,L[i+1]? =some Y→cmpI Y.key (X.key++ [0])≠0)∧O2=some X):=by
    rw [← hO2];by_cases hlt:i+1<L.length
    · by_cases hke:L[i+1].key=X.key++ [0]
      · exact .inl ⟨L[i+1],List.getElem?_eq_getElem hlt,cmp_zero.2 hke,HN2.out.2.1 hlt hke⟩
      · refine .inr ⟨fun Y hY=> ?_,HN2.out.2.2 (fun _=>hke)⟩
        rw [List.getElem?_eq_getElem hlt] at hY;cases hY;exact fun h=>hke (cmp_eq h)
    · refine .inr ⟨fun Y hY=> ?_,HN2.out.2.2 (fun h=>absurd h hlt)⟩
      rw [List.getElem?_eq_none (by omega)] at hY;cases hY
   have hO2s:O2.isSome=true:=by rcases hD with⟨Y,_,_,e⟩ | ⟨_,e⟩<;>(rw [e];rfl)
   have FV:=floor_any v s look HH.out.1 HH.out.2.1 root height items L HT.out _ (X.key++ [0]) ha HB9.out.1 HB9.out.2.1 hg HH.out.2.2 _ _ (OwnL.in3 (HS13.out.pull3 (A1:=VaultA v s) (A2:=Pr.own ha) (A3:=Pr.own hg)));rw [hO2,hO2s] at FV;have RV:=hQ FV;have HD:=hQ hD;clear hO2 hO2s FV hD;refine RV.out.mono ?_;rintro e w12 ⟨st12,cv,dv,rfl,hs11⟩;have hs12:=hs11.flat
   obtain⟨da,dc1,rfl⟩:=Row.shape (hs12.pull1 (A1:=BytesRow cv (optK O2)));obtain⟨db,dc2,rfl⟩:=Row.shape (hs12.pull1 (A1:=BytesRow dv (optV look O2)));dsimp only [pairV];have HS14:=hQ (hs12.alloc (pairC (.slice da (optK O2).length dc1) (.slice db (optV look O2).length dc2)));have HST14:=hQ ((HST13.out.trans st12).alloc (pairC (.slice da (optK O2).length dc1) (.slice db (optV look O2).length dc2)))
   have c1:=hs12.facts;simp only [CellsAt,Nat.reduceAdd,and_true] at c1;clear hs11 hs12 st12 RV HS13 HST13;go_wp2_with fail
   have U1:=HS14.out;have U2:=HST14.out;clear HS14 HST14 c1;generalize w12.heap.size=JD at*;generalize w12.alloc (pairC (.slice da (optK O2).length dc1) (.slice db (optV look O2).length dc2))=w13 at*;have HS14:=hQ U1;have HST14:=hQ U2;clear U1 U2
   go_cut [148] from 125 to 149 (fun t wx=>t= .bool false∧Stays w wx∧OwnL [Pr.pts JD (pairC (.slice da (optK O2).length dc1) (.slice db (optV look O2).length dc2)),BytesRow (.slice da (optK O2).length dc1) (optK O2),BytesRow (.slice db (optV look O2).length dc2) (optV look O2),Pr.pts JC (pairC (.slice ca (optK O1).length cc1) (.slice cb (optV look O1).length cc2)),BytesRow (.slice ca (optK O1).length cc1) (optK O1),BytesRow (.slice cb (optV look O1).length cc2) (optV look O1),Pr.own ha,VaultA v s,Pr.own hw,Pr.own hg,Pr.pts TB (treeC root height items),F] wx)
   case first=>
    have hs15:=HS14.out.to (M:= [Pr.pts JD (pairC (.slice da (optK O2).length dc1) (.slice db (optV look O2).length dc2)),BytesRow (.slice da (optK O2).length dc1) (optK O2),BytesRow (.slice db (optV look O2).length dc2) (optV look O2),Pr.pts JC (pairC (.slice ca (optK O1).length cc1) (.slice cb (optV look O1).length cc2)),BytesRow (.slice ca (optK O1).length cc1) (optK O1),BytesRow (.slice cb (optV look O1).length cc2) (optV look O1),Pr.own ha,VaultA v s,Pr.own hw,Pr.own hg,Pr.pts TB (treeC root height items),F])
    have c1:=hs15.facts;simp only [CellsAt,Nat.reduceAdd,and_true] at c1;have HST15:=hQ HST14.out.drew;have HS15:=hQ hs15.drew;clear HS14 HST14;by_cases hlt:i+1<L.length
    · obtain⟨Y,hLY⟩:∃Y,L[i+1]? =some Y:=⟨_,List.getElem?_eq_getElem hlt⟩
      have h1:O1=some Y:=by rw [← hLY];exact HO1.out.1.symm
      subst h1;obtain rfl:B1=true:=HO1.out.2.symm;have hni:(i:Int)+1<zs.length:=by have:=HZL.out;omega
      obtain⟨b2,off2,k3,n3,k4,n4,eb,e3,e4,hc2⟩:=HRD.out.1 (i+1) (by have:=HZL.out;omega)
      obtain⟨rfl,rfl⟩:b2=b∧off2=off:=by
       simp only [Option.some.injEq,Addr.mk.injEq,and_true] at eb;exact⟨eb.1.symm,eb.2.symm⟩
      clear eb
      have ez2:zs[i+1].2=(Y.key,valK look Y):=by
       rw [zs_at look HRD.out.2.2 (by have:=HZL.out;omega) hlt];rw [List.getElem?_eq_getElem hlt] at hLY;cases hLY;rfl
      obtain⟨p3,p4⟩:=HRD.out.2.1.2 _ (List.getElem_mem (show i+1<zs.length by have:=HZL.out;omega));rw [e3,ez2] at p3;rw [e4,ez2] at p4;rw [ez2] at hc2;dsimp only at p3 p4 hc2;clear e3 e4 ez2;have HC2:=hQ hc2;have HP2:=hQ (And.intro p3 p4);clear hc2 p3 p4;obtain⟨d2,d3⟩:=HC2.out w13 (hs15.le (a:=hw));have zb:=World.block_lt_of_cell? _ _ d2;simp only at zb
      have EP:=hQ (eqpair_in _ _ _ _ (optK (some Y)) (optV look (some Y)) (by have:=(stand_key HT.out Y (List.mem_of_getElem? hLY)).2;show Y.key.length≤ _;omega) (by have:=optV_len look (some Y);omega) hw HP2.out.1 HP2.out.2 _ _ (HS15.out.pull3 (A1:=BytesRow (.slice ca (optK (some Y)).length cc1) (optK (some Y))) (A2:=BytesRow (.slice cb (optV look (some Y)).length cc2) (optV look (some Y))) (A3:=Pr.own hw)))
      clear hs15 hLY;refine wS 240 [0,1,2,3,4,5,6,7,8,9,10,11,12,13,14,15] [(16,[17,18,19,20,21,22,23],[0,1,2,3,5,6,7,8,11,12,13,14,4])] ?_;refine wpQ_cut [0,1,2,3] [4,5,6,7,8,9,10,11,12,13,14,15] ?_;refine wpQ_all _ rfl rfl ?_;simp only [pick,pQ];iterate 4 (go_big_quiet_step (fail))
      refine wpQuiet_nil ?_;refine wpQ_step rfl rfl (fun K hK=> ?_);go_simp;refine hK _ ?_;clear hK K;refine wpQ_all _ rfl rfl ?_;simp only [pick,pQ];iterate 11 (go_big_quiet_step (fail))
      refine wpQuiet_nil ?_;refine wpRest_act rfl ?_;go_wp2_with fail
      refine EP.out.mono ?_;rintro e w14 ⟨rfl,ho14⟩;have hs16:OwnL _ w14:=⟨HS15.out.sat.only ho14⟩;clear c1 d2 d3 zb;have c1:=hs16.facts;simp only [CellsAt,Nat.reduceAdd,and_true] at c1;obtain⟨d2,d3⟩:=HC2.out w14 (hs16.le (a:=hw));have zb:=World.block_lt_of_cell? _ _ d2;simp only at zb;have HEND:=hQ (And.intro (HST15.out.trans ho14.st) hs16);clear hs16 ho14 EP;go_wp2;refine onN_mk ?_
      refine wpQ_all _ rfl rfl ?_;simp only [pick,pQ];iterate 7 (go_big_quiet_step (fail))
      refine wpQuiet_nil ⟨?_,?_⟩
      · refine chk_cut [0,1,2,3,5,6,7,8,11,12,13,14] [4] ?_ (chk_cons (yieldF_of rfl rfl rfl rfl (by go_simp)) (chk_nil))
        refine chk_all _ rfl rfl ?_;simp only [pick,Same,pQ,and_true];repeat' (first | apply And.intro | (go_big_quiet_step (fail);exact wpQuiet_nil rfl))
      refine wpRest_nil ?_;go_wp2;go_meet
      exact⟨rfl,HEND.out.1,HEND.out.2⟩
    · have h1:O1=none:=by rw [← HO1.out.1];exact List.getElem?_eq_none (by omega)
      subst h1;obtain rfl:B1=false:=HO1.out.2.symm;have hni:decide ((i:Int)+1<zs.length)=false:=decide_eq_false (by have:=HZL.out;omega);clear hs15;refine wS 240 [0,1,2,3,4,5,6,7,8,9,10,11,12,13,14,15] [(16,[17,18,19,20,21,22,23],[0,1,2,3,5,6,7,8,11,12,13,14,4])] ?_;refine wpQ_cut [0,1,2,3] [4,5,6,7,8,9,10,11,12,13,14,15] ?_;refine wpQ_all _ rfl rfl ?_;simp only [pick,pQ]
      iterate 4 (go_big_quiet_step (fail))
      refine wpQuiet_nil ?_;refine wpQ_step rfl rfl (fun K hK=> ?_);go_simp;refine hK _ ?_;clear hK K;refine wpQ_all _ rfl rfl ?_;simp only [pick,pQ];iterate 11 (go_big_quiet_step (fail))
      refine wpQuiet_nil ?_;refine wpRest_act rfl ?_;go_wp2;refine onN_mk ?_;refine wpQ_all _ rfl rfl ?_;simp only [pick,pQ];iterate 7 (go_big_quiet_step (fail))
      refine wpQuiet_nil ⟨?_,?_⟩
      · refine chk_cut [0,1,2,3,5,6,7,8,11,12,13,14] [4] ?_ (chk_cons (yieldF_of rfl rfl rfl rfl (by go_simp)) (chk_nil))
        refine chk_all _ rfl rfl ?_;simp only [pick,Same,pQ,and_true];repeat' (first | apply And.intro | (go_big_quiet_step (fail);exact wpQuiet_nil rfl))
      refine wpRest_nil ?_;go_wp2;go_meet
      exact⟨rfl,HST15.out,HS15.out⟩
   case rest=>
    obtain⟨rfl,st16,hs16⟩:=hcut;rename World=>w14
    have HS16:=hQ hs16;have HST16:=hQ st16;clear hs16 st16 HS14 HST14;go_upto_region 13 with fail
    obtain⟨B5,hB5⟩:∃B5,isB O1 (X.key++ [0])=B5:=⟨_,rfl⟩;have HB5:=hQ hB5;clear hB5
    go_cut [159] from 149 to 160 (fun t wx=>t= .bool B5∧Stays w wx∧OwnL [Pr.pts JD (pairC (.slice da (optK O2).length dc1) (.slice db (optV look O2).length dc2)),BytesRow (.slice da (optK O2).length dc1) (optK O2),BytesRow (.slice db (optV look O2).length dc2) (optV look O2),Pr.pts JC (pairC (.slice ca (optK O1).length cc1) (.slice cb (optV look O1).length cc2)),BytesRow (.slice ca (optK O1).length cc1) (optK O1),BytesRow (.slice cb (optV look O1).length cc2) (optV look O1),Pr.own ha,VaultA v s,Pr.own hw,Pr.own hg,Pr.pts TB (treeC root height items),F] wx)
    case first=>
     have hs15:=HS16.out;by_cases hlt:i+1<L.length
     · obtain⟨Y,hLY⟩:∃Y,L[i+1]? =some Y:=⟨_,List.getElem?_eq_getElem hlt⟩
       have h1:O1=some Y:=by rw [← hLY];exact HO1.out.1.symm
       subst h1;obtain rfl:B1=true:=HO1.out.2.symm;obtain rfl:(cmpI Y.key (X.key++ [0]) == 0)=B5:=HB5.out;have hni:(i:Int)+1<zs.length:=by have:=HZL.out;omega
       obtain⟨b2,off2,k3,n3,k4,n4,eb,e3,e4,hc2⟩:=HRD.out.1 (i+1) (by have:=HZL.out;omega)
       obtain⟨rfl,rfl⟩:b2=b∧off2=off:=by
        simp only [Option.some.injEq,Addr.mk.injEq,and_true] at eb;exact⟨eb.1.symm,eb.2.symm⟩
       clear eb
       have ez2:zs[i+1].2=(Y.key,valK look Y):=by
        rw [zs_at look HRD.out.2.2 (by have:=HZL.out;omega) hlt];rw [List.getElem?_eq_getElem hlt] at hLY;cases hLY;rfl
       obtain⟨p3,p4⟩:=HRD.out.2.1.2 _ (List.getElem_mem (show i+1<zs.length by have:=HZL.out;omega));rw [e3,ez2] at p3;rw [e4,ez2] at p4;rw [ez2] at hc2;dsimp only at p3 p4 hc2;clear e3 e4 ez2;have HC2:=hQ hc2;have HP2:=hQ (And.intro p3 p4);clear hc2 p3 p4;obtain⟨d2,d3⟩:=HC2.out w14 (hs15.le (a:=hw));have zb:=World.block_lt_of_cell? _ _ d2;simp only at zb
       have EB:=hQ (eqb_any hw ha _ _ Y.key (X.key++ [0]) HP2.out.1 HB9.out.1 (by have:=(stand_key HT.out Y (List.mem_of_getElem? hLY)).2;omega) w14 hs15.le hs15.le);clear hs15 hLY;go_wp2_with fail
       refine EB.out.mono ?_;rintro e w16 ⟨rfl,ho16⟩;have HEND:=hQ (And.intro (HST16.out.trans ho16.st) (show OwnL _ w16 from⟨HS16.out.sat.only ho16⟩));clear ho16 EB d2 d3 zb;go_wp2;go_meet
       exact⟨rfl,HEND.out.1,HEND.out.2⟩
     · have h1:O1=none:=by rw [← HO1.out.1];exact List.getElem?_eq_none (by omega)
       subst h1;obtain rfl:B1=false:=HO1.out.2.symm;obtain rfl:false=B5:=HB5.out;clear hs15;go_wp2;go_meet
       exact⟨rfl,HST16.out,HS16.out⟩
    case rest=>
     obtain⟨rfl,st17,hs17⟩:=hcut;rename World=>w17
     have HS17:=hQ hs17;have HST17:=hQ st17;clear hs17 st17 HS16 HST16;go_upto_if 159 with fail
     go_cut [] from 160 to 175 (fun wx=>Stays w wx∧OwnL [VaultA v s,Pr.own hw,Pr.own hg,Pr.pts TB (treeC root height items),F] wx)
     case first=>
      cases B5 with
      | true=>
        obtain⟨Y,hLY,h1⟩:∃Y,L[i+1]? =some Y∧O2=some Y:=by
         rcases HD.out with⟨Y,h1,_,h2⟩ | ⟨h1,_⟩
         · exact⟨Y,h1,h2⟩
         · exfalso
           have h3:=HB5.out;cases hO:O1 with
           | none=>rw [hO] at h3;cases h3
           | some Y=>
             rw [hO] at h3;exact h1 Y (HO1.out.1.trans hO) (by simpa [isB] using h3)
        have hlt:i+1<L.length:=by
         rcases Nat.lt_or_ge (i+1) L.length with h | h
         · exact h
         · rw [List.getElem?_eq_none h] at hLY;cases hLY
        subst h1;have hni:(i:Int)+1<zs.length:=by have:=HZL.out;omega
        obtain⟨b2,off2,k3,n3,k4,n4,eb,e3,e4,hc2⟩:=HRD.out.1 (i+1) (by have:=HZL.out;omega)
        obtain⟨rfl,rfl⟩:b2=b∧off2=off:=by
         simp only [Option.some.injEq,Addr.mk.injEq,and_true] at eb;exact⟨eb.1.symm,eb.2.symm⟩
        clear eb
        have ez2:zs[i+1].2=(Y.key,valK look Y):=by
         rw [zs_at look HRD.out.2.2 (by have:=HZL.out;omega) hlt];rw [List.getElem?_eq_getElem hlt] at hLY;cases hLY;rfl
        obtain⟨p3,p4⟩:=HRD.out.2.1.2 _ (List.getElem_mem (show i+1<zs.length by have:=HZL.out;omega));rw [e3,ez2] at p3;rw [e4,ez2] at p4;rw [ez2] at hc2;dsimp only at p3 p4 hc2;clear e3 e4 ez2;have HC2:=hQ hc2;have HP2:=hQ (And.intro p3 p4);clear hc2 p3 p4;have hs17:=HS17.out;have c1:=hs17.facts;simp only [CellsAt,Nat.reduceAdd,and_true] at c1;obtain⟨d2,d3⟩:=HC2.out w17 (hs17.le (a:=hw))
        have zb:=World.block_lt_of_cell? _ _ d2;simp only at zb
        have EP:=hQ (eqpair_in _ _ _ _ (optK (some Y)) (optV look (some Y)) (by have:=(stand_key HT.out Y (List.mem_of_getElem? hLY)).2;show Y.key.length≤ _;omega) (by have:=optV_len look (some Y);omega) hw HP2.out.1 HP2.out.2 _ _ (hs17.drew.pull3 (A1:=BytesRow (.slice da (optK (some Y)).length dc1) (optK (some Y))) (A2:=BytesRow (.slice db (optV look (some Y)).length dc2) (optV look (some Y))) (A3:=Pr.own hw)))
        clear hs17;go_wp2_with fail
        refine wS 240 [0,1,2,3,4,5] [(6,[7],[1,2,3,4])] ?_;refine wpQ_all _ rfl rfl ?_;simp only [pick,pQ];iterate 6 (go_big_quiet_step (fail))
        refine wpQuiet_nil ?_;refine wpRest_act rfl ?_;go_wp2_with fail
        refine EP.out.mono ?_;rintro e w18 ⟨rfl,ho18⟩;have hs18:OwnL _ w18:=⟨HS17.out.drew.sat.only ho18⟩;clear c1 d2 d3 zb;have c1:=hs18.facts;simp only [CellsAt,Nat.reduceAdd,and_true] at c1;obtain⟨d2,d3⟩:=HC2.out w18 (hs18.le (a:=hw));have zb:=World.block_lt_of_cell? _ _ d2;simp only at zb
        have HEND:=hQ (And.intro (HST17.out.drew.trans ho18.st) (hs18.to (M:= [VaultA v s,Pr.own hw,Pr.own hg,Pr.pts TB (treeC root height items),F])));clear hs18 ho18 EP;go_wp2;refine onN_mk ?_;refine wpQ_all _ rfl rfl ?_;simp only [pick,pQ];iterate 1 (go_big_quiet_step (fail))
        refine wpQuiet_nil ⟨?_,?_⟩
        · exact cQ
        refine wpRest_nil ?_;go_wp2;go_meet
        exact⟨HEND.out.1,HEND.out.2⟩
      | false=>
        have h1:O2=some X:=by
         rcases HD.out with⟨Y,h1,h2,_⟩ | ⟨_,h1⟩
         · exfalso
           have h3:=HB5.out;rw [← HO1.out.1,h1] at h3;simp [isB,h2] at h3
         · exact h1
        subst h1;skip
        have hs17:=HS17.out;have c1:=hs17.facts;simp only [CellsAt,Nat.reduceAdd,and_true] at c1;obtain⟨d0,d1⟩:=HC.out w17 (hs17.le (a:=hw));have zb:=World.block_lt_of_cell? _ _ d0;simp only at zb
        have EP:=hQ (eqpair_in _ _ _ _ (optK (some X)) (optV look (some X)) (by show X.key.length≤ _;have:=HU.out.2;omega) (by have:=optV_len look (some X);omega) hw HP.out.1 HP.out.2 _ _ (hs17.drew.pull3 (A1:=BytesRow (.slice da (optK (some X)).length dc1) (optK (some X))) (A2:=BytesRow (.slice db (optV look (some X)).length dc2) (optV look (some X))) (A3:=Pr.own hw)));clear hs17;go_wp2_with fail
        refine wS 240 [0,1,2,3,4] [(5,[6],[1,2,3])] ?_;refine wpQ_all _ rfl rfl ?_;simp only [pick,pQ];iterate 5 (go_big_quiet_step (fail))
        refine wpQuiet_nil ?_;refine wpRest_act rfl ?_;go_wp2_with fail
        refine EP.out.mono ?_;rintro e w18 ⟨rfl,ho18⟩;have hs18:OwnL _ w18:=⟨HS17.out.drew.sat.only ho18⟩;clear c1 d0 d1 zb;have c1:=hs18.facts;simp only [CellsAt,Nat.reduceAdd,and_true] at c1;obtain⟨d0,d1⟩:=HC.out w18 (hs18.le (a:=hw));have zb:=World.block_lt_of_cell? _ _ d0;simp only at zb
        have HEND:=hQ (And.intro (HST17.out.drew.trans ho18.st) (hs18.to (M:= [VaultA v s,Pr.own hw,Pr.own hg,Pr.pts TB (treeC root height items),F])));clear hs18 ho18 EP;go_wp2;refine onN_mk ?_;refine wpQ_all _ rfl rfl ?_;simp only [pick,pQ];iterate 1 (go_big_quiet_step (fail))
        refine wpQuiet_nil ⟨?_,?_⟩
        · exact cQ
        refine wpRest_nil ?_;go_wp2;go_meet
        exact⟨HEND.out.1,HEND.out.2⟩
     case rest=>
      obtain⟨st18,hs18⟩:=hcut;rename World=>w18
      have HS18:=hQ hs18;have HST18:=hQ st18;clear hs18 st18 HS17 HST17;go_wp2_with fail
      have hs18:=HS18.out;have c1:=hs18.facts;simp only [CellsAt,Nat.reduceAdd,and_true] at c1;obtain⟨d0,d1⟩:=HC.out w18 (hs18.le (a:=hw));have zb:=World.block_lt_of_cell? _ _ d0;simp only at zb;have PA:=hQ (way_any v s look HH.out.1 HH.out.2.1 hw _ X.key HP.out.1 HU.out.1 root height items L HT.out _ _ (OwnL.in2 (hs18.drew.pull2 (A1:=VaultA v s) (A2:=Pr.own hw))));clear hs18
      refine wS 240 [0,1,2,3,4,5,6] [(7,[8,9,10,11,12],[2,3,4,5])] ?_;refine wpQ_all _ rfl rfl ?_;simp only [pick,pQ];iterate 7 (go_big_quiet_step (fail))
      refine wpQuiet_nil ?_;refine wpRest_act rfl ?_;go_wp2_with fail
      refine PA.out.mono ?_;rintro e w19 ⟨st19,pw,rfl,hs19⟩;have hs20:=hs19.flat;obtain⟨lv,hh,hlv,p,g,q1,q2,q3,q4,q5,q6⟩:=HNW.out;generalize wayK look root height X.key=W at*;obtain⟨wa,wc,rfl⟩:=Row.shape (hs20.pull1 (A1:=IntsRow pw W));have HST19:=hQ (HST18.out.drew.trans st19);clear c1 d0 d1 zb;have c1:=hs20.facts;simp only [CellsAt,Nat.reduceAdd,and_true] at c1
      obtain⟨d0,d1⟩:=HC.out w19 (hs20.le (a:=hw));have zb:=World.block_lt_of_cell? _ _ d0;simp only at zb;obtain⟨bw,u0,ewa,g0,x0,_,z0⟩:=Row.at1 (hs20.pull1 (A1:=IntsRow (.slice wa W.length wc) W)) 0 (by omega);subst ewa;obtain⟨bw2,u1,ewb,g1,x1,_,_⟩:=Row.at1 (hs20.pull1 (A1:=IntsRow (.slice (some ⟨bw,0,none⟩) W.length wc) W)) (W.length-1) (by omega);cases ewb;rw [List.getElem?_map,q2] at g0
      rw [List.getElem?_map,show W.length-1=lv by omega,q3] at g1;cases g0;cases g1;have VR:=vread_any v s look HH.out.1 p _ _ (hs20.drew.pull1 (A1:=VaultA v s));rw [q4] at VR;simp only [reduceCtorEq,if_false,Option.getD_some] at VR;have VRH:=hQ VR;have hne:((W.length:Int) != height)=false:=by rw [hh,q1];simp
      have hrr:(root != root)=false:=by simp
      have hwl:(W.length:Int)≤12:=by omega
      have hwl0:(0:Int)<W.length:=by omega
      have hwl1:(0:Int)≤(W.length:Int)-1:=by omega
      have hwl2:(W.length:Int)-1<W.length:=by omega
      have HG:=hQ (And.intro q4 (And.intro q5 q6));clear hs19 hs20 st19 PA HST18 HS18 VR hh hlv q1 q2 q3 q4 q5 q6;go_wp2;refine onN_mk ?_;refine wpQ_all _ rfl rfl ?_;simp only [pick,pQ];iterate 5 (go_big_quiet_step (fail))
      refine wpQuiet_nil ⟨?_,?_⟩
      · exact cQ
      refine wpRest_nil ?_;go_wp2_with fail
      refine wS 240 [0,1,2,3,4,5,6,7,8,9,10,11,12,13,14,15,16] [] ?_;refine wpQ_cut [0,1,2,3] [4,5,6,7,8,9,10,11,12,13,14,15,16] ?_;refine wpQ_all _ rfl rfl ?_;simp only [pick,pQ];iterate 4 (go_big_quiet_step (fail))
      refine wpQuiet_nil ?_;refine wpQ_step rfl rfl (fun K hK=> ?_);go_simp;refine hK _ ?_;clear hK K;refine wpQ_all _ rfl rfl ?_;simp only [pick,pQ];iterate 12 (go_big_quiet_step (fail))
      refine wpQuiet_nil ?_;refine wpRest_nil ?_;clear x0 z0 hne hrr hwl0;go_wp2_with fail
      refine VRH.out.mono ?_;rintro e w20 ⟨st20,pv,rfl,h9,hp9,hs21⟩;obtain⟨tai,tad,tci,tcd,rfl⟩:=page_sh hp9;obtain⟨vi,vd,ev,hit,_⟩:=id hp9;simp only [pageV,Value.agg.injEq,Array.mk.injEq,List.cons.injEq,and_true,true_and] at ev;obtain⟨rfl,rfl⟩:=ev;obtain⟨_,_,e9,_,rd9⟩:=items_rd hit;cases e9
      have hs22:=(OwnL.of2 hs21).alloc (pageC g.kind g.level (.slice tai g.items.length tci) (.slice tad g.data.length tcd) g.next);have hg8:=(fit_of_check (HH.out.2.1.chk p g HG.out.1)).n;rw [HG.out.2.1] at hs22;have HST20:=hQ ((HST19.out.drew.trans st20).alloc (pageC 1 g.level (.slice tai g.items.length tci) (.slice tad g.data.length tcd) g.next));have HS20:=hQ hs22;have HIT:=hQ rd9
      dsimp only [pageV];rw [HG.out.2.1];clear hs21 hs22 hp9 hit st20 VRH HST19 x1 hwl hwl1 hwl2 d0 d1 zb rd9;go_wp2_with fail
      obtain⟨j0,hj0,hX0⟩:=List.getElem_of_mem HG.out.2.2;have U1:=HS20.out;have U2:=HST20.out;clear HS20 HST20;generalize w20.heap.size=PB at*;generalize w20.alloc (pageC 1 g.level (.slice tai g.items.length tci) (.slice tad g.data.length tcd) g.next)=w21 at*
      have HS21:=hQ (U1.to (M:= [Pr.own h9,Pr.pts PB (pageC 1 g.level (.slice tai g.items.length tci) (.slice tad g.data.length tcd) g.next),VaultA v s,Pr.own hw,Pr.own hg,F]));have HST21:=hQ U2;have HJ:=hQ (show ∃h:j0<g.items.length,g.items[j0]=X from⟨hj0,hX0⟩);have hj8:(j0:Int)<9:=by omega
      clear U1 U2 hX0;go_loopw [24] (fun t wr=> ∃k:Nat,k≤j0∧t= .int .i64 k∧Stays w wr∧OwnL [Pr.own h9,Pr.pts PB (pageC 1 g.level (.slice tai g.items.length tci) (.slice tad g.data.length tcd) g.next),VaultA v s,Pr.own hw,Pr.own hg,F] wr) (fun t _=>j0+1-(intOf t).toNat)
      case atStart=>exact⟨0,Nat.zero_le _,rfl,HST21.out,HS21.out⟩
      case round=>
       obtain⟨k,hk,rfl,hst,hs⟩:=hrel;rename World=>wr
       clear HS21 HST21;have hkl:k<g.items.length:=by omega
       obtain⟨b3,off3,ak,ck,av,cv,rfl,hbk,_,hc3⟩:=HIT.out k hkl;obtain⟨y0,_⟩:=hc3 wr hs.le;have zy:=World.block_lt_of_cell? _ _ y0;simp only at zy;have c1:=hs.facts;simp only [CellsAt,Nat.reduceAdd,and_true] at c1;obtain⟨d0,d1⟩:=HC.out wr (hs.le (a:=hw));have zb:=World.block_lt_of_cell? _ _ d0;simp only at zb;have hkn:(k:Int)<g.items.length:=by omega
       have EB:=hQ (eqb_any h9 hw _ _ g.items[k].key X.key hbk HP.out.1 (by have:=(HH.out.2.1.u8 p g HG.out.1);exact Nat.le_trans (hkey9 HH.out.2.1 HG.out.1 (List.getElem_mem hkl)) (by omega)) wr.drew (hs.drew.le) (hs.drew.le));obtain⟨B9,hB9⟩:∃B,(cmpI g.items[k].key X.key == 0)=B:=⟨_,rfl⟩;have HB9':=hQ hB9;rw [hB9] at EB;clear hB9;have HC3:=hQ hc3;have HS22:=hQ hs;have HST22:=hQ hst
       clear hs hst hbk hc3;generalize g.items[k].key.length=nk at*;go_wp2_with fail
       refine wS 240 [0,1,2,3,4,5,6,7,8,9,10] [(11,[],[0,1,2,3,4,6,7,8,9])] ?_;refine wpQ_all _ rfl rfl ?_;simp only [pick,pQ];iterate 11 (go_big_quiet_step (fail))
       refine wpQuiet_nil ?_;refine wpRest_act rfl ?_;go_wp2_with fail
       refine EB.out.mono ?_;rintro e w23 ⟨rfl,ho23⟩;have hs23:OwnL _ w23:=⟨HS22.out.drew.sat.only ho23⟩;clear c1 d0 d1 zb y0 zy;obtain⟨y0,_⟩:=HC3.out w23 hs23.le;have zy:=World.block_lt_of_cell? _ _ y0;simp only at zy;have c1:=hs23.facts;simp only [CellsAt,Nat.reduceAdd,and_true] at c1;obtain⟨d0,d1⟩:=HC.out w23 (hs23.le (a:=hw));have zb:=World.block_lt_of_cell? _ _ d0;simp only at zb
       have HS23:=hQ hs23;have HST23:=hQ (HST22.out.drew.trans ho23.st);clear hs23 ho23 EB HS22 HST22;go_wp2;refine onN_mk ?_;refine wpQ_nil ⟨?_,?_⟩
       · exact cQ
       refine wpRest_nil ?_;cases B9 with
       | true=>
         go_wp2;go_ret;exact⟨rfl,HST23.out,HS23.out.to⟩
       | false=>
         have hkj:k≠j0:=by
          rintro rfl;obtain⟨h1,h2⟩:=HJ.out;have h3:=HB9'.out;rw [h2,cmp_zero.2 rfl] at h3;cases h3
         go_wp2;go_roundw
         case measure=>simp [intOf];omega
         case rel=>exact⟨k+1,by omega,congrArg (Value.int .i64) (by omega),HST23.out,HS23.out⟩
end Go.Proofs.YtiegeadmgpanoaaGreatDoor.Z8
