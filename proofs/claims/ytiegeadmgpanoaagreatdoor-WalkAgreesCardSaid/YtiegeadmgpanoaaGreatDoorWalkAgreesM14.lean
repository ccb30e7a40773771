/- The law WalkAgrees walked: what the calls say of a tree fits together; the conditions stand as hypotheses. -/
import Derived.Test.YtiegeadmgpanoaaGreatDoorWalkAgreesM13
import Derived.Test.YtiegeadmgpanoaaGreatDoorWalkAgreesM12
import Derived.Test.YtiegeadmgpanoaaGreatDoorWalkChecksM32
import Derived.Test.YtiegeadmgpanoaaGreatDoorWalkAgreesM11
import Derived.Test.YtiegeadmgpanoaaGreatDoorWalkChecksM28
import Derived.Test.YtiegeadmgpanoaaGreatDoorWalkAgreesM07
import Derived.Test.YtiegeadmgpanoaaGreatDoorWalkChecksM03
import Derived.Test.YtiegeadmgpanoaaGreatDoorWalkAgreesM01
import Derived.Test.YtiegeadmgpanoaaGreatDoorWalkChecksM01
set_option maxRecDepth 100000
set_option maxHeartbeats 16000000
namespace Go.Proofs.YtiegeadmgpanoaaGreatDoor.E9
open ChangeShapes WideShapes ChangeAt RowKit Sl Cop D2 F3 P3 G2 J2 Q3 V3 G4 X3 M5 J4 G5 G6 J6 P6 F6 K4 L6 T6 E7 V6 X6 L7 V7 D8 E8 W7 Go.Shelf N3 P5 U5 W5 N2 P2 S6 J7 N5 S5 K7 Z7 B8 B6 M2 N7 M7 K3 C4 D4 F4 M4 K5 D7 C8 K8 Q7 U7 X5 Y5 X7 G8 M8 J8 Y8 N8 T8 V8 P8 Q8 X8 Deep Q4 S4 L5 D9 C9 Z8
attribute [local go_sem] Oper.semAt_some
theorem pair_lens {look:Int→Option PageV}{root height items:Int}{L:List ItemV}(h:StandT look root height items L){zs:List PairX}(hz:zs.map (·.2)=L.map (pairK look)):∀x∈zs,x.2.1.length≤65536∧x.2.2.length≤65536:=by
 intro x hx;have h1:x.2∈zs.map (·.2):=List.mem_map_of_mem hx;rw [hz] at h1;obtain⟨y,hy,e⟩:=List.mem_map.1 h1;rw [← e];have h2:=(stand_key h y hy).2;have h3:(valK look y).length≤3840:=value_len _ _ _ _;exact⟨by show y.key.length≤ _;omega,by show (valK look y).length≤ _;omega⟩
theorem agrees_walk(refs which:Int)(h:Hp)(GE:EveryIn h)(vc vl vt vcut:Value)(cs:List Int)(l:List NumV)(ts:List TreeV)(cut:List Int)(hx:Ints h vc cs)(hl:NumsIn h vl l)(ht:TreesIn h vt ts)(hcu:Bytes h vcut cut∧U8 cut∧cut.length≤140737488351232)(hu:∀x∈l,∀y∈x.page.items,U8 y.key)(hn:l.length≤9223372036854775807)(F:Pr)(w:World)(hF:OwnL [Pr.own h,F] w):
 Calls Tryz.prog 5 #[imgV refs vc vl vt,.int .i64 which,vcut] w fun e w'=>e= .returned (.bool true)∧Stays w w'∧OwnL [Pr.own h,F] w':=by
 have hl0:=hl;have hx0:=hx;have ht0:=ht;obtain⟨al,cl,rfl,_⟩:=nums_rd hl;obtain⟨ac,cc,rfl,_⟩:=ints_rd hx;obtain⟨at',ct,rfl,_⟩:=trees_rd ht;have HCU:=hQ hcu;obtain⟨ua,uc,rfl⟩:=bytes_shape hcu.1;have hs0:=hF.alloc (imgC refs (.slice ac cs.length cc) (.slice al l.length cl) (.slice at' ts.length ct));have LO:=hQ (loaded_any refs h _ _ at' ts.length ct cs l hx0 hl0 hu hn _ _ (hs0.pull1 (A1:=Pr.own h)))
 have HST:=hQ ((Stays.refl w).alloc (imgC refs (.slice ac cs.length cc) (.slice al l.length cl) (.slice at' ts.length ct)));have HH:=hQ (And.intro GE (And.intro ht0 hu));have c1:=hs0.facts;simp only [CellsAt,Nat.reduceAdd,and_true] at c1;clear hF hs0 hx hl ht hx0 hl0 ht0 hu GE hn hcu;generalize hLE:loadE refs cs l=LE at*;go_enter Tryz.func5,Tryz.ntmps5
 go_wp2_with fail
 refine LO.out.mono ?_;rintro e w1 ⟨st1,(⟨_,rfl,hs1⟩ | ⟨h0,h4,v,r,rfl,hs1⟩)⟩
 · have hs2:=OwnL.of1 hs1
   have hs3:=hs2.to (M:= [Pr.own h,F]);have HST1:=hQ (HST.out.trans st1);have LV:=hQ (lives_any h HH.out.1 F w1 hs3);clear hs1 hs2 hs3 st1 LO HST c1;go_wp2_with fail
   refine LV.out.mono ?_;rintro e w2 ⟨rfl,st2,hs4⟩;have HST2:=hQ (HST1.out.trans st2);have HE:=hQ hs4;clear st2 hs4 LV HST1;go_wp2;go_ret;exact⟨rfl,HST2.out,HE.out⟩
 · have hs2:=OwnL.of3 hs1
   have HST1:=hQ (HST.out.trans st1);have hri:Right cs LE.2:=by rw [← hLE] at h0 ⊢;exact right_load h0
   have okp:PgsOk (lookL cs LE.2):=by rw [← hLE] at h0 ⊢;exact pgs_load h0 HH.out.2.2
   have HLK:=hQ (And.intro (looks_of (refs:=refs) hri) (And.intro (rlooks_of (refs:=refs) hri) okp));have HC:=hQ (show (loadV refs cs LE.2).pool.counts=(poolOf refs cs 0).counts from rfl);generalize w.heap.size=IB at*
   have hs3:=hs2.to (M:= [Pr.pts IB (imgC refs (.slice ac cs.length cc) (.slice al l.length cl) (.slice at' ts.length ct)),VaultA v (loadV refs cs LE.2),RefA r (poolOf refs cs 0) (pgsOf cs.length LE.2) (quietT true),Pr.own h,F]);clear hs1 hs2 st1 LO HST h0 h4 hri okp;generalize lookL cs LE.2=look at*;generalize loadV refs cs LE.2=s at*;generalize pgsOf cs.length LE.2=gs at*
   generalize poolOf refs cs 0=rs at*;obtain⟨y,oky,hs4⟩:=refA_iff.1 (hs3.pull1 (A1:=RefA r rs gs (quietT true)));have hs5:=OwnL.of1 hs4;have HOK:=hQ oky;clear c1;have c1:=hs5.facts;simp only [CellsAt,Nat.reduceAdd,and_true] at c1
   have TR:=hQ (rtree_any r rs gs (quietT true) y oky look HLK.out.2.1 HLK.out.2.2 ts _ h HH.out.2.1 which _ _ (OwnL.in2 (hs5.pull2 (A1:=RefAt r rs gs (quietT true) y) (A2:=Pr.own h))));clear hs3 hs4 hs5 oky;go_wp2_with fail
   refine TR.out.mono ?_;rintro e w2 ⟨st2,t,b,rfl,hb,hs6⟩;have hs7:=hs6.flat;have HST2:=hQ (HST1.out.trans st2);clear c1;have c1:=hs7.facts;simp only [CellsAt,Nat.reduceAdd,and_true] at c1;cases b with
   | false=>
     have hs8:=hs7.alloc (treeC t.root t.height t.items);have LV:=hQ (lives_any h HH.out.1 F _ (hs8.to (M:= [Pr.own h,F])));have HST3:=hQ (HST2.out.alloc (treeC t.root t.height t.items));clear hs6 hs7 hs8 st2 TR hb HST2 HST1;go_wp2_with fail
     refine LV.out.mono ?_;rintro e w3 ⟨rfl,st3,hs9⟩;have HST4:=hQ (HST3.out.trans st3);have HE:=hQ hs9;clear st3 hs9 LV HST3;go_wp2;go_ret;exact⟨rfl,HST4.out,HE.out⟩
   | true=>
     obtain⟨L,hT⟩:=stand_of_check HLK.out.2.2 (hb rfl);have HT:=hQ hT;have hs8:=hs7.alloc (treeC t.root t.height t.items);have HS8:=hQ hs8;have HST3:=hQ (HST2.out.alloc (treeC t.root t.height t.items));clear hs6 hs7 hs8 st2 TR hb HST2 HST1 hT;go_upto_region 7 with fail
     obtain⟨TB,hTB⟩:∃TB,w2.heap.size=TB:=⟨_,rfl⟩;rw [hTB];have U1:=HS8.out;have U2:=HST3.out;clear HS8 HST3;rw [hTB] at U1;generalize w2.alloc (treeC t.root t.height t.items)=w3 at*;have HS3:=hQ (U1.to (M:= [Pr.pts IB (imgC refs (.slice ac cs.length cc) (.slice al l.length cl) (.slice at' ts.length ct)),Pr.pts TB (treeC t.root t.height t.items),VaultA v s,Pr.own h,F]));have HST3:=hQ U2
     have HTI:=hQ (stand_items HT.out);obtain⟨m,hm,hm1,hm2,hm3⟩:=stand_cut HLK.out.2.2 HT.out cut;have HM:=hQ (And.intro hm (And.intro hm1 (And.intro hm2 hm3)));clear U1 U2 hTB c1 hm hm1 hm2 hm3
     have LA:=list_any v s look HLK.out.1 HLK.out.2.2 t.root t.height t.items L HT.out _ ⟨[],[],true⟩ h ⟨_,_,rfl,RowIn.nil _ _,RowIn.nil _ _⟩ ⟨fun z hz=>(by cases hz),fun z hz=>(by cases hz)⟩ ⟨Nat.zero_le _,Nat.zero_le _⟩ _ _ (OwnL.in2 (HS3.out.pull2 (A1:=VaultA v s) (A2:=Pr.own h)));rw [show (L.filter fun x=>hasR ⟨[],[],true⟩ x.key)=L from(stand_facts HLK.out.2.2 HT.out).2.1] at LA
     have LAH:=hQ LA;have c1:=HS3.out.facts;simp only [CellsAt,Nat.reduceAdd,and_true] at c1;clear LA;go_wp2_with fail
     refine LAH.out.mono ?_;rintro e w4 ⟨st1,o,Azs,rfl,Az,hs1⟩;have hs2:=hs1.flat;obtain⟨Aa,Ac,rfl⟩:=Row.shape (hs2.pull1 (A1:=PairRow o Azs));obtain⟨Ah,ha,hs3⟩:=(hs2.join2 (PairRow (.slice Aa Azs.length Ac) Azs) (big pairRows Azs)).arena ((PairRow (.slice Aa Azs.length Ac) Azs).star (big pairRows Azs));have AP:=hQ (And.intro (pairs_in ha) Az)
     have AS:=hQ (hs3.to (M:= [Pr.own Ah,Pr.pts IB (imgC refs (.slice ac cs.length cc) (.slice al l.length cl) (.slice at' ts.length ct)),Pr.pts TB (treeC t.root t.height t.items),VaultA v s,Pr.own h,F]));have AT:=hQ (HST3.out.trans st1);clear hs1 hs2 hs3 ha st1 c1 LAH HS3 HST3 Az
     have LA:=list_any v s look HLK.out.1 HLK.out.2.2 t.root t.height t.items L HT.out _ ⟨[],cut,false⟩ h ⟨_,_,rfl,RowIn.nil _ _,HCU.out.1⟩ ⟨fun z hz=>(by cases hz),HCU.out.2.1⟩ ⟨Nat.zero_le _,by have:=HCU.out.2.2;show cut.length≤ _;omega⟩ _ _ (OwnL.in2 (AS.out.pull2 (A1:=VaultA v s) (A2:=Pr.own h)));rw [HM.out.2.1] at LA;have LAH:=hQ LA;have c1:=AS.out.facts
     simp only [CellsAt,Nat.reduceAdd,and_true] at c1;clear LA;go_wp2_with fail
     refine LAH.out.mono ?_;rintro e w5 ⟨st1,o,Bzs,rfl,Bz,hs1⟩;have hs2:=hs1.flat;obtain⟨Ba,Bc,rfl⟩:=Row.shape (hs2.pull1 (A1:=PairRow o Bzs));obtain⟨Bh,ha,hs3⟩:=(hs2.join2 (PairRow (.slice Ba Bzs.length Bc) Bzs) (big pairRows Bzs)).arena ((PairRow (.slice Ba Bzs.length Bc) Bzs).star (big pairRows Bzs));have BP:=hQ (And.intro (pairs_in ha) Bz)
     have BS:=hQ (hs3.to (M:= [Pr.own Bh,Pr.own Ah,Pr.pts IB (imgC refs (.slice ac cs.length cc) (.slice al l.length cl) (.slice at' ts.length ct)),Pr.pts TB (treeC t.root t.height t.items),VaultA v s,Pr.own h,F]));have BT:=hQ (AT.out.trans st1);clear hs1 hs2 hs3 ha st1 c1 LAH AS AT Bz
     have LA:=list_any v s look HLK.out.1 HLK.out.2.2 t.root t.height t.items L HT.out _ ⟨cut,[],true⟩ h ⟨_,_,rfl,HCU.out.1,RowIn.nil _ _⟩ ⟨HCU.out.2.1,fun z hz=>(by cases hz)⟩ ⟨by have:=HCU.out.2.2;show cut.length≤ _;omega,Nat.zero_le _⟩ _ _ (OwnL.in2 (BS.out.pull2 (A1:=VaultA v s) (A2:=Pr.own h)));rw [HM.out.2.2.1] at LA;have LAH:=hQ LA;have c1:=BS.out.facts
     simp only [CellsAt,Nat.reduceAdd,and_true] at c1;clear LA;go_wp2_with fail
     refine LAH.out.mono ?_;rintro e w6 ⟨st1,o,Czs,rfl,Cz,hs1⟩;have hs2:=hs1.flat;obtain⟨Ca,Cc,rfl⟩:=Row.shape (hs2.pull1 (A1:=PairRow o Czs));obtain⟨Ch,ha,hs3⟩:=(hs2.join2 (PairRow (.slice Ca Czs.length Cc) Czs) (big pairRows Czs)).arena ((PairRow (.slice Ca Czs.length Cc) Czs).star (big pairRows Czs));have CP:=hQ (And.intro (pairs_in ha) Cz)
     have CS:=hQ (hs3.to (M:= [Pr.own Ch,Pr.own Bh,Pr.own Ah,Pr.pts IB (imgC refs (.slice ac cs.length cc) (.slice al l.length cl) (.slice at' ts.length ct)),Pr.pts TB (treeC t.root t.height t.items),VaultA v s,Pr.own h,F]));have CT:=hQ (BT.out.trans st1);clear hs1 hs2 hs3 ha st1 c1 LAH BS BT Cz;have hza:Azs.length=L.length:=by have:=congrArg List.length AP.out.2;simpa using this
     have hzb:Bzs.length=m:=by have:=congrArg List.length BP.out.2;have h2:=HM.out.1;simpa [Nat.min_eq_left h2] using this
     have hzc:Czs.length=L.length-m:=by have:=congrArg List.length CP.out.2;simpa using this
     have HZ:=hQ (And.intro hza (And.intro hzb hzc));have hml:=HM.out.1;have hne1:((Azs.length:Int) != t.items)=false:=by rw [HTI.out,hza];simp
     have hne2:((Bzs.length:Int)+(Czs.length:Int) != (Azs.length:Int))=false:=by rw [hza,hzb,hzc,bne_eq_false_iff_eq];omega
     have hln:(Azs.length:Int)≤68719476736:=by have:=stand_len HLK.out.2.2 HT.out;omega
     have hln2:(Bzs.length:Int)≤68719476736:=by have:=stand_len HLK.out.2.2 HT.out;omega
     have hln3:(Czs.length:Int)≤68719476736:=by have:=stand_len HLK.out.2.2 HT.out;omega
     have HAL:=hQ hza;have c1:=CS.out.facts;simp only [CellsAt,Nat.reduceAdd,and_true] at c1;clear hza hzb hzc hml;go_wp2_with fail
     clear hne1 hne2 c1;obtain⟨_,_,ea,_,_,rdA⟩:=pairs_rd AP.out.1;cases ea;obtain⟨_,_,ea,_,_,rdB⟩:=pairs_rd BP.out.1;cases ea;obtain⟨_,_,ea,_,_,rdC⟩:=pairs_rd CP.out.1;cases ea;have RDA:=hQ rdA;have RDB:=hQ rdB;have RDC:=hQ rdC;clear rdA rdB rdC
     go_loopg [18] (Azs.length) (fun k i wr=> ∃q:Nat,q+k=Azs.length∧i= .int .i64 q∧Stays w wr∧OwnL [Pr.own Ch,Pr.own Bh,Pr.own Ah,Pr.pts IB (imgC refs (.slice ac cs.length cc) (.slice al l.length cl) (.slice at' ts.length ct)),Pr.pts TB (treeC t.root t.height t.items),VaultA v s,Pr.own h,F] wr)
     case atStart=>exact⟨0,Nat.zero_add _,rfl,CT.out,CS.out⟩
     case round=>
      obtain⟨q,hqk,rfl,hst,hs⟩:=hrel;rename World=>wr
      clear CS CT;have HQK:=hQ hqk;rcases Nat.lt_or_ge q Azs.length with hqa | hqa
      · obtain⟨k0,hk0⟩:∃k0,k0+1=gk:=⟨gk-1,by omega⟩
        have hqL:q<L.length:=by have:=HZ.out;omega
        have hqi:(q:Int)<Azs.length:=by omega
        obtain⟨b1,off1,k1,n1,k2,n2,eb1,e1,e2,hc1⟩:=RDA.out q hqa;subst eb1;obtain⟨p1,p2⟩:=AP.out.1.2 _ (List.getElem_mem hqa);have ez1:Azs[q].2=(L[q].key,valK look L[q]):=zs_at look AP.out.2 hqa hqL;rw [e1,ez1] at p1;rw [e2,ez1] at p2;rw [ez1] at hc1;dsimp only at p1 p2 hc1;obtain⟨a0,a1⟩:=hc1 wr (hs.le (a:=Ah));have za:=World.block_lt_of_cell? _ _ a0;simp only at za;have HP1:=hQ (And.intro p1 p2)
        have c1:=hs.facts;simp only [CellsAt,Nat.reduceAdd,and_true] at c1;clear e1 e2 ez1 p1 p2 hqk hc1;rcases Nat.lt_or_ge q m with hqm | hqm
        · have hqb:(q:Int)<Bzs.length:=by have:=HZ.out;omega
          obtain⟨b2,off2,k3,n3,k4,n4,eb2,e3,e4,hc2⟩:=RDB.out (q) (by have:=HZ.out;omega);subst eb2;obtain⟨p3,p4⟩:=BP.out.1.2 _ (List.getElem_mem (show q<Bzs.length by have:=HZ.out;omega))
          have ez2:Bzs[q].2=(L[q].key,valK look L[q]):=by
           rw [zs_at look BP.out.2 (by have:=HZ.out;omega) (by rw [List.length_take];omega)];simp only [List.getElem_take]
          rw [e3,ez2] at p3;rw [e4,ez2] at p4;rw [ez2] at hc2;dsimp only at p3 p4 hc2;clear e3 e4 ez2;have HC2:=hQ hc2;have HP2:=hQ (And.intro p3 p4);clear hc2 p3 p4;go_upto_region 20 with fail
          have U1:=hs.alloc (pairC (.slice k1 L[q].key.length n1) (.slice k2 (valK look L[q]).length n2));have U2:=hst.alloc (pairC (.slice k1 L[q].key.length n1) (.slice k2 (valK look L[q]).length n2));clear hs hst c1 a0 a1 za;generalize wr.heap.size=OB at*;generalize wr.alloc (pairC (.slice k1 L[q].key.length n1) (.slice k2 (valK look L[q]).length n2))=w7 at*;have HS7:=hQ U1;have HST7:=hQ U2
          clear U1 U2;go_cut [155] from 121 to 156 (fun tz wx=>tz= .bool false∧Stays w wx∧OwnL [Pr.pts OB (pairC (.slice k1 L[q].key.length n1) (.slice k2 (valK look L[q]).length n2)),Pr.own Ch,Pr.own Bh,Pr.own Ah,Pr.pts IB (imgC refs (.slice ac cs.length cc) (.slice al l.length cl) (.slice at' ts.length ct)),Pr.pts TB (treeC t.root t.height t.items),VaultA v s,Pr.own h,F] wx)
          case first=>
           have hs8:=HS7.out;have hcc:=HM.out.2.2.2 q hqL;obtain⟨cv2,hcv2⟩:∃z,cmpI L[q].key cut=z:=⟨_,rfl⟩;have HCM:=hQ (fun wx (ho:Only w7 wx)=>compare_any Ah h _ _ L[q].key cut HP1.out.1 HCU.out.1 (by have:=(stand_key HT.out _ (List.getElem_mem hqL)).2;omega) wx ((hs8.le (a:=Ah)).only ho) ((hs8.le (a:=h)).only ho));rw [hcv2] at HCM;have hcv3:cv2<0:=by rw [← hcv2];exact hcc.1 hqm
           clear hcc hcv2;have EP:=hQ (eqpair_same Ah Bh _ _ _ _ L[q].key (valK look L[q]) HP1.out.1 HP1.out.2 HP2.out.1 HP2.out.2 (by have:=(stand_key HT.out _ (List.getElem_mem hqL)).2;omega) (by have:(valK look L[q]).length≤3840:=value_len _ _ _ _;omega) w7.drew (hs8.drew.le (a:=Ah)) (hs8.drew.le (a:=Bh)));have c1:=hs8.facts;simp only [CellsAt,Nat.reduceAdd,and_true] at c1
           obtain⟨d0,d1⟩:=HC2.out w7 (hs8.le (a:=Bh));have zb:=World.block_lt_of_cell? _ _ d0;simp only at zb;rcases Nat.eq_zero_or_pos q with hq0 | hq0
           · have hqz:decide ((0:Int)<q)=false:=decide_eq_false (by omega)
             have hqz2:decide (0<q)=false:=decide_eq_false (by omega);clear hq0;refine wS 172 [0,1,2,3,4] [(5,[6,7,8,9,10,11,12,13,14,15,16,17,18],[1,2,3]),(19,[20,21,22,23,24,25,26,27,28,29,30],[1,2,3,6,7,8,9,11,12,13,14,15,17]),(31,[32,33,34],[1,2,3,6,7,8,9,11,12,13,14,15,17,20,21,22,24,25,27,28,26])] ?_;refine wpQ_all _ rfl rfl ?_;simp only [pick,pQ];iterate 5 (go_big_quiet_step (fail))
             refine wpQuiet_nil ?_;refine wpRest_act rfl ?_;go_wp2_with fail
             refine EP.out.mono ?_;rintro e w8 ⟨rfl,ho8⟩;have ho8':=(Only.refl w7).drew.trans ho8;have hs9:OwnL _ w8:=⟨hs8.sat.only ho8'⟩;clear c1 d0 d1 zb;have c1:=hs9.facts;simp only [CellsAt,Nat.reduceAdd,and_true] at c1;obtain⟨d0,d1⟩:=HC2.out w8 (hs9.le (a:=Bh));have zb:=World.block_lt_of_cell? _ _ d0;simp only at zb;have HO8:=hQ ho8';have HS9:=hQ hs9;clear hs9 ho8 ho8' EP hs8;go_wp2
             refine onN_mk ?_;refine wpQ_all _ rfl rfl ?_;simp only [pick,pQ];iterate 13 (go_big_quiet_step (fail))
             refine wpQuiet_nil ⟨?_,?_⟩
             · exact cQ
             refine wpRest_act rfl ?_;go_wp2;refine onN_mk ?_;refine wpQ_cut [20,21,22,23,24,25] [26,27,28,29,30] ?_;refine wpQ_all _ rfl rfl ?_;simp only [pick,pQ];iterate 6 (go_big_quiet_step (fail))
             refine wpQuiet_nil ?_;refine wpQ_step rfl rfl (fun K hK=> ?_);go_simp;refine hK _ ?_;clear hK K;refine wpQ_all _ rfl rfl ?_;simp only [pick,pQ];iterate 4 (go_big_quiet_step (fail))
             refine wpQuiet_nil ⟨?_,?_⟩
             · exact cQ
             refine wpRest_act rfl ?_;go_wp2_with fail
             refine(HCM.out w8 HO8.out).mono ?_;rintro e w10 ⟨rfl,ho10⟩;have ho11:=HO8.out.trans ho10;have hs11:OwnL _ w10:=⟨HS9.out.sat.only ho10⟩;clear c1 d0 d1 zb;have c1:=hs11.facts;simp only [CellsAt,Nat.reduceAdd,and_true] at c1;obtain⟨d0,d1⟩:=HC2.out w10 (hs11.le (a:=Bh));have zb:=World.block_lt_of_cell? _ _ d0;simp only at zb
             have HEND:=hQ (And.intro (HST7.out.trans ho11.st) (hs11.to (M:= [Pr.pts OB (pairC (.slice k1 L[q].key.length n1) (.slice k2 (valK look L[q]).length n2)),Pr.own Ch,Pr.own Bh,Pr.own Ah,Pr.pts IB (imgC refs (.slice ac cs.length cc) (.slice al l.length cl) (.slice at' ts.length ct)),Pr.pts TB (treeC t.root t.height t.items),VaultA v s,Pr.own h,F])));clear hs11 ho10 ho11;go_wp2
             refine onN_mk ?_;refine wpQ_all _ rfl rfl ?_;simp only [pick,pQ];iterate 3 (go_big_quiet_step (fail))
             refine wpQuiet_nil ⟨?_,?_⟩
             · refine chk_cut [1,2,3,6,7,8,9,11,12,13,14,15,17,20,21,22,24,25,27,28] [26] ?_ (chk_cons (yieldF_of rfl rfl rfl rfl (by go_simp)) (chk_nil))
               refine chk_all _ rfl rfl ?_;simp only [pick,Same,pQ,and_true];repeat' (first | apply And.intro | (go_big_quiet_step (fail);exact wpQuiet_nil rfl))
             refine wpRest_nil ?_;go_wp2;go_meet
             exact⟨rfl,HEND.out.1,HEND.out.2⟩
           · have hqp:(0:Int)<q:=by omega
             have hq1:q-1<L.length:=by omega
             obtain⟨b5,off5,k5,n5,k6,n6,eb5,e5,e6,hc5⟩:=RDA.out (q-1) (by have:=HZ.out;omega)
             obtain⟨rfl,rfl⟩:b5=b1∧off5=off1:=by
              simp only [Option.some.injEq,Addr.mk.injEq,and_true] at eb5;exact⟨eb5.1.symm,eb5.2.symm⟩
             clear eb5;obtain⟨p5,_⟩:=AP.out.1.2 _ (List.getElem_mem (show q-1<Azs.length by have:=HZ.out;omega));have ez5:Azs[q-1].2=(L[q-1].key,valK look L[q-1]):=zs_at look AP.out.2 (by have:=HZ.out;omega) hq1;rw [e5,ez5] at p5;rw [ez5] at hc5;dsimp only at p5 hc5;clear e5 e6 ez5;have HC0:=hQ hc5;obtain⟨cv1,hcv1⟩:∃z,cmpI L[q-1].key L[q].key=z:=⟨_,rfl⟩
             have HCP:=hQ (fun wx (ho:Only w7 wx)=>compare_any Ah Ah _ _ L[q-1].key L[q].key p5 HP1.out.1 (by have:=(stand_key HT.out _ (List.getElem_mem hq1)).2;omega) wx ((hs8.le (a:=Ah)).only ho) ((hs8.le (a:=Ah)).only ho));rw [hcv1] at HCP;have hcv4:cv1<0:=by rw [← hcv1];exact key_lt (stand_facts HLK.out.2.2 HT.out).1 hq1 hqL (by omega)
             have hcd4:decide (0≤cv1)=false:=decide_eq_false (by omega);clear hcv1 p5 hc5;refine wS 172 [0,1,2,3,4] [(5,[6,7,8,9,10,11,12,13,14,15,16,17,18],[1,2,3]),(19,[20,21,22,23,24,25,26,27,28,29,30],[1,2,3,6,7,8,9,11,12,13,14,15,17]),(31,[32,33,34],[1,2,3,6,7,8,9,11,12,13,14,15,17,20,21,22,24,25,27,28,26])] ?_;refine wpQ_all _ rfl rfl ?_;simp only [pick,pQ]
             iterate 5 (go_big_quiet_step (fail))
             refine wpQuiet_nil ?_;refine wpRest_act rfl ?_;go_wp2_with fail
             refine EP.out.mono ?_;rintro e w8 ⟨rfl,ho8⟩;have ho8':=(Only.refl w7).drew.trans ho8;have hs9:OwnL _ w8:=⟨hs8.sat.only ho8'⟩;clear c1 d0 d1 zb;have c1:=hs9.facts;simp only [CellsAt,Nat.reduceAdd,and_true] at c1;obtain⟨d0,d1⟩:=HC2.out w8 (hs9.le (a:=Bh));have zb:=World.block_lt_of_cell? _ _ d0;simp only at zb;obtain⟨f0,_⟩:=HC0.out w8 (hs9.le (a:=Ah))
             have zf:=World.block_lt_of_cell? _ _ f0;simp only at zf;have HO8:=hQ ho8';have HS9:=hQ hs9;clear hs9 ho8 ho8' EP hs8;go_wp2;refine onN_mk ?_;refine wpQ_all _ rfl rfl ?_;simp only [pick,pQ];iterate 13 (go_big_quiet_step (fail))
             refine wpQuiet_nil ⟨?_,?_⟩
             · exact cQ
             refine wpRest_act rfl ?_;go_wp2_with fail
             refine(HCP.out w8 HO8.out).mono ?_;rintro e w9 ⟨rfl,ho9⟩;have ho9':=HO8.out.trans ho9;have hs10:OwnL _ w9:=⟨HS9.out.sat.only ho9⟩;clear c1 d0 d1 zb f0 zf;have c1:=hs10.facts;simp only [CellsAt,Nat.reduceAdd,and_true] at c1;obtain⟨d0,d1⟩:=HC2.out w9 (hs10.le (a:=Bh));have zb:=World.block_lt_of_cell? _ _ d0;simp only at zb;obtain⟨f0,_⟩:=HC0.out w9 (hs10.le (a:=Ah))
             have zf:=World.block_lt_of_cell? _ _ f0;simp only at zf;have HO9:=hQ ho9';have HS10:=hQ hs10;clear hs10 ho9 ho9' HO8 HS9;go_wp2;refine onN_mk ?_;refine wpQ_cut [20,21,22,23,24,25] [26,27,28,29,30] ?_;refine wpQ_all _ rfl rfl ?_;simp only [pick,pQ];iterate 6 (go_big_quiet_step (fail))
             refine wpQuiet_nil ?_;refine wpQ_step rfl rfl (fun K hK=> ?_);go_simp;refine hK _ ?_;clear hK K;refine wpQ_all _ rfl rfl ?_;simp only [pick,pQ];iterate 4 (go_big_quiet_step (fail))
             refine wpQuiet_nil ⟨?_,?_⟩
             · exact cQ
             refine wpRest_act rfl ?_;go_wp2_with fail
             refine(HCM.out w9 HO9.out).mono ?_;rintro e w10 ⟨rfl,ho10⟩;have ho11:=HO9.out.trans ho10;have hs11:OwnL _ w10:=⟨HS10.out.sat.only ho10⟩;clear c1 d0 d1 zb f0 zf;have c1:=hs11.facts;simp only [CellsAt,Nat.reduceAdd,and_true] at c1;obtain⟨d0,d1⟩:=HC2.out w10 (hs11.le (a:=Bh));have zb:=World.block_lt_of_cell? _ _ d0;simp only at zb;obtain⟨f0,_⟩:=HC0.out w10 (hs11.le (a:=Ah))
             have zf:=World.block_lt_of_cell? _ _ f0;simp only at zf
             have HEND:=hQ (And.intro (HST7.out.trans ho11.st) (hs11.to (M:= [Pr.pts OB (pairC (.slice k1 L[q].key.length n1) (.slice k2 (valK look L[q]).length n2)),Pr.own Ch,Pr.own Bh,Pr.own Ah,Pr.pts IB (imgC refs (.slice ac cs.length cc) (.slice al l.length cl) (.slice at' ts.length ct)),Pr.pts TB (treeC t.root t.height t.items),VaultA v s,Pr.own h,F])));clear hs11 ho10 ho11;go_wp2
             refine onN_mk ?_;refine wpQ_all _ rfl rfl ?_;simp only [pick,pQ];iterate 3 (go_big_quiet_step (fail))
             refine wpQuiet_nil ⟨?_,?_⟩
             · refine chk_cut [1,2,3,6,7,8,9,11,12,13,14,15,17,20,21,22,24,25,27,28] [26] ?_ (chk_cons (yieldF_of rfl rfl rfl rfl (by go_simp)) (chk_nil))
               refine chk_all _ rfl rfl ?_;simp only [pick,Same,pQ,and_true];repeat' (first | apply And.intro | (go_big_quiet_step (fail);exact wpQuiet_nil rfl))
             refine wpRest_nil ?_;go_wp2;go_meet
             exact⟨rfl,HEND.out.1,HEND.out.2⟩
          case rest=>
           obtain⟨rfl,st12,hs12⟩:=hcut;rename World=>w12
           have c1:=hs12.facts;simp only [CellsAt,Nat.reduceAdd,and_true] at c1;have NA:=hQ (near_any v s look HLK.out.1 HLK.out.2.2 t.root t.height t.items L HT.out Ah _ Azs AP.out.1 AP.out.2 h HH.out.1 q hqL _ _ (OwnL.in3 (hs12.pull3 (A1:=VaultA v s) (A2:=Pr.own Ah) (A3:=Pr.own h))));have HST12:=hQ st12;clear hs12 st12 HS7 HST7;go_wp2_with fail
           refine NA.out.mono ?_;rintro e w13 ⟨rfl,st13,hs13⟩;have HS13:=hQ (hs13.flat.to (M:= [Pr.own Ch,Pr.own Bh,Pr.own Ah,Pr.pts IB (imgC refs (.slice ac cs.length cc) (.slice al l.length cl) (.slice at' ts.length ct)),Pr.pts TB (treeC t.root t.height t.items),VaultA v s,Pr.own h,F]));have HST13:=hQ (HST12.out.trans st13);clear hs13 st13 NA HST12 c1;go_wp2;go_roundg k0
           case measure=>omega
           case rel=>exact⟨q+1,by have:=HQK.out;omega,congrArg (Value.int .i64) (by omega),HST13.out,HS13.out⟩
        · have hqb:¬(q:Int)<Bzs.length:=by have:=HZ.out;omega
          have hqd:decide ((q:Int)<Bzs.length)=false:=decide_eq_false hqb;have hqc0:(0:Int)≤(q:Int)-Bzs.length:=by omega
          have hqc1:(q:Int)-Bzs.length<Czs.length:=by have:=HZ.out;omega
          have hbm:Bzs.length=m:=HZ.out.2.1;subst hbm;obtain⟨b2,off2,k3,n3,k4,n4,eb2,e3,e4,hc2⟩:=RDC.out (q-Bzs.length) (by have:=HZ.out;omega);subst eb2;obtain⟨p3,p4⟩:=CP.out.1.2 _ (List.getElem_mem (show q-Bzs.length<Czs.length by have:=HZ.out;omega))
          have ez2:Czs[q-Bzs.length].2=(L[q].key,valK look L[q]):=by
           rw [zs_at look CP.out.2 (by have:=HZ.out;omega) (by rw [List.length_drop];omega)];simp only [List.getElem_drop,show Bzs.length+(q-Bzs.length)=q by omega]
          rw [e3,ez2] at p3;rw [e4,ez2] at p4;rw [ez2] at hc2;dsimp only at p3 p4 hc2;clear e3 e4 ez2;have HC2:=hQ hc2;have HP2:=hQ (And.intro p3 p4);clear hc2 p3 p4;go_upto_region 20 with fail
          have U1:=hs.alloc (pairC (.slice k1 L[q].key.length n1) (.slice k2 (valK look L[q]).length n2));have U2:=hst.alloc (pairC (.slice k1 L[q].key.length n1) (.slice k2 (valK look L[q]).length n2));clear hs hst c1 a0 a1 za;generalize wr.heap.size=OB at*;generalize wr.alloc (pairC (.slice k1 L[q].key.length n1) (.slice k2 (valK look L[q]).length n2))=w7 at*;have HS7:=hQ U1;have HST7:=hQ U2
          clear U1 U2;go_cut [155] from 121 to 156 (fun tz wx=>tz= .bool false∧Stays w wx∧OwnL [Pr.pts OB (pairC (.slice k1 L[q].key.length n1) (.slice k2 (valK look L[q]).length n2)),Pr.own Ch,Pr.own Bh,Pr.own Ah,Pr.pts IB (imgC refs (.slice ac cs.length cc) (.slice al l.length cl) (.slice at' ts.length ct)),Pr.pts TB (treeC t.root t.height t.items),VaultA v s,Pr.own h,F] wx)
          case first=>
           have hs8:=HS7.out;have hcc:=HM.out.2.2.2 q hqL;obtain⟨cv2,hcv2⟩:∃z,cmpI L[q].key cut=z:=⟨_,rfl⟩;have HCM:=hQ (fun wx (ho:Only w7 wx)=>compare_any Ah h _ _ L[q].key cut HP1.out.1 HCU.out.1 (by have:=(stand_key HT.out _ (List.getElem_mem hqL)).2;omega) wx ((hs8.le (a:=Ah)).only ho) ((hs8.le (a:=h)).only ho));rw [hcv2] at HCM
           have hcv3:¬cv2<0:=by rw [← hcv2];exact fun h=>by have:=hcc.2 h;omega
           have hcd:decide (cv2<0)=false:=decide_eq_false hcv3;clear hcc hcv2;have EP:=hQ (eqpair_same Ah Ch _ _ _ _ L[q].key (valK look L[q]) HP1.out.1 HP1.out.2 HP2.out.1 HP2.out.2 (by have:=(stand_key HT.out _ (List.getElem_mem hqL)).2;omega) (by have:(valK look L[q]).length≤3840:=value_len _ _ _ _;omega) w7.drew (hs8.drew.le (a:=Ah)) (hs8.drew.le (a:=Ch)));have c1:=hs8.facts
           simp only [CellsAt,Nat.reduceAdd,and_true] at c1;obtain⟨d0,d1⟩:=HC2.out w7 (hs8.le (a:=Ch));have zb:=World.block_lt_of_cell? _ _ d0;simp only at zb;rcases Nat.eq_zero_or_pos q with hq0 | hq0
           · have hqz:decide ((0:Int)<q)=false:=decide_eq_false (by omega)
             have hqz2:decide (0<q)=false:=decide_eq_false (by omega);clear hq0;refine wS 172 [0,1,2,3,4] [(5,[6,7,8,9,10,11,12,13,14,15,16,17,18],[1,2,3]),(19,[20,21,22,23,24,25,26,27,28,29,30],[1,2,3,6,7,8,9,11,12,13,14,15,17]),(31,[32,33,34],[1,2,3,6,7,8,9,11,12,13,14,15,17,20,21,22,24,25,27,28,26])] ?_;refine wpQ_all _ rfl rfl ?_;simp only [pick,pQ];iterate 5 (go_big_quiet_step (fail))
             refine wpQuiet_nil ?_;refine wpRest_act rfl ?_;go_wp2_with fail
             refine EP.out.mono ?_;rintro e w8 ⟨rfl,ho8⟩;have ho8':=(Only.refl w7).drew.trans ho8;have hs9:OwnL _ w8:=⟨hs8.sat.only ho8'⟩;clear c1 d0 d1 zb;have c1:=hs9.facts;simp only [CellsAt,Nat.reduceAdd,and_true] at c1;obtain⟨d0,d1⟩:=HC2.out w8 (hs9.le (a:=Ch));have zb:=World.block_lt_of_cell? _ _ d0;simp only at zb;have HO8:=hQ ho8';have HS9:=hQ hs9;clear hs9 ho8 ho8' EP hs8;go_wp2
             refine onN_mk ?_;refine wpQ_all _ rfl rfl ?_;simp only [pick,pQ];iterate 13 (go_big_quiet_step (fail))
             refine wpQuiet_nil ⟨?_,?_⟩
             · exact cQ
             refine wpRest_act rfl ?_;go_wp2;refine onN_mk ?_;refine wpQ_cut [20,21,22,23,24,25] [26,27,28,29,30] ?_;refine wpQ_all _ rfl rfl ?_;simp only [pick,pQ];iterate 6 (go_big_quiet_step (fail))
             refine wpQuiet_nil ?_;refine wpQ_step rfl rfl (fun K hK=> ?_);go_simp;refine hK _ ?_;clear hK K;refine wpQ_all _ rfl rfl ?_;simp only [pick,pQ];iterate 4 (go_big_quiet_step (fail))
             refine wpQuiet_nil ⟨?_,?_⟩
             · exact cQ
             refine wpRest_act rfl ?_;go_wp2_with fail
             refine(HCM.out w8 HO8.out).mono ?_;rintro e w10 ⟨rfl,ho10⟩;have ho11:=HO8.out.trans ho10;have hs11:OwnL _ w10:=⟨HS9.out.sat.only ho10⟩;clear c1 d0 d1 zb;have c1:=hs11.facts;simp only [CellsAt,Nat.reduceAdd,and_true] at c1;obtain⟨d0,d1⟩:=HC2.out w10 (hs11.le (a:=Ch));have zb:=World.block_lt_of_cell? _ _ d0;simp only at zb
             have HEND:=hQ (And.intro (HST7.out.trans ho11.st) (hs11.to (M:= [Pr.pts OB (pairC (.slice k1 L[q].key.length n1) (.slice k2 (valK look L[q]).length n2)),Pr.own Ch,Pr.own Bh,Pr.own Ah,Pr.pts IB (imgC refs (.slice ac cs.length cc) (.slice al l.length cl) (.slice at' ts.length ct)),Pr.pts TB (treeC t.root t.height t.items),VaultA v s,Pr.own h,F])));clear hs11 ho10 ho11;go_wp2
             refine onN_mk ?_;refine wpQ_all _ rfl rfl ?_;simp only [pick,pQ];iterate 3 (go_big_quiet_step (fail))
             refine wpQuiet_nil ⟨?_,?_⟩
             · refine chk_cut [1,2,3,6,7,8,9,11,12,13,14,15,17,20,21,22,24,25,27,28] [26] ?_ (chk_cons (yieldF_of rfl rfl rfl rfl (by go_simp)) (chk_nil))
               refine chk_all _ rfl rfl ?_;simp only [pick,Same,pQ,and_true];repeat' (first | apply And.intro | (go_big_quiet_step (fail);exact wpQuiet_nil rfl))
             refine wpRest_nil ?_;go_wp2;go_meet
             exact⟨congrArg Value.bool (decide_eq_false (by omega)),HEND.out.1,HEND.out.2⟩
           · have hqp:(0:Int)<q:=by omega
             have hq1:q-1<L.length:=by omega
             obtain⟨b5,off5,k5,n5,k6,n6,eb5,e5,e6,hc5⟩:=RDA.out (q-1) (by have:=HZ.out;omega)
             obtain⟨rfl,rfl⟩:b5=b1∧off5=off1:=by
              simp only [Option.some.injEq,Addr.mk.injEq,and_true] at eb5;exact⟨eb5.1.symm,eb5.2.symm⟩
             clear eb5;obtain⟨p5,_⟩:=AP.out.1.2 _ (List.getElem_mem (show q-1<Azs.length by have:=HZ.out;omega));have ez5:Azs[q-1].2=(L[q-1].key,valK look L[q-1]):=zs_at look AP.out.2 (by have:=HZ.out;omega) hq1;rw [e5,ez5] at p5;rw [ez5] at hc5;dsimp only at p5 hc5;clear e5 e6 ez5;have HC0:=hQ hc5;obtain⟨cv1,hcv1⟩:∃z,cmpI L[q-1].key L[q].key=z:=⟨_,rfl⟩
             have HCP:=hQ (fun wx (ho:Only w7 wx)=>compare_any Ah Ah _ _ L[q-1].key L[q].key p5 HP1.out.1 (by have:=(stand_key HT.out _ (List.getElem_mem hq1)).2;omega) wx ((hs8.le (a:=Ah)).only ho) ((hs8.le (a:=Ah)).only ho));rw [hcv1] at HCP;have hcv4:cv1<0:=by rw [← hcv1];exact key_lt (stand_facts HLK.out.2.2 HT.out).1 hq1 hqL (by omega)
             have hcd4:decide (0≤cv1)=false:=decide_eq_false (by omega);clear hcv1 p5 hc5;refine wS 172 [0,1,2,3,4] [(5,[6,7,8,9,10,11,12,13,14,15,16,17,18],[1,2,3]),(19,[20,21,22,23,24,25,26,27,28,29,30],[1,2,3,6,7,8,9,11,12,13,14,15,17]),(31,[32,33,34],[1,2,3,6,7,8,9,11,12,13,14,15,17,20,21,22,24,25,27,28,26])] ?_;refine wpQ_all _ rfl rfl ?_;simp only [pick,pQ]
             iterate 5 (go_big_quiet_step (fail))
             refine wpQuiet_nil ?_;refine wpRest_act rfl ?_;go_wp2_with fail
             refine EP.out.mono ?_;rintro e w8 ⟨rfl,ho8⟩;have ho8':=(Only.refl w7).drew.trans ho8;have hs9:OwnL _ w8:=⟨hs8.sat.only ho8'⟩;clear c1 d0 d1 zb;have c1:=hs9.facts;simp only [CellsAt,Nat.reduceAdd,and_true] at c1;obtain⟨d0,d1⟩:=HC2.out w8 (hs9.le (a:=Ch));have zb:=World.block_lt_of_cell? _ _ d0;simp only at zb;obtain⟨f0,_⟩:=HC0.out w8 (hs9.le (a:=Ah))
             have zf:=World.block_lt_of_cell? _ _ f0;simp only at zf;have HO8:=hQ ho8';have HS9:=hQ hs9;clear hs9 ho8 ho8' EP hs8;go_wp2;refine onN_mk ?_;refine wpQ_all _ rfl rfl ?_;simp only [pick,pQ];iterate 13 (go_big_quiet_step (fail))
             refine wpQuiet_nil ⟨?_,?_⟩
             · exact cQ
             refine wpRest_act rfl ?_;go_wp2_with fail
             refine(HCP.out w8 HO8.out).mono ?_;rintro e w9 ⟨rfl,ho9⟩;have ho9':=HO8.out.trans ho9;have hs10:OwnL _ w9:=⟨HS9.out.sat.only ho9⟩;clear c1 d0 d1 zb f0 zf;have c1:=hs10.facts;simp only [CellsAt,Nat.reduceAdd,and_true] at c1;obtain⟨d0,d1⟩:=HC2.out w9 (hs10.le (a:=Ch));have zb:=World.block_lt_of_cell? _ _ d0;simp only at zb;obtain⟨f0,_⟩:=HC0.out w9 (hs10.le (a:=Ah))
             have zf:=World.block_lt_of_cell? _ _ f0;simp only at zf;have HO9:=hQ ho9';have HS10:=hQ hs10;clear hs10 ho9 ho9' HO8 HS9;go_wp2;refine onN_mk ?_;refine wpQ_cut [20,21,22,23,24,25] [26,27,28,29,30] ?_;refine wpQ_all _ rfl rfl ?_;simp only [pick,pQ];iterate 6 (go_big_quiet_step (fail))
             refine wpQuiet_nil ?_;refine wpQ_step rfl rfl (fun K hK=> ?_);go_simp;refine hK _ ?_;clear hK K;refine wpQ_all _ rfl rfl ?_;simp only [pick,pQ];iterate 4 (go_big_quiet_step (fail))
             refine wpQuiet_nil ⟨?_,?_⟩
             · exact cQ
             refine wpRest_act rfl ?_;go_wp2_with fail
             refine(HCM.out w9 HO9.out).mono ?_;rintro e w10 ⟨rfl,ho10⟩;have ho11:=HO9.out.trans ho10;have hs11:OwnL _ w10:=⟨HS10.out.sat.only ho10⟩;clear c1 d0 d1 zb f0 zf;have c1:=hs11.facts;simp only [CellsAt,Nat.reduceAdd,and_true] at c1;obtain⟨d0,d1⟩:=HC2.out w10 (hs11.le (a:=Ch));have zb:=World.block_lt_of_cell? _ _ d0;simp only at zb;obtain⟨f0,_⟩:=HC0.out w10 (hs11.le (a:=Ah))
             have zf:=World.block_lt_of_cell? _ _ f0;simp only at zf
             have HEND:=hQ (And.intro (HST7.out.trans ho11.st) (hs11.to (M:= [Pr.pts OB (pairC (.slice k1 L[q].key.length n1) (.slice k2 (valK look L[q]).length n2)),Pr.own Ch,Pr.own Bh,Pr.own Ah,Pr.pts IB (imgC refs (.slice ac cs.length cc) (.slice al l.length cl) (.slice at' ts.length ct)),Pr.pts TB (treeC t.root t.height t.items),VaultA v s,Pr.own h,F])));clear hs11 ho10 ho11;go_wp2
             refine onN_mk ?_;refine wpQ_all _ rfl rfl ?_;simp only [pick,pQ];iterate 3 (go_big_quiet_step (fail))
             refine wpQuiet_nil ⟨?_,?_⟩
             · refine chk_cut [1,2,3,6,7,8,9,11,12,13,14,15,17,20,21,22,24,25,27,28] [26] ?_ (chk_cons (yieldF_of rfl rfl rfl rfl (by go_simp)) (chk_nil))
               refine chk_all _ rfl rfl ?_;simp only [pick,Same,pQ,and_true];repeat' (first | apply And.intro | (go_big_quiet_step (fail);exact wpQuiet_nil rfl))
             refine wpRest_nil ?_;go_wp2;go_meet
             exact⟨congrArg Value.bool (decide_eq_false (by omega)),HEND.out.1,HEND.out.2⟩
          case rest=>
           obtain⟨rfl,st12,hs12⟩:=hcut;rename World=>w12
           have c1:=hs12.facts;simp only [CellsAt,Nat.reduceAdd,and_true] at c1;have NA:=hQ (near_any v s look HLK.out.1 HLK.out.2.2 t.root t.height t.items L HT.out Ah _ Azs AP.out.1 AP.out.2 h HH.out.1 q hqL _ _ (OwnL.in3 (hs12.pull3 (A1:=VaultA v s) (A2:=Pr.own Ah) (A3:=Pr.own h))));have HST12:=hQ st12;clear hs12 st12 HS7 HST7;go_wp2_with fail
           refine NA.out.mono ?_;rintro e w13 ⟨rfl,st13,hs13⟩;have HS13:=hQ (hs13.flat.to (M:= [Pr.own Ch,Pr.own Bh,Pr.own Ah,Pr.pts IB (imgC refs (.slice ac cs.length cc) (.slice al l.length cl) (.slice at' ts.length ct)),Pr.pts TB (treeC t.root t.height t.items),VaultA v s,Pr.own h,F]));have HST13:=hQ (HST12.out.trans st13);clear hs13 st13 NA HST12 c1;go_wp2;go_roundg k0
           case measure=>omega
           case rel=>exact⟨q+1,by have:=HQK.out;omega,congrArg (Value.int .i64) (by omega),HST13.out,HS13.out⟩
      · have hqn:¬(q:Int)<Azs.length:=by omega
        have c1:=hs.facts;simp only [CellsAt,Nat.reduceAdd,and_true] at c1;have BK:=back_any v s look HLK.out.1 HLK.out.2.2 t.root t.height t.items L HT.out _ ⟨[],[],true⟩ h ⟨_,_,rfl,RowIn.nil _ _,RowIn.nil _ _⟩ ⟨fun z hz=>(by cases hz),fun z hz=>(by cases hz)⟩ ⟨Nat.zero_le _,Nat.zero_le _⟩ _ _ (OwnL.in2 (hs.pull2 (A1:=VaultA v s) (A2:=Pr.own h)))
        rw [show (L.filter fun x=>hasR ⟨[],[],true⟩ x.key)=L from(stand_facts HLK.out.2.2 HT.out).2.1] at BK;have BKH:=hQ BK;have HST5:=hQ hst;clear hs hst BK hqk hqa;go_wp2_with fail
        refine BKH.out.mono ?_;rintro e w14 ⟨st14,tb,sb,pv,ys,ah,rfl,hzy,hPy,hs14⟩;have hs15:=hs14.flat
        have hyl:ys.length≤140737488355328:=by
         have h1:=congrArg List.length hzy;have h2:=stand_len HLK.out.2.2 HT.out;simp only [List.length_map] at h1;omega
        have GO:=hQ (goes_any tb Azs true _ (back_iter tb sb pv ah ys hPy hyl (pair_lens HT.out hzy) (Azs.map (·.2)) (hzy.trans AP.out.2.symm)) Ah _ AP.out.1 (by omega) (pair_lens HT.out AP.out.2) 1073741824 _ _ (OwnL.in2 (hs15.pull2 (A1:=WalkOwn tb sb 97 pv ah) (A2:=Pr.own Ah))));have HST14:=hQ (HST5.out.trans st14);clear hs14 hs15 st14 BKH HST5 c1 hyl hPy hzy;go_wp2_with fail
        refine GO.out.mono ?_;rintro e w15 ⟨rfl,st15,hs16⟩;have LV:=hQ (lives_any h HH.out.1 F w15 (hs16.flat.to (M:= [Pr.own h,F])));have HST15:=hQ (HST14.out.trans st15);clear hs16 st15 GO HST14;go_wp2_with fail
        refine LV.out.mono ?_;rintro e w16 ⟨rfl,st16,hs17⟩;have HST16:=hQ (HST15.out.trans st16);have HE:=hQ hs17;clear hs17 st16 LV HST15;go_wp2;go_ret;exact⟨rfl,HST16.out,HE.out⟩
end Go.Proofs.YtiegeadmgpanoaaGreatDoor.E9
