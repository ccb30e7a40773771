/- The law WalkChecks walked: Check of any trees in any vault; the conditions stand as hypotheses. -/
import Derived.Test.YtiegeadmgpanoaaGreatDoorWalkChecksM32
import Derived.Test.YtiegeadmgpanoaaGreatDoorWalkChecksM30
import Derived.Test.YtiegeadmgpanoaaGreatDoorWalkChecksM25
import Derived.Test.YtiegeadmgpanoaaGreatDoorWalkChecksM28
import Derived.Test.YtiegeadmgpanoaaGreatDoorWalkChecksM01
set_option maxRecDepth 100000
set_option maxHeartbeats 16000000
namespace Go.Proofs.YtiegeadmgpanoaaGreatDoor.F8
open ChangeShapes WideShapes ChangeAt RowKit Sl Cop D2 F3 P3 G2 J2 Q3 V3 G4 X3 M5 J4 G5 G6 J6 P6 F6 K4 L6 T6 E7 V6 X6 L7 V7 D8 E8 W7
theorem checks_walk(refs:Int)(h:Hp)(GE:EveryIn h)(vc vl vt:Value)(cs:List Int)(l:List NumV)(ts:List TreeV)(hx:Ints h vc cs)(hl:NumsIn h vl l)(ht:TreesIn h vt ts)(hu:∀x∈l,∀y∈x.page.items,U8 y.key)(hn:l.length≤9223372036854775807)(hnt:ts.length≤9223372036854775807)(hti:∀t∈ts,t.items≤9223372036854775807)(F:Pr)(w:World)(hF:OwnL [Pr.own h,F] w):
 Calls Tryz.prog 3 #[imgV refs vc vl vt] w fun e w'=>e= .returned (.bool true)∧Stays w w'∧OwnL [Pr.own h,F] w':=by
 have hl0:=hl;have hx0:=hx;have ht0:=ht;obtain⟨al,cl,rfl,_⟩:=nums_rd hl;obtain⟨ac,cc,rfl,_⟩:=ints_rd hx;obtain⟨at',ct,rfl,_⟩:=trees_rd ht;have hs0:=hF.alloc (imgC refs (.slice ac cs.length cc) (.slice al l.length cl) (.slice at' ts.length ct));have LO:=hQ (loaded_any refs h _ _ at' ts.length ct cs l hx0 hl0 hu hn _ _ (hs0.pull1 (A1:=Pr.own h)))
 have HST:=hQ ((Stays.refl w).alloc (imgC refs (.slice ac cs.length cc) (.slice al l.length cl) (.slice at' ts.length ct)));have HH:=hQ (And.intro GE (And.intro ht0 (And.intro hti hu)));have hnt3:(ts.length:Int)≤9223372036854775807:=by omega
 clear hF hs0 hx hl ht hx0 hl0 ht0 hu hti GE hnt;generalize hLE:loadE refs cs l=LE at*;go_enter Tryz.func3,Tryz.ntmps3
 go_wp2_with fail
 refine LO.out.mono ?_;rintro e w1 ⟨st1,(⟨_,rfl,hs1⟩ | ⟨h0,h4,v,r,rfl,hs1⟩)⟩
 · have hs2:=OwnL.of1 hs1
   have hs3:=hs2.to (M:= [Pr.own h,F]);have HST1:=hQ (HST.out.trans st1);have LV:=hQ (lives_any h HH.out.1 F w1 hs3);clear hs1 hs2 hs3 st1 LO HST;go_wp2_with fail
   refine LV.out.mono ?_;rintro e w2 ⟨rfl,st2,hs4⟩;have HST2:=hQ (HST1.out.trans st2);have HE:=hQ hs4;clear st2 hs4 LV HST1;go_wp2;go_ret;exact⟨rfl,HST2.out,HE.out⟩
 · have hs2:=OwnL.of3 hs1
   have HST1:=hQ (HST.out.trans st1);have hri:Right cs LE.2:=by rw [← hLE] at h0 ⊢;exact right_load h0
   have okp:PgsOk (lookL cs LE.2):=by rw [← hLE] at h0 ⊢;exact pgs_load h0 HH.out.2.2.2
   have HLK:=hQ (And.intro (looks_of (refs:=refs) hri) (And.intro (rlooks_of (refs:=refs) hri) okp));have HC:=hQ (show (loadV refs cs LE.2).pool.counts=(poolOf refs cs 0).counts from rfl);generalize w.heap.size=IB at*
   have HS2:=hQ (hs2.to (M:= [Pr.pts IB (imgC refs (.slice ac cs.length cc) (.slice al l.length cl) (.slice at' ts.length ct)),VaultA v (loadV refs cs LE.2),RefA r (poolOf refs cs 0) (pgsOf cs.length LE.2) (quietT true),Pr.own h,F]));clear hs1 hs2 st1 LO HST h0 h4 hri okp;generalize lookL cs LE.2=look at*;generalize loadV refs cs LE.2=s at*;generalize pgsOf cs.length LE.2=gs at*
   generalize poolOf refs cs 0=rs at*;go_wp2;go_loopw [6] (fun i wr=> ∃k:Nat,k≤ts.length∧i= .int .i64 k∧Stays w wr∧OwnL [Pr.pts IB (imgC refs (.slice ac cs.length cc) (.slice al l.length cl) (.slice at' ts.length ct)),VaultA v s,RefA r rs gs (quietT true),Pr.own h,F] wr) (fun i _=>ts.length-(intOf i).toNat)
   case atStart=>exact⟨0,Nat.zero_le _,rfl,HST1.out,HS2.out⟩
   case round=>
    obtain⟨k,hk,rfl,hst,hs⟩:=hrel;clear HS2 HST1;have HST:=hQ hst;have c1:=hs.facts;simp only [CellsAt,Nat.reduceAdd,and_true] at c1;rcases Nat.lt_or_ge k ts.length with hlt | hge
    · obtain⟨_,_,e,rd⟩:=trees_rd HH.out.2.1
      cases e;obtain⟨b,off,rfl,hc⟩:=rd k hlt;obtain⟨d0,d1,d2⟩:=hc wr (hs.le (a:=h));have zb:=World.block_lt_of_cell? _ _ d0;simp only at zb;have hit:=HH.out.2.2.1 _ (List.getElem_mem hlt);have HCC:=hQ hc;generalize ts[k]=t at*;obtain⟨y,oky,hs1⟩:=refA_iff.1 (hs.pull1 (A1:=RefA r rs gs (quietT true)));have hs2:=OwnL.of1 hs1
      have RC:=hQ (rcheck_any r rs gs (quietT true) y oky look HLK.out.2.1 HLK.out.2.2 t.root t.height t.items _ _ (OwnL.in1 (hs2.pull1 (A1:=RefAt r rs gs (quietT true) y))));have HOK:=hQ oky;have hk3:(k:Int)<(ts.length:Int):=by omega
      clear hst hs hs1 hs2 hc oky;go_wp2_with fail
      refine RC.out.mono ?_;rintro e w2 ⟨st2,rfl,hs3⟩;obtain⟨hs3a⟩:=hs3;have hs4:OwnL [RefA r rs gs (quietT true),Pr.pts IB (imgC refs (.slice ac cs.length cc) (.slice al l.length cl) (.slice (some ⟨b,off,none⟩) ts.length ct)),VaultA v s,Pr.own h,F] w2:=⟨refA_iff.2 ⟨y,HOK.out,hs3a.perm (by simp only [starL,Pr.star_emp])⟩⟩;have HST2:=hQ (HST.out.trans st2);clear c1 d0 d1 d2 zb
      obtain⟨d0,d1,d2⟩:=HCC.out w2 (hs4.le (a:=h));have zb:=World.block_lt_of_cell? _ _ d0;simp only at zb;have c1:=hs4.facts;simp only [CellsAt,Nat.reduceAdd,and_true] at c1;have CH:=hQ (check_any v s look HLK.out.1 HLK.out.2.2 t.root t.height t.items hit h HH.out.1 _ _ (OwnL.in2 (hs4.pull2 (A1:=VaultA v s) (A2:=Pr.own h))));clear hs3a hs4 st2 RC HST
      obtain⟨E,hE⟩:∃E,checkK look t.root t.height t.items=E:=⟨_,rfl⟩;rw [hE] at CH ⊢;have HEQ:=hQ hE;clear hE;have hEE:(E != E)=false:=by simp
      go_wp2_with fail
      refine CH.out.mono ?_;rintro e w3 ⟨st3,rfl,hs5⟩;have hs6:=hs5.flat;have HST3:=hQ (HST2.out.trans st3);clear c1 d0 d1 d2 zb CH;obtain⟨d0,d1,d2⟩:=HCC.out w3 (hs6.le (a:=h));have zb:=World.block_lt_of_cell? _ _ d0;simp only at zb;have c1:=hs6.facts;simp only [CellsAt,Nat.reduceAdd,and_true] at c1
      have CH:=hQ (check_any v s look HLK.out.1 HLK.out.2.2 t.root t.height t.items hit h HH.out.1 _ _ (OwnL.in2 (hs6.pull2 (A1:=VaultA v s) (A2:=Pr.own h))));rw [HEQ.out] at CH;clear hs5 hs6 st3 HST2;go_wp2_with fail
      refine CH.out.mono ?_;rintro e w4 ⟨st4,rfl,hs7⟩;have HS8:=hQ (hs7.flat.to (M:= [Pr.pts IB (imgC refs (.slice ac cs.length cc) (.slice al l.length cl) (.slice (some ⟨b,off,none⟩) ts.length ct)),VaultA v s,RefA r rs gs (quietT true),Pr.own h,F]));have HST4:=hQ (HST3.out.trans st4);clear hs7 st4 CH HST3 c1 d0 d1 d2 zb;go_wp2;go_roundw
      case rel=>exact⟨k+1,by omega,congrArg (Value.int .i64) (by omega),HST4.out,HS8.out⟩
      case measure=>simp [intOf];omega
    · have KP:=hQ (wkept_any v r s rs gs (quietT true) look HLK.out.1 HLK.out.2.1 HC.out _ _ (OwnL.in2 (hs.pull2 (A1:=VaultA v s) (A2:=RefA r rs gs (quietT true)))))
      have hk3:¬(k:Int)<(ts.length:Int):=by omega
      clear hst hs;go_wp2_with fail
      refine KP.out.mono ?_;rintro e w2 ⟨rfl,st2,hs2⟩;have hs3:=hs2.flat.to (M:= [Pr.own h,F]);have HST2:=hQ (HST.out.trans st2);have LV:=hQ (lives_any h HH.out.1 F w2 hs3);clear hs2 hs3 st2 KP HST c1;go_wp2_with fail
      refine LV.out.mono ?_;rintro e w3 ⟨rfl,st3,hs4⟩;have HST3:=hQ (HST2.out.trans st3);have HE:=hQ hs4;clear st3 hs4 LV HST2;go_wp2;go_ret;exact⟨rfl,HST3.out,HE.out⟩
end Go.Proofs.YtiegeadmgpanoaaGreatDoor.F8
