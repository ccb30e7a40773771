/- Both vaults of an image; the conditions stand as hypotheses. -/
import Derived.Test.YtiegeadmgpanoaaGreatDoorWalkChecksM23
import Derived.Test.YtiegeadmgpanoaaGreatDoorWalkChecksM21
import Derived.Test.YtiegeadmgpanoaaGreatDoorWalkChecksM01
set_option maxRecDepth 100000
set_option maxHeartbeats 16000000
namespace Go.Proofs.YtiegeadmgpanoaaGreatDoor.X6
open ChangeShapes WideShapes ChangeAt RowKit Sl Cop D2 F3 P3 G2 J2 Q3 V3 G4 G5 X3 M5 J4 F6 G6 J6 P6 V6
theorem loaded_any(refs:Int)(h:Hp)(vc vl:Value)(at':Option Addr)(nt ct:Nat)(cs:List Int)(l:List NumV)(hx:Ints h vc cs)(hl:NumsIn h vl l)(hu:∀x∈l,∀y∈x.page.items,U8 y.key)(hn:l.length≤9223372036854775807)(F:Pr)(w:World)(hF:Sat ((Pr.own h).star F) w):
 Calls Tryz.prog 7 #[imgV refs vc vl (.slice at' nt ct)] w fun e w'=>Stays w w'∧
  ((((loadE refs cs l).1≠0∨4096<cs.length)∧e= .returned (.tuple #[.pointer none,.pointer none,.bool true])∧Sat ((Pr.own h).star F) w')∨
   ((loadE refs cs l).1=0∧cs.length≤4096∧∃v r,e= .returned (.tuple #[.pointer (some ⟨v,0,none⟩),.pointer (some ⟨r,0,none⟩),.bool true])∧
     Sat ((VaultA v (loadV refs cs (loadE refs cs l).2)).star ((RefA r (poolOf refs cs 0) (pgsOf cs.length (loadE refs cs l).2) (quietT true)).star ((Pr.own h).star F))) w')):=by
 have hx0:=hx;have hl0:=hl;obtain⟨al,cl,rfl,_⟩:=nums_rd hl;obtain⟨ac,cc,rfl,_⟩:=ints_rd hx;have hs0:=(OwnL.in1 hF).alloc (imgC refs (.slice ac cs.length cc) (.slice al l.length cl) (.slice at' nt ct));have IM:=hQ (image_any refs h _ _ at' nt ct cs l hx0 hl0 hn _ _ (hs0.pull1 (A1:=Pr.own h)));have VL:=hQ (fun(G:Pr) (wx:World) hG=>vload_big refs h _ _ cs l hx0 hl0 hu hn G wx hG)
 have HST:=hQ ((Stays.refl w).alloc (imgC refs (.slice ac cs.length cc) (.slice al l.length cl) (.slice at' nt ct)));clear hs0 hF hx hl hx0 hl0 hu;generalize loadE refs cs l=LE at*;go_enter Tryz.func7,Tryz.ntmps7
 go_wp2_with fail
 refine IM.out.mono ?_;rintro e w1 ⟨st1,(⟨hne,rfl,hs1⟩ | ⟨h0,r,rfl,hs1⟩)⟩
 · have hs2:=OwnL.of1 hs1
   have c1:=hs2.facts;simp only [CellsAt,Nat.reduceAdd,and_true] at c1;have HE:=hQ ((hs2.to (M:= [Pr.own h,F])).sat.perm (B:=(Pr.own h).star F) (by simp only [starL,Pr.star_emp]));have HST1:=hQ (HST.out.trans st1);have HNE:=hQ hne;clear hs1 hs2 st1 hne IM HST VL;go_wp2;go_ret3
   exact⟨HST1.out,.inl ⟨.inl HNE.out,rfl,HE.out⟩⟩
 · have hs2:=OwnL.of2 hs1
   have c1:=hs2.facts;simp only [CellsAt,Nat.reduceAdd,and_true] at c1;have HST1:=hQ (HST.out.trans st1);by_cases h4:cs.length≤4096
   · have h5:¬4096<(cs.length:Int):=by omega
     have VC:=hQ (VL.out _ _ (hs2.pull1 (A1:=Pr.own h)));have H4:=hQ (And.intro h0 h4);clear hs1 hs2 st1 IM HST VL h0;go_wp2_with fail
     refine VC.out.mono ?_;rintro e w2 ⟨st2,(⟨hne,_⟩ | ⟨_,v,rfl,hs3⟩)⟩
     · exact absurd H4.out.1 hne
     · have hs4:=OwnL.of2 hs3
       have HE:=hQ ((hs4.to (M:= [VaultA v (loadV refs cs LE.2),RefA r (poolOf refs cs 0) (pgsOf cs.length LE.2) (quietT true),Pr.own h,F])).sat.perm (B:=(VaultA v (loadV refs cs LE.2)).star ((RefA r (poolOf refs cs 0) (pgsOf cs.length LE.2) (quietT true)).star ((Pr.own h).star F))) (by simp only [starL,Pr.star_emp]));have HST2:=hQ (HST1.out.trans st2);clear c1;have c1:=hs4.facts
       simp only [CellsAt,Nat.reduceAdd,and_true] at c1;clear hs3 hs4 st2 VC HST1;go_wp2;go_ret3
       exact⟨HST2.out,.inr ⟨H4.out.1,H4.out.2,v,r,rfl,HE.out⟩⟩
   · have h5:4096<(cs.length:Int):=by omega
     have HE:=hQ ((hs2.to (M:= [Pr.own h,F])).sat.perm (B:=(Pr.own h).star F) (by simp only [starL,Pr.star_emp]));have HN4:=hQ (show 4096<cs.length by omega);clear hs1 hs2 st1 IM HST VL h4 h0;go_wp2;go_ret3
     exact⟨HST1.out,.inl ⟨.inr HN4.out,rfl,HE.out⟩⟩
end Go.Proofs.YtiegeadmgpanoaaGreatDoor.X6
