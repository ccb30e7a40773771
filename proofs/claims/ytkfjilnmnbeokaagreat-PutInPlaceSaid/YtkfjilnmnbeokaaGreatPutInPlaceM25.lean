/- The program's Common and Between; the conditions stand as hypotheses. -/
import Derived.Test.YtkfjilnmnbeokaaGreatPutInPlaceM23
import Derived.Test.YtkfjilnmnbeokaaGreatPutInPlaceM22
import Derived.Test.YtkfjilnmnbeokaaGreatPutInPlaceM01
set_option maxRecDepth 100000
set_option maxHeartbeats 16000000
namespace Go.Proofs.YtkfjilnmnbeokaaGreat.P6
open ChangeShapes WideShapes ChangeAt RowKit Sl Cop D3 G2 J2 N2 P2 Z5 E6 L6 G6 V3 X3 Y3
theorem common_any(h:Hp)(va vb:Value)(A B:List Int)(hA:Bytes h va A)(hB:Bytes h vb B)(uA:U8 A)(uB:U8 B)(nA:A.length≤140737488355328)(nB:B.length≤140737488355328)(w:World)(hle:h.le w):
 Calls Tryz.prog 184 #[va,vb] w fun e w'=>e= .returned (.int .i64 (commonI A B))∧Only w w':=by
 obtain⟨a,c,rfl,ra⟩:=bytes_rd hA;obtain⟨b,d,rfl,rb⟩:=bytes_rd hB;have CL:=hQ (common_le A B);have RA:=hQ ra;have RB:=hQ rb;have HLE:=hQ hle;have hA63:(A.length:Int)≤140737488355328:=by omega
 have hB63:(B.length:Int)≤140737488355328:=by omega
 have HU:=hQ (And.intro uA uB);clear ra rb hle hA hB uA uB;go_enter Tryz.func184,Tryz.ntmps184
 go_wp2
 all_goals
  go_loopw [13] (fun i wr=> ∃k:Nat,k≤A.length∧k≤B.length∧i= .int .i64 k∧Only w wr∧Hid (k≤commonI A B)) (fun i _=>A.length-(intOf i).toNat)
  case atStart=>exact⟨0,Nat.zero_le _,Nat.zero_le _,rfl,Only.refl w,hQ (Nat.zero_le _)⟩
  case round=>
   obtain⟨k,hk,hk2,rfl,ho,hc⟩:=hrel;by_cases hlt:k<A.length∧k<B.length
   · obtain⟨hlt1,hlt2⟩:=hlt
     obtain⟨b,off,rfl,c1⟩:=RA.out k hlt1;obtain⟨b',off',rfl,c2⟩:=RB.out k hlt2;have q1:=c1 wr (fun k o e=>(ho.heap k (Array.getElem?_eq_some_iff.1 (HLE.out k o e)).1).trans (HLE.out k o e));have q2:=c2 wr (fun k o e=>(ho.heap k (Array.getElem?_eq_some_iff.1 (HLE.out k o e)).1).trans (HLE.out k o e));have HO:=hQ ho;have HC:=hQ (common_step k A B hc.out hlt1 hlt2);clear c1 c2 ho hc
     generalize A.getD k 0=x at*;generalize B.getD k 0=y at*;by_cases hxy:x=y
     · subst hxy
       go_wp2;go_region
       go_wp2;go_roundw
       case rel=>exact⟨k+1,by omega,by omega,congrArg (Value.int .i64) (by omega),HO.out.drew,hQ (HC.out.1 trivial)⟩
       case measure=>simp [intOf];omega
     · go_wp2
       go_region
       go_wp2;go_ret;rw [HC.out.2 hxy];exact⟨rfl,HO.out.drew⟩
   · have HC:=hc
     clear hc
     first
      | (have hkE:k=A.length:=by omega
         subst hkE
         go_wp2
         go_ret
         refine⟨?_,ho⟩
         rw [show commonI A B=A.length by have:=HC.out;have:=CL.out.1;omega]
         rfl)
      | (have hkE:k=B.length:=by omega
         subst hkE
         go_wp2
         go_ret
         refine⟨?_,ho⟩
         rw [show commonI A B=B.length by have:=HC.out;have:=CL.out.2;omega]
         rfl)
def BtwPost(h:Hp)(F:Pr)(w:World)(A B:List Int)(e:Ending)(w':World):Prop:=
 (betB A B=true→∃o,e= .returned (.tuple #[o,.bool true])∧Stays w w'∧Sat ((BytesRow o (btwK A B)).star ((Pr.own h).star F)) w')∧(betB A B=false→e= .returned (.tuple #[.slice none 0 0,.bool false])∧Only w w')
theorem btw_no {h:Hp}{F:Pr}{w w':World}{A B:List Int}(hb:betB A B=false)(ho:Only w w'):BtwPost h F w A B (.returned (.tuple #[.slice none 0 0,.bool false])) w':=⟨fun e=>by simp [hb] at e,fun _=>⟨rfl,ho⟩⟩
theorem btw_yes {h:Hp}{F:Pr}{w w':World}{A B:List Int}(hb:betB A B=true)(o:Value)(hs:Stays w w')(h2:Sat ((BytesRow o (btwK A B)).star ((Pr.own h).star F)) w'):BtwPost h F w A B (.returned (.tuple #[o,.bool true])) w':=⟨fun _=>⟨o,rfl,hs,h2⟩,fun e=>by simp [hb] at e⟩
theorem between_any(h:Hp)(va vb:Value)(A B:List Int)(hA:Bytes h va A)(hB:Bytes h vb B)(uA:U8 A)(uB:U8 B)(nA:A.length≤140737488355000)(nB:B.length≤140737488355000)(F:Pr)(w:World)(hF:Sat ((Pr.own h).star F) w):
 Calls Tryz.prog 180 #[va,vb] w fun e w'=>BtwPost h F w A B e w':=by
 have hle:=hF.own;have CM:=hQ (bcompare_only h h va vb A B hA hB uA uB w hle hle);by_cases hc:cmpI A B<0
 case neg=>
  have hb:betB A B=false:=by simp [betB,hc]
  have hc2:(0:Int)≤cmpI A B:=by omega
  obtain⟨a,c,rfl,_⟩:=bytes_rd hA;obtain⟨b,d,rfl,_⟩:=bytes_rd hB;clear hF hA hB uA uB hle;generalize hx:cmpI A B=x at*;go_enter Tryz.func180,Tryz.ntmps180
  go_wp2_with fail
  refine CM.out.mono ?_;rintro e w1 ⟨rfl,ho⟩;go_wp2;go_ret2;exact btw_no hb ho
 have hc3:¬(0:Int)≤cmpI A B:=by omega
 obtain⟨hl,hbt,hl2⟩:=btw_common A B hc;have CO:=hQ (fun wx (hx:h.le wx)=>common_any h va vb A B hA hB uA uB (by omega) (by omega) wx hx);obtain⟨a,c,rfl,ra⟩:=bytes_rd hA;obtain⟨b,d,rfl,_⟩:=bytes_rd hB
 have hbd:(B.length:Int)≤(d:Int):=by
  obtain⟨_,_,_,e,h1,_⟩:=id hB;cases e;omega
 by_cases h24:commonI A B<24
 case neg=>
  have hb:betB A B=false:=by simp [betB,h24]
  have h24':(24:Int)≤(commonI A B:Int):=by omega
  have HLE:=hQ hle;clear hF hA hB uA uB hle ra hbt hl2;generalize hx:cmpI A B=x at*;generalize hn:commonI A B=n at*;go_enter Tryz.func180,Tryz.ntmps180
  go_wp2_with fail
  refine CM.out.mono ?_;rintro e w1 ⟨rfl,ho⟩;have C2:=hQ (CO.out w1 (HLE.out.only ho));clear CO;go_wp2_with fail
  refine C2.out.mono ?_;rintro e w2 ⟨rfl,ho2⟩;go_wp2;go_ret2;exact btw_no hb (ho.trans ho2)
 have hb:betB A B=true:=by simp [betB,h24,hc]
 have h24':(commonI A B:Int)<24:=by omega
 have FR:=hQ (fun(wx:World) hG=>fresh_room h _ (B.take (commonI A B)) (bytes_take hB _ (by omega)) (by rw [List.length_take];omega) F wx hG);have HLE:=hQ hle;have HF:=hQ (OwnL.in1 hF);have HBT:=hQ hbt;have RA:=hQ ra;have hX:∀z∈A,0≤z∧z≤255:=uA;have hY:∀z∈B,0≤z∧z≤255:=uB;have hn:(commonI A B)≤A.length:=(common_le A B).1
 have hlt0:(B.take (commonI A B)).length=commonI A B:=by rw [List.length_take];omega
 have HLT:=hQ hlt0;have hlI:(commonI A B:Int)≤(B.length:Int):=by omega
 obtain⟨i0,hi0,hz0,hz1,hz2⟩:=info_parts infoByte;by_cases he:commonI A B=A.length
 · have HQ:=hQ (hbt.trans (by rw [if_pos he]))
   clear hF hA hB uA uB hle ra hbt hl2 hX hY HBT hlt0 hn hl;generalize hx:cmpI A B=x at*;generalize hn2:commonI A B=n at*;clear hn2 hx h24 hc;subst he;go_enter Tryz.func180,Tryz.ntmps180
   go_wp2_with fail
   refine CM.out.mono ?_;rintro e w1 ⟨rfl,ho⟩;have C2:=hQ (CO.out w1 (HLE.out.only ho));clear CO;go_wp2_with fail
   refine C2.out.mono ?_;rintro e w2 ⟨rfl,ho2⟩;have hs1:=HF.out.ext (ho.trans ho2).heap;have F3:=hQ (FR.out w2 (hs1.sat.perm (by simp only [starL,Pr.star_emp])));have HST:=hQ (ho.trans ho2).st;clear ho ho2 C2 hs1;go_wp2_with fail
   refine F3.out.mono ?_;rintro e w3 ⟨o,rfl,st3,hs3⟩;obtain⟨ao,co,rfl⟩:=Row.shape hs3;unfold BytesRow at hs3;rw [HLT.out] at hs3;have H1:=hQ (hs3.alloc (.cells #[.int .u8 (0)] 5)).right;have HC:=hQ (new_cells w3 [.int .u8 (0)] 5 _ rfl);have HST2:=hQ ((HST.out.trans st3).alloc (.cells #[.int .u8 (0)] 5));rw [HLT.out];clear hs3 st3 F3 HF FR CM
   go_wp2_with (at_builtin;refine wpList_append_sl rfl _ _ _ rfl 5 i0 (.int .u8 0) 1 1 Tryz.underlying39 hi0 hz0 hz1 hz2 rfl _ _ _ rfl H1.out ⟨w3.heap.size,0,none⟩ 1 1 [.int .u8 (0)] rfl rfl HC.out (by simp [Value.oneCell']) (by simp only [maxLen];omega) (by omega) ?_;intro v7 w4 hs4 hg4 _;obtain⟨a7',c7',e7',_,_⟩:=Row.read hs4;subst e7';have HS4:=hQ hs4;have HG4:=hQ (HST2.out.of_grown hg4);clear hs4 hg4)
   go_ret2;refine btw_yes hb _ HG4.out ?_;rw [HQ.out];unfold BytesRow;rw [List.length_append,List.map_append,HLT.out];exact HS4.out
 · have HQ:=hQ (hbt.trans (by rw [if_neg he]))
   have hlo:=hX (A.getD (commonI A B) 0) (by rw [List.getD_eq_getElem?_getD,List.getElem?_eq_getElem (by omega)];exact List.getElem_mem _);have hup:=hY (B.getD (commonI A B) 0) (by rw [List.getD_eq_getElem?_getD,List.getElem?_eq_getElem (by omega)];exact List.getElem_mem _);have hlt:=hl2 he;have hxl:A.getD (commonI A B) 0+1≤255:=by omega
   have hx0:0≤A.getD (commonI A B) 0:=by omega
   have hnA:commonI A B<A.length:=by omega
   have hne:¬(commonI A B:Int)=(A.length:Int):=by omega
   have QA:=hQ (ra (commonI A B) hnA);clear hF hA hB uA uB hle ra hbt hl2 hX hY HBT hlt0 hn hl hlo hup hlt he RA;generalize A.getD (commonI A B) 0=z at*;generalize hx:cmpI A B=x at*;generalize hn2:commonI A B=n at*;clear hn2 hx h24 hc;obtain⟨ba,fa,rfl,q1⟩:=QA.out;have Q1:=hQ q1;clear q1 QA;go_enter Tryz.func180,Tryz.ntmps180
   go_wp2_with fail
   refine CM.out.mono ?_;rintro e w1 ⟨rfl,ho⟩;have C2:=hQ (CO.out w1 (HLE.out.only ho));clear CO;go_wp2_with fail
   refine C2.out.mono ?_;rintro e w2 ⟨rfl,ho2⟩;have hs1:=HF.out.ext (ho.trans ho2).heap;have F3:=hQ (FR.out w2 (hs1.sat.perm (by simp only [starL,Pr.star_emp])));have HST:=hQ (ho.trans ho2).st;clear ho ho2 C2 hs1;go_wp2_with fail
   refine F3.out.mono ?_;rintro e w3 ⟨o,rfl,st3,hs3⟩;obtain⟨ao,co,rfl⟩:=Row.shape hs3;unfold BytesRow at hs3;rw [HLT.out] at hs3;have H1:=hQ (hs3.alloc (.cells #[.int .u8 (z+1)] 5)).right;have HC:=hQ (new_cells w3 [.int .u8 (z+1)] 5 _ rfl);have HST2:=hQ ((HST.out.trans st3).alloc (.cells #[.int .u8 (z+1)] 5));rw [HLT.out];have qa:=Q1.out w3 hs3.right.own;clear hs3 st3 F3 HF FR CM
   go_wp2_with (at_builtin;refine wpList_append_sl rfl _ _ _ rfl 5 i0 (.int .u8 0) 1 1 Tryz.underlying39 hi0 hz0 hz1 hz2 rfl _ _ _ rfl H1.out ⟨w3.heap.size,0,none⟩ 1 1 [.int .u8 (z+1)] rfl rfl HC.out (by simp [Value.oneCell']) (by simp only [maxLen];omega) (by omega) ?_;intro v7 w4 hs4 hg4 _;obtain⟨a7',c7',e7',_,_⟩:=Row.read hs4;subst e7';have HS4:=hQ hs4;have HG4:=hQ (HST2.out.of_grown hg4);clear hs4 hg4)
   go_ret2;refine btw_yes hb _ HG4.out ?_;rw [HQ.out];unfold BytesRow;rw [List.length_append,List.map_append,HLT.out];exact HS4.out
end Go.Proofs.YtkfjilnmnbeokaaGreat.P6
