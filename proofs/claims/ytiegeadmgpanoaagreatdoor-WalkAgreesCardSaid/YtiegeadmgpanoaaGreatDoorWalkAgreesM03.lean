/- The pool's Load; the conditions stand as hypotheses. -/
import Derived.Test.YtiegeadmgpanoaaGreatDoorWalkChecksM10
import Derived.Test.YtiegeadmgpanoaaGreatDoorWalkAgreesM02
import Derived.Test.YtiegeadmgpanoaaGreatDoorWalkChecksM13
import Derived.Test.YtiegeadmgpanoaaGreatDoorWalkChecksM14
import Derived.Test.YtiegeadmgpanoaaGreatDoorWalkChecksM15
import Derived.Test.YtiegeadmgpanoaaGreatDoorWalkChecksM05
import Derived.Test.YtiegeadmgpanoaaGreatDoorWalkAgreesM01
import Derived.SizedLaws
import Derived.Test.YtiegeadmgpanoaaGreatDoorWalkChecksM03
import Derived.Test.YtiegeadmgpanoaaGreatDoorWalkChecksM08
import Derived.Laws.CopyOwn
import Derived.Lib.SmallJoins
import Derived.BigQuiet
import Derived.Deep.QuietTactic
import Derived.Test.YtiegeadmgpanoaaGreatDoorWalkChecksM12
import Derived.Test.YtiegeadmgpanoaaGreatDoorWalkChecksM16
import Derived.Deep.CutRange
import Derived.Test.YtiegeadmgpanoaaGreatDoorWalkChecksM17
import Derived.Test.YtiegeadmgpanoaaGreatDoorWalkChecksM02
import Derived.Test.YtiegeadmgpanoaaGreatDoorWalkChecksM19
import Derived.Test.YtiegeadmgpanoaaGreatDoorWalkChecksM11
import Derived.Test.YtiegeadmgpanoaaGreatDoorWalkChecksM09
import Derived.Test.YtiegeadmgpanoaaGreatDoorWalkChecksM20
import Derived.Test.YtiegeadmgpanoaaGreatDoorWalkChecksM01
set_option maxRecDepth 100000
set_option maxHeartbeats 16000000









namespace Go.Cop
def kidItem(g:PageV)(x:ItemV):Bool:=(g.kind == 2) || ((g.kind == 1) && (x.child != 0))
def kidsK(g:PageV)(k:Nat):List Int:=((g.items.take k).filter (kidItem g)).map (·.child)
def kidsOf(g:PageV):List Int:=kidsK g g.items.length++(if(g.kind == 3) && (g.next != 0) then [g.next] else [])
theorem kidsK_yes {g:PageV}{k:Nat}(hk:k<g.items.length)(h:kidItem g g.items[k]=true):kidsK g (k+1)=kidsK g k++ [g.items[k].child]:=by
 unfold kidsK;rw [List.take_succ_eq_append_getElem hk,List.filter_append,List.map_append];simp [h]
theorem kidsK_no {g:PageV}{k:Nat}(hk:k<g.items.length)(h:kidItem g g.items[k]=false):kidsK g (k+1)=kidsK g k:=by
 unfold kidsK;rw [List.take_succ_eq_append_getElem hk,List.filter_append,List.map_append];simp [h]
theorem kidsK_len(g:PageV)(k:Nat):(kidsK g k).length≤k:=by
 unfold kidsK;rw [List.length_map];exact Nat.le_trans (List.length_filter_le _ _) (by rw [List.length_take];omega)
theorem kidsOf_len(g:PageV):(kidsOf g).length≤g.items.length+1:=by
 unfold kidsOf;rw [List.length_append];have:=kidsK_len g g.items.length
 split<;>simp<;>omega
end Go.Cop
namespace Go.Proofs.YtiegeadmgpanoaaGreatDoor.G8
open ChangeShapes WideShapes ChangeAt RowKit Sl Cop F3 P3 G2 J2 Q3 V3 X3 M5
theorem ints_snoc {v':Value}{l:List Int}{z:Int}{F:Pr}{w:World}(h:Sat ((Row 3 1 v' (l.length+1) (l.map (Value.int .i64)++ [.int .i64 z])).star F) w):Sat ((IntsRow v' (l++ [z])).star F) w:=by
 unfold IntsRow;rw [List.length_append,List.map_append];exact h
end Go.Proofs.YtiegeadmgpanoaaGreatDoor.G8
namespace Go.Proofs.YtiegeadmgpanoaaGreatDoor.J8
open ChangeShapes WideShapes ChangeAt RowKit Sl Cop F3 P3 G2 J2 Q3 V3 X3 M5 G8
theorem rkids_any(h:Hp)(v:Value)(g:PageV)(hv:PageIn h v g)(hn:g.items.length≤65536)(F:Pr)(w:World)(hF:Sat ((Pr.own h).star F) w):
 Calls Tryz.prog 88 #[v] w fun e w'=> ∃v',e= .returned v'∧Sat ((IntsRow v' (kidsOf g)).star ((Pr.own h).star F)) w'∧Stays w w':=by
 obtain⟨vi,vd,rfl,hi,hd⟩:=hv;obtain⟨ai,ci,rfl,_,rd⟩:=items_rd hi;obtain⟨ad,cd,rfl⟩:=bytes_shape hd;have h1:=hF.alloc (pageC g.kind g.level (.slice ai g.items.length ci) (.slice ad g.data.length cd) g.next);have h2:=h1.alloc (.cells #[] 3);rw [show (w.alloc (pageC g.kind g.level (.slice ai g.items.length ci) (.slice ad g.data.length cd) g.next)).heap.size=w.heap.size+1 by simp] at h2
 have h3:Sat ((IntsRow (.slice (some ⟨w.heap.size+1,0,none⟩) 0 0) []).star ((Pr.pts w.heap.size (pageC g.kind g.level (.slice ai g.items.length ci) (.slice ad g.data.length cd) g.next)).star ((Pr.own h).star F))) _:=
  Row.mk' (T:=3) (k:=1) (n:=0) (cap:=0) (xs:= []) (sp:= []) (by simp) (by simp) (Nat.le_refl _) (by simp) (by simpa using h2)
 have H1:=hQ h3;have RD:=hQ rd;have HST:=hQ (((Stays.refl w).alloc (pageC g.kind g.level (.slice ai g.items.length ci) (.slice ad g.data.length cd) g.next)).alloc (.cells #[] 3));have hl0:(g.items.length:Int)≤65536:=by omega
 obtain⟨i0,hi0,hz0,hz1,hz2⟩:=info_parts infoInt;clear hF h1 h2 h3 hi hd rd;go_enter Tryz.func88,Tryz.ntmps88
 go_wp2;go_loopw [3,4] (fun l i wr=> ∃k:Nat,k≤g.items.length∧i= .int .i64 k∧Stays w wr∧Sat ((IntsRow l (kidsK g k)).star ((Pr.pts w.heap.size (pageC g.kind g.level (.slice ai g.items.length ci) (.slice ad g.data.length cd) g.next)).star ((Pr.own h).star F))) wr) (fun _ i _=>g.items.length-(intOf i).toNat)
 case atStart=>exact⟨0,Nat.zero_le _,rfl,HST.out,H1.out⟩
 case round=>
  obtain⟨k,hk,rfl,hst,hs⟩:=hrel;clear H1 HST;obtain⟨al,cl,rfl,_,_⟩:=Row.read hs;obtain⟨p0,p1,p2,p3,p4,_,pz⟩:=pts5 hs.right;have hkl:=kidsK_len g k;rcases Nat.lt_or_ge k g.items.length with hlt | hge
  · obtain⟨b,off,ak,ck,av,cv,rfl,hbk,hbv,hc⟩:=RD.out k hlt
    obtain⟨c0,c1,c2,c3⟩:=hc wr hs.right.right.own;have z0:=World.block_lt_of_cell? _ _ c0;have HYES:=hQ (fun h=>kidsK_yes (g:=g) hlt h);have HNO:=hQ (fun h=>kidsK_no (g:=g) hlt h);have hkd:kidItem g g.items[k]=((g.kind == 2) || ((g.kind == 1) && (g.items[k].child != 0))):=rfl;have HSTK:=hQ hst;have HSK:=hQ hs;rw [hkd] at HYES HNO;clear hs hst hc hkd hbk hbv;generalize g.items[k]=y at*
    have A1:=hQ (show Sat ((Row 3 1 (.slice al (kidsK g k).length cl) (kidsK g k).length ((kidsK g k).map (Value.int .i64))).star ((Pr.pts w.heap.size (pageC g.kind g.level (.slice (some ⟨b,off,none⟩) g.items.length ci) (.slice ad g.data.length cd) g.next)).star ((Pr.own h).star F))) (wr.alloc (.cells [.int .i64 y.child].toArray 3)) from(HSK.out.alloc _).right)
    have hnew:=hQ (new_cells wr [.int .i64 y.child] 3 _ rfl);by_cases hk2:g.kind=2
    · have hb2:(g.kind == 2)=true:=beq_iff_eq.2 hk2
      rw [hb2] at HYES HNO;clear HNO hk2
      go_wp2_with (at_builtin;refine wpList_append_sl rfl _ _ _ rfl 3 i0 (.int .i64 0) 1 8 Tryz.underlying22 hi0 hz0 hz1 hz2 rfl _ _ _ rfl A1.out ⟨wr.heap.size,0,none⟩ 1 1 [.int .i64 y.child] rfl rfl hnew.out (by simp [Value.oneCell']) (by simp only [maxLen];omega) (by omega) ?_;intro v7 w4 hs4 hg4 _;obtain⟨a7',c7',e7',_,_⟩:=Row.read hs4;subst e7';have HS4:=hQ hs4;have HG4:=hQ ((HSTK.out.alloc _).of_grown hg4);clear hs4 hg4)
      go_roundw
      case rel=>exact⟨k+1,by omega,congrArg (Value.int .i64) (by omega),HG4.out,by rw [HYES.out rfl];exact ints_snoc HS4.out⟩
      case measure=>simp [intOf];omega
    · have hb2:(g.kind == 2)=false:=beq_eq_false_iff_ne.2 hk2
      rw [hb2] at HYES HNO;clear hk2;by_cases hk1:g.kind=1
      · have hb1:(g.kind == 1)=true:=beq_iff_eq.2 hk1
        rw [hb1] at HYES HNO;clear hk1;by_cases hch:y.child=0
        · have hb3:(y.child != 0)=false:=by rw [bne_eq_false_iff_eq];exact hch
          rw [hb3] at HNO;clear HYES hch A1;go_wp2;go_roundw
          case rel=>exact⟨k+1,by omega,congrArg (Value.int .i64) (by omega),HSTK.out,by rw [HNO.out rfl];exact HSK.out⟩
          case measure=>simp [intOf];omega
        · have hb3:(y.child != 0)=true:=by rw [bne_iff_ne];exact hch
          rw [hb3] at HYES;clear HNO hch
          go_wp2_with (at_builtin;refine wpList_append_sl rfl _ _ _ rfl 3 i0 (.int .i64 0) 1 8 Tryz.underlying22 hi0 hz0 hz1 hz2 rfl _ _ _ rfl A1.out ⟨wr.heap.size,0,none⟩ 1 1 [.int .i64 y.child] rfl rfl hnew.out (by simp [Value.oneCell']) (by simp only [maxLen];omega) (by omega) ?_;intro v7 w4 hs4 hg4 _;obtain⟨a7',c7',e7',_,_⟩:=Row.read hs4;subst e7';have HS4:=hQ hs4;have HG4:=hQ ((HSTK.out.alloc _).of_grown hg4);clear hs4 hg4)
          go_roundw
          case rel=>exact⟨k+1,by omega,congrArg (Value.int .i64) (by omega),HG4.out,by rw [HYES.out rfl];exact ints_snoc HS4.out⟩
          case measure=>simp [intOf];omega
      · have hb1:(g.kind == 1)=false:=beq_eq_false_iff_ne.2 hk1
        rw [hb1] at HYES HNO;clear hk1 HYES A1;go_wp2;go_roundw
        case rel=>exact⟨k+1,by omega,congrArg (Value.int .i64) (by omega),HSTK.out,by rw [HNO.out rfl];exact HSK.out⟩
        case measure=>simp [intOf];omega
  · have hkl2:k=g.items.length:=by omega
    subst hkl2;have hko:kidsOf g=kidsK g g.items.length++(if(g.kind == 3) && (g.next != 0) then [g.next] else []):=rfl;have HS:=hQ hs;have HKO:=hQ hko;clear hs hko;by_cases hk3:g.kind=3
    · have hb3:(g.kind == 3)=true:=beq_iff_eq.2 hk3
      rw [hb3] at HKO;by_cases hnx:g.next=0
      · have hb4:(g.next != 0)=false:=by rw [bne_eq_false_iff_eq];exact hnx
        rw [hb4] at HKO;clear hnx hk3;go_wp2;go_ret;refine⟨_,rfl,?_,hst⟩;rw [HKO.out,if_neg (by decide),List.append_nil];exact(HS.out.perm (Pr.left_comm _ _ _)).right
      · have hb4:(g.next != 0)=true:=by rw [bne_iff_ne];exact hnx
        rw [hb4] at HKO
        have A1:=hQ (show Sat ((Row 3 1 (.slice al (kidsK g g.items.length).length cl) (kidsK g g.items.length).length ((kidsK g g.items.length).map (Value.int .i64))).star ((Pr.pts w.heap.size (pageC g.kind g.level (.slice ai g.items.length ci) (.slice ad g.data.length cd) g.next)).star ((Pr.own h).star F))) (wr.alloc (.cells [.int .i64 g.next].toArray 3)) from(HS.out.alloc _).right)
        have hnew:=hQ (new_cells wr [.int .i64 g.next] 3 _ rfl);clear hnx hk3
        go_wp2_with (at_builtin;refine wpList_append_sl rfl _ _ _ rfl 3 i0 (.int .i64 0) 1 8 Tryz.underlying22 hi0 hz0 hz1 hz2 rfl _ _ _ rfl A1.out ⟨wr.heap.size,0,none⟩ 1 1 [.int .i64 g.next] rfl rfl hnew.out (by simp [Value.oneCell']) (by simp only [maxLen];omega) (by omega) ?_;intro v7 w4 hs4 hg4 _;obtain⟨a7',c7',e7',_,_⟩:=Row.read hs4;subst e7';have HS4:=hQ hs4;have HG4:=hQ ((hst.alloc (.cells [.int .i64 g.next].toArray 3)).of_grown hg4);clear hs4 hg4)
        go_ret;refine⟨_,rfl,?_,HG4.out⟩;rw [HKO.out,if_pos (by decide)];exact((ints_snoc HS4.out).perm (Pr.left_comm _ _ _)).right
    · have hb3:(g.kind == 3)=false:=beq_eq_false_iff_ne.2 hk3
      rw [hb3] at HKO;clear hk3;go_wp2;go_ret;refine⟨_,rfl,?_,hst⟩;rw [HKO.out,if_neg (by simp),List.append_nil];exact(HS.out.perm (Pr.left_comm _ _ _)).right
end Go.Proofs.YtiegeadmgpanoaaGreatDoor.J8








