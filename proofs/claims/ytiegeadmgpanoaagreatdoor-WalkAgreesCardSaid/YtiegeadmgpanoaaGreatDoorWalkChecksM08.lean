/- The pool: Settle, and a new one; the conditions stand as hypotheses. -/
import Derived.Test.YtiegeadmgpanoaaGreatDoorWalkChecksM06
import Derived.Test.YtiegeadmgpanoaaGreatDoorWalkChecksM05
import Derived.Deep.OwnRows
import Derived.Test.YtiegeadmgpanoaaGreatDoorWalkChecksM03
import Derived.Laws.Rows
import Derived.Laws.ResultCell
import Derived.Test.YtiegeadmgpanoaaGreatDoorWalkChecksM01
set_option maxRecDepth 100000
set_option maxHeartbeats 16000000
namespace Go.Cop
def lastsOf(l:List Int):List Bool:=l.map fun c=>decide (0<c)
def inState(l:List Int)(k:Int):Int:=((l.filter fun c=>stateOf c (decide (0<c)) == k).length:Nat)
theorem inState_snoc(l:List Int)(c k:Int):inState (l++ [c]) k=inState l k+(if stateOf c (decide (0<c))=k then 1 else 0):=by
 unfold inState;rw [List.filter_append,List.length_append];by_cases h:stateOf c (decide (0<c))=k
 · simp [h]
 · simp [h]
theorem inState_bd(l:List Int)(k:Int):0≤inState l k∧inState l k≤l.length:=by
 unfold inState;have:=List.length_filter_le (fun c=>stateOf c (decide (0<c)) == k) l
 omega
theorem many_settled(l:List Int)(k:Int)(s:PoolS)(h1:s.counts=l)(h2:s.last=lastsOf l):((s.many k:Nat):Int)=inState l k:=by
 unfold PoolS.many inState lastsOf at*;rw [h1,h2]
 have:∀l:List Int,(List.filter (fun x:Int × Bool=>stateOf x.1 x.2 == k) (l.zip (l.map fun c=>decide (0<c)))).length=(l.filter fun c=>stateOf c (decide (0<c)) == k).length:=by
  intro l;induction l with
  | nil=>rfl
  | cons a l ih=>simp only [List.map_cons,List.zip_cons_cons,List.filter_cons];split<;>simp_all
 rw [this]
theorem inState_none(l:List Int)(k:Int)(h1:k≠1)(h4:k≠4):inState l k=0:=by
 unfold inState;rw [List.filter_eq_nil_iff.2]
 · rfl
 · intro c _
   unfold stateOf;by_cases h:0<c<;>simp [h]<;>omega
theorem stateOf_pos {x:Int}(hx:0<x):stateOf x (decide (0<x))=4:=by simp [stateOf,hx]
theorem stateOf_zero:stateOf 0 (decide ((0:Int)<0))=1:=by decide
def PoolS.settled(s:PoolS):PoolS:= { s with last:=lastsOf s.counts,acts:= [],floor:=s.floor+s.acts.length }
end Go.Cop
namespace Go.Proofs.YtiegeadmgpanoaaGreatDoor.L3
open ChangeShapes WideShapes ChangeAt RowKit Sl Cop D2 F3 G3 J3 K3 E2 E3
theorem mark_low(p:Nat)(fl:Int)(al:Nat)(a:Option Addr)(c:Nat)(w:World)(h10:w.cell? ⟨p,10,none⟩=some (.int .i64 fl))(h9:w.cell? ⟨p,9,none⟩=some (.slice a al c))
 (b1:0≤fl) (b2:fl+al≤1099511627776):
 Calls Tryz.prog 100 #[.pointer (some ⟨p,0,none⟩)] w fun e w'=>e= .returned (.int .i64 (fl+al))∧Stays w w'∧w'.heap=w.heap:=by
 go_enter Tryz.func100,Tryz.ntmps100
 go_wp2;go_region
 go_wp2;go_ret;exact⟨rfl,⟨rfl,rfl,rfl,Nat.le_refl _⟩,rfl⟩
def setCells(refs:Int)(cv lv:Value)(fb:Nat)(l:List Int)(fl:Int):Array Value:=
 #[.int .i64 refs,cv,lv,.pointer (some ⟨fb,0,none⟩),.int .i64 0,.int .i64 (inState l 1),.int .i64 0,.int .i64 0,.int .i64 (inState l 4),.slice none 0 0,.int .i64 fl]
def Mid(p fb:Nat)(refs:Int)(cv lv:Value)(cs:List Int)(last:List Bool)(fl:Int)(i:Nat):Pr:=
 (Pr.pts p (.cells (setCells refs cv lv fb (cs.take i) fl) 159)).star ((IntsRow cv cs).star ((BoolsRow lv (lastsOf (cs.take i)++last.drop i)).star
   (SetOf fb fun n=>1≤n∧n≤i∧cs.getD (n.toNat-1) 0=0)))
theorem lasts_set(cs:List Int)(last:List Bool)(k:Nat)(hk:k<cs.length)(hl:last.length=cs.length)(b:Bool)(hb:b=decide (0<cs.getD k 0)):
 (lastsOf (cs.take k)++last.drop k).set k b=lastsOf (cs.take (k+1))++last.drop (k+1):=by
 have h1:(lastsOf (cs.take k)).length=k:=by simp [lastsOf];omega
 rw [List.set_append_right _ _ (by omega),h1,Nat.sub_self,List.drop_eq_getElem_cons (by omega:k<last.length),List.set_cons_zero,List.take_succ_eq_append_getElem hk];simp only [lastsOf,List.map_append,List.map_cons,List.map_nil,List.append_assoc,List.cons_append,List.nil_append];rw [hb,List.getD_eq_getElem?_getD,List.getElem?_eq_getElem hk];rfl
theorem lasts_len(cs:List Int)(last:List Bool)(k:Nat)(hk:k≤cs.length)(hl:last.length=cs.length):(lastsOf (cs.take k)++last.drop k).length=cs.length:=by
 simp [lastsOf];omega
theorem lasts_at(cs:List Int)(last:List Bool)(k:Nat)(hk:k<cs.length):(lastsOf (cs.take (k+1))++last.drop (k+1)).getD k false=decide (0<cs.getD k 0):=by
 rw [List.getD_eq_getElem?_getD,List.getElem?_append_left (by simp [lastsOf];omega)];simp [lastsOf,hk]
def Mid1(p fb:Nat)(refs:Int)(cv lv:Value)(cs:List Int)(last:List Bool)(fl:Int)(i:Nat):Pr:=
 (Pr.pts p (.cells (setCells refs cv lv fb (cs.take i) fl) 159)).star ((IntsRow cv cs).star ((BoolsRow lv (lastsOf (cs.take (i+1))++last.drop (i+1))).star
   (SetOf fb fun n=>1≤n∧n≤i∧cs.getD (n.toNat-1) 0=0)))
theorem mid_one {p fb bl cl:Nat}{refs:Int}{cv:Value}{cs:List Int}{last:List Bool}{fl:Int}{k:Nat}{F:Pr}{w:World}{b:Bool}(hk:k<cs.length)(hl:last.length=cs.length)(hb:b=decide (0<cs.getD k 0))
 (h:Sat ((Mid p fb refs cv (.slice (some ⟨bl,0,none⟩) cs.length cl) cs last fl k).star F) w):
 Sat ((Mid1 p fb refs cv (.slice (some ⟨bl,0,none⟩) cs.length cl) cs last fl k).star F) (w.setCell ⟨bl,k,none⟩ (.bool b)):=by
 have h1:Sat ((BoolsRow (.slice (some ⟨bl,0,none⟩) cs.length cl) (lastsOf (cs.take k)++last.drop k)).star ((Pr.pts p (.cells (setCells refs cv (.slice (some ⟨bl,0,none⟩) cs.length cl) fb (cs.take k) fl) 159)).star ((IntsRow cv cs).star
  ((SetOf fb fun n=>1≤n∧n≤k∧cs.getD (n.toNat-1) 0=0).star F)))) w:=h.perm (by unfold Mid;ac_rfl)
 have e1:=lasts_len cs last k (by omega) hl;have e2:=lasts_len cs last (k+1) (by omega) hl;unfold BoolsRow at h1;rw [e1] at h1;have h2:=Row.set (i:=k) h1 hk (.bool b);rw [← List.map_set,lasts_set cs last k hk hl b hb] at h2;refine h2.perm ?_;unfold Mid1
 rw [show BoolsRow (.slice (some ⟨bl,0,none⟩) cs.length cl) (lastsOf (cs.take (k+1))++last.drop (k+1))=Row 4 1 (.slice (some ⟨bl,0,none⟩) cs.length cl) cs.length ((lastsOf (cs.take (k+1))++last.drop (k+1)).map Value.bool) from by unfold BoolsRow;rw [e2]];ac_rfl
theorem mid1_rd {p fb:Nat}{refs:Int}{cv lv:Value}{cs:List Int}{last:List Bool}{fl:Int}{k:Nat}{F:Pr}{w:World}(hk:k<cs.length)(h2:cs.length≤65536)(hl:last.length=cs.length)
 (h:Sat ((Mid1 p fb refs cv lv cs last fl k).star F) w):PoolRd w p { refs:=refs,counts:=cs,last:=lastsOf (cs.take (k+1))++last.drop (k+1),acts:= [],floor:=fl }:=by
 have h':Sat ((Pr.pts p (.cells (setCells refs cv lv fb (cs.take k) fl) 159)).star ((IntsRow cv cs).star ((BoolsRow lv (lastsOf (cs.take (k+1))++last.drop (k+1))).star
  ((SetOf fb fun n=>1≤n∧n≤k∧cs.getD (n.toNat-1) 0=0).star F)))) w:=h.perm (by unfold Mid1;ac_rfl)
 refine pool_rd (s:= { refs:=refs,counts:=cs,last:=lastsOf (cs.take (k+1))++last.drop (k+1),acts:= [],floor:=fl }) (lasts_len cs last (k+1) (by omega) hl) (by dsimp only;omega) h2 (cs:=setCells refs cv lv fb (cs.take k) fl) rfl rfl rfl h'
theorem mid1_state {refs:Int}{cs:List Int}{last:List Bool}{fl:Int}{k:Nat}(hk:k<cs.length):
 ({ refs:=refs,counts:=cs,last:=lastsOf (cs.take (k+1))++last.drop (k+1),acts:= [],floor:=fl }:PoolS).state ((k:Int)+1)=stateOf (cs.getD k 0) (decide (0<cs.getD k 0)):=by
 have ht:({ refs:=refs,counts:=cs,last:=lastsOf (cs.take (k+1))++last.drop (k+1),acts:= [],floor:=fl }:PoolS).there ((k:Int)+1):=⟨by omega,by dsimp only;omega⟩;rw [state_there ht];unfold PoolS.count PoolS.lasts;rw [if_pos ht];dsimp only;rw [show ((k:Int)+1).toNat-1=k by omega,lasts_at cs last k hk]
theorem take_snoc(cs:List Int)(k:Nat)(hk:k<cs.length):cs.take (k+1)=cs.take k++ [cs.getD k 0]:=by
 rw [List.take_succ_eq_append_getElem hk,List.getD_eq_getElem?_getD,List.getElem?_eq_getElem hk];rfl
theorem mid_held {p fb:Nat}{refs:Int}{cv lv:Value}{cs:List Int}{last:List Bool}{fl:Int}{k:Nat}{F:Pr}{w:World}(hk:k<cs.length)(hx:0<cs.getD k 0)
 (h:Sat ((Mid1 p fb refs cv lv cs last fl k).star F) w):Sat ((Mid p fb refs cv lv cs last fl (k+1)).star F) (w.setCell ⟨p,8,none⟩ (.int .i64 (inState (cs.take k) 4+1))):=by
 have h1:Sat ((Pr.pts p (.cells (setCells refs cv lv fb (cs.take k) fl) 159)).star ((IntsRow cv cs).star ((BoolsRow lv (lastsOf (cs.take (k+1))++last.drop (k+1))).star
  ((SetOf fb fun n=>1≤n∧n≤k∧cs.getD (n.toNat-1) 0=0).star F)))) w:=h.perm (by unfold Mid1;ac_rfl)
 have h2:=h1.setCell (i:=8) (.int .i64 (inState (cs.take k) 4+1))
 have e1:(setCells refs cv lv fb (cs.take k) fl).setIfInBounds 8 (.int .i64 (inState (cs.take k) 4+1))=setCells refs cv lv fb (cs.take (k+1)) fl:=by
  have a1:inState (cs.take (k+1)) 1=inState (cs.take k) 1:=by rw [take_snoc cs k hk,inState_snoc,stateOf_pos hx];simp
  have a4:inState (cs.take (k+1)) 4=inState (cs.take k) 4+1:=by rw [take_snoc cs k hk,inState_snoc,stateOf_pos hx];simp
  unfold setCells;rw [a1,a4];rfl
 have e2:SetOf fb (fun n=>1≤n∧n≤((k+1:Nat):Int)∧cs.getD (n.toNat-1) 0=0)=SetOf fb (fun n=>1≤n∧n≤(k:Int)∧cs.getD (n.toNat-1) 0=0):=by
  refine setOf_congr fun n=>⟨fun⟨b1,b2,b3⟩=>⟨b1,?_,b3⟩,fun⟨b1,b2,b3⟩=>⟨b1,by omega,b3⟩⟩
  rcases Int.lt_or_le (k:Int) n with h3 | h3
  · have:n.toNat-1=k:=by omega
    rw [this] at b3;omega
  · exact h3
 rw [e1] at h2;refine h2.perm ?_;unfold Mid;rw [e2];ac_rfl
theorem mid_free {p fb:Nat}{refs:Int}{cv lv:Value}{cs:List Int}{last:List Bool}{fl:Int}{k:Nat}{F:Pr}{w:World}(hk:k<cs.length)(hx:cs.getD k 0=0)
 (h:Sat ((Mid1 p fb refs cv lv cs last fl k).star F) w):
 Sat ((SetOf fb fun n=>1≤n∧n≤(k:Int)∧cs.getD (n.toNat-1) 0=0).star ((Pr.pts p (.cells (setCells refs cv lv fb (cs.take (k+1)) fl) 159)).star ((IntsRow cv cs).star ((BoolsRow lv (lastsOf (cs.take (k+1))++last.drop (k+1))).star F))))
  (w.setCell ⟨p,5,none⟩ (.int .i64 (inState (cs.take k) 1+1))):=by
 have h1:Sat ((Pr.pts p (.cells (setCells refs cv lv fb (cs.take k) fl) 159)).star ((IntsRow cv cs).star ((BoolsRow lv (lastsOf (cs.take (k+1))++last.drop (k+1))).star
  ((SetOf fb fun n=>1≤n∧n≤k∧cs.getD (n.toNat-1) 0=0).star F)))) w:=h.perm (by unfold Mid1;ac_rfl)
 have h2:=h1.setCell (i:=5) (.int .i64 (inState (cs.take k) 1+1))
 have e1:(setCells refs cv lv fb (cs.take k) fl).setIfInBounds 5 (.int .i64 (inState (cs.take k) 1+1))=setCells refs cv lv fb (cs.take (k+1)) fl:=by
  have a1:inState (cs.take (k+1)) 1=inState (cs.take k) 1+1:=by rw [take_snoc cs k hk,inState_snoc,hx,stateOf_zero];simp
  have a4:inState (cs.take (k+1)) 4=inState (cs.take k) 4:=by rw [take_snoc cs k hk,inState_snoc,hx,stateOf_zero];simp
  unfold setCells;rw [a1,a4];rfl
 rw [e1] at h2;exact h2.perm (by ac_rfl)
theorem free_next {fb:Nat}{cs:List Int}{k:Nat}(hx:cs.getD k 0=0):SetOf fb (fun n=>n=(k:Int)+1∨1≤n∧n≤(k:Int)∧cs.getD (n.toNat-1) 0=0)=SetOf fb (fun n=>1≤n∧n≤((k+1:Nat):Int)∧cs.getD (n.toNat-1) 0=0):=by
 refine setOf_congr fun n=>⟨?_,fun⟨b1,b2,b3⟩=> ?_⟩
 · rintro(rfl | ⟨b1,b2,b3⟩)
   · refine⟨by omega,by omega,?_⟩
     rw [show ((k:Int)+1).toNat-1=k by omega];exact hx
   · exact⟨b1,by omega,b3⟩
 · rcases Int.lt_or_le (k:Int) n with h3 | h3
   · exact .inl (by omega)
   · exact .inr ⟨b1,h3,b3⟩
theorem settle_low(p:Nat)(refs:Int)(cv lv x3 x4 x5 x6 x7 x8:Value)(a9:Option Addr)(n9 c9:Nat)(fl:Int)(cs:List Int)(last:List Bool)(F:Pr)(w:World)
 (hF:Sat ((Pr.pts p (.cells #[.int .i64 refs,cv,lv,x3,x4,x5,x6,x7,x8,.slice a9 n9 c9,.int .i64 fl] 159)).star ((IntsRow cv cs).star ((BoolsRow lv last).star F))) w)
 (h1:1≤cs.length) (h2:cs.length≤65536) (h3:last.length=cs.length) (h4:∀c∈cs,0≤c∧c≤65536) (b1:0≤fl) (b2:fl+n9≤1099511627776):
 Calls Tryz.prog 68 #[.pointer (some ⟨p,0,none⟩)] w fun e w'=>
  e= .returned (.tuple #[])∧(∃fb,Sat ((Mid p fb refs cv lv cs last (fl+n9) cs.length).star F) w')∧Stays w w':=by
 have h10:w.cell? ⟨p,10,none⟩=some (.int .i64 fl):=by rw [cell_of_heap hF.pts_heap];rfl
 have h9:w.cell? ⟨p,9,none⟩=some (.slice a9 n9 c9):=by rw [cell_of_heap hF.pts_heap];rfl
 have C:=hQ (mark_low p fl n9 a9 c9 w h10 h9 b1 b2);have HF:=hQ hF;clear hF h10 h9;go_enter Tryz.func68,Tryz.ntmps68
 go_wp2_with fail
 refine C.out.mono ?_;rintro e w1 ⟨rfl,hst,hh⟩;have H1:=HF.out.ext (w':=w1) (fun _ _=>by rw [hh]);have z1:=fun i=>frozen_of_heap H1.pts_heap i
 have HS1:=hQ H1;clear H1 HF C;have z6:=z1 10;have z5:=z1 9;have q10:w1.cell? ⟨p,10,none⟩=some (.int .i64 fl):=by rw [cell_of_heap HS1.out.pts_heap];rfl
 have q9:w1.cell? ⟨p,9,none⟩=some (.slice a9 n9 c9):=by rw [cell_of_heap HS1.out.pts_heap];rfl
 go_wp2_with fail
 have h5:=(HS1.out.setCell (i:=10) (.int .i64 (fl+n9))).setCell (i:=9) (.slice none 0 0);refine(new_nil _ _ h5).mono ?_;rintro e w2 ⟨fb,rfl,h6,hst2⟩;have h7:Sat ((Pr.pts p (.cells #[.int .i64 refs,cv,lv,x3,x4,x5,x6,x7,x8,.slice none 0 0,.int .i64 (fl+n9)] 159)).star ((SetAt fb (.slice none 0 0) []).star ((IntsRow cv cs).star ((BoolsRow lv last).star F)))) w2:=h6.perm (Pr.left_comm _ _ _)
 have q3:w2.cell? ⟨p,3,none⟩=some x3:=by rw [cell_of_heap h7.pts_heap];rfl
 have q4:w2.cell? ⟨p,4,none⟩=some x4:=by rw [cell_of_heap h7.pts_heap];rfl
 have q5:w2.cell? ⟨p,5,none⟩=some x5:=by rw [cell_of_heap h7.pts_heap];rfl
 have q6:w2.cell? ⟨p,6,none⟩=some x6:=by rw [cell_of_heap h7.pts_heap];rfl
 have q7:w2.cell? ⟨p,7,none⟩=some x7:=by rw [cell_of_heap h7.pts_heap];rfl
 have q8:w2.cell? ⟨p,8,none⟩=some x8:=by rw [cell_of_heap h7.pts_heap];rfl
 have y3:=frozen_of_heap h7.pts_heap 3;have y4:=frozen_of_heap h7.pts_heap 4;have y5:=frozen_of_heap h7.pts_heap 5;have y6:=frozen_of_heap h7.pts_heap 6;have y7:=frozen_of_heap h7.pts_heap 7;have y8:=frozen_of_heap h7.pts_heap 8;obtain⟨bc,cc,ec,hc⟩:=ints_read h7.right.right (by omega);have q1:w2.cell? ⟨p,1,none⟩=some cv:=by rw [cell_of_heap h7.pts_heap];rfl
 subst ec;obtain⟨bl,cl,el,_⟩:=bools_read h7.right.right.right (by omega);rw [h3] at el;subst el;have H7:=hQ h7;clear h7 h6 h5 z6 z5 q10 q9;go_wp2;go_loopw [25] (fun i wr=> ∃k:Nat,k≤cs.length∧i= .int .i64 k∧Stays w wr∧Sat ((Mid p fb refs (.slice (some ⟨bc,0,none⟩) cs.length cc) (.slice (some ⟨bl,0,none⟩) cs.length cl) cs last (fl+n9) k).star F) wr) (fun i _=>cs.length-(intOf i).toNat)
 case atStart=>
  refine⟨0,Nat.zero_le _,rfl,?_,?_⟩
  · exact(((((((((hst.setCell _ _).setCell _ _).trans hst2).setCell _ _).setCell _ _).setCell _ _).setCell _ _).setCell _ _).setCell _ _)
  · have h8:=(((((H7.out.setCell (i:=3) (.pointer (some ⟨fb,0,none⟩))).setCell (i:=4) (.int .i64 0)).setCell (i:=5) (.int .i64 0)).setCell (i:=6) (.int .i64 0)).setCell (i:=7) (.int .i64 0)).setCell (i:=8) (.int .i64 0)
    have h9:=h8.perm (Pr.left_comm _ _ _);have h10:=setOf_iff.2 ⟨_,[],canon_nil,fun n=>(⟨fun hn=>absurd hn inRuns_nil,fun hn=>absurd hn.1 (by have:=hn.2.1;omega)⟩:InRuns [] n↔(1≤n∧n≤((0:Nat):Int)∧cs.getD (n.toNat-1) 0=0)),h9⟩;refine Sat.perm h10 (B:=(Mid p fb refs _ _ cs last (fl+n9) 0).star F) ?_;unfold Mid
    show (SetOf fb fun n=>1≤n∧n≤((0:Nat):Int)∧cs.getD (n.toNat-1) 0=0).star ((Pr.pts p (.cells (setCells refs (.slice (some ⟨bc,0,none⟩) cs.length cc) (.slice (some ⟨bl,0,none⟩) cs.length cl) fb (cs.take 0) (fl+n9)) 159)).star
     ((IntsRow (.slice (some ⟨bc,0,none⟩) cs.length cc) cs).star ((BoolsRow (.slice (some ⟨bl,0,none⟩) cs.length cl) last).star F)))=_
    rw [show lastsOf (cs.take 0)++last.drop 0=last from rfl];ac_rfl
 case round=>
  obtain⟨k,hk,rfl,hst3,hinv⟩:=hrel
  have hp:Sat ((Pr.pts p (.cells (setCells refs (.slice (some ⟨bc,0,none⟩) cs.length cc) (.slice (some ⟨bl,0,none⟩) cs.length cl) fb (cs.take k) (fl+n9)) 159)).star ((IntsRow (.slice (some ⟨bc,0,none⟩) cs.length cc) cs).star
   ((BoolsRow (.slice (some ⟨bl,0,none⟩) cs.length cl) (lastsOf (cs.take k)++last.drop k)).star ((SetOf fb fun n=>1≤n∧n≤(k:Int)∧cs.getD (n.toNat-1) 0=0).star F)))) wr:=hinv.perm (by unfold Mid;ac_rfl)
  rcases Nat.lt_or_ge k cs.length with hlt | hge
  · have r2:wr.cell? ⟨p,2,none⟩=some (.slice (some ⟨bl,0,none⟩) cs.length cl):=by rw [cell_of_heap hp.pts_heap];rfl
    obtain⟨bc',cc',ec',hc'⟩:=ints_read hp.right (by omega);have el:=lasts_len cs last k (by omega) h3;obtain⟨bl',cl',el',hl'⟩:=bools_read hp.right.right (by omega);simp only [Value.slice.injEq,Option.some.injEq,Addr.mk.injEq] at ec' el';obtain⟨⟨rfl, -⟩, -⟩:=ec';obtain⟨⟨rfl, -⟩, -⟩:=el';have rc:=(hc' k hlt).1;obtain⟨rl,rlf⟩:=hl' k (by omega)
    have hx0:0≤cs.getD k 0:=by
     rw [List.getD_eq_getElem?_getD,List.getElem?_eq_getElem hlt];exact(h4 _ (List.getElem_mem hlt)).1
    have HINV:=hQ hinv;have HC:=hQ (And.intro h4 hlt);have T:= @mid_one p fb bl cl refs (.slice (some ⟨bc,0,none⟩) cs.length cc) cs last (fl+n9) k F wr;have hbd:=inState_bd (cs.take k);have hlk:(cs.take k).length≤65536:=by simp;omega
    have hb1:0≤inState (cs.take k) 1∧inState (cs.take k) 1≤65536:=by have:=hbd 1;omega
    have hb4:0≤inState (cs.take k) 4∧inState (cs.take k) 4≤65536:=by have:=hbd 4;omega
    clear hlk;have S1:= @mid1_state refs cs last (fl+n9) k hlt;clear hbd hinv hp hc' hl' hc h4 el;rcases Int.lt_or_le 0 (cs.getD k 0) with hx | hx
    · have hinv1:=T hlt h3 (decide_eq_true hx).symm HINV.out
      have hrd:=mid1_rd hlt h2 h3 hinv1.drew
      have hp1:Sat ((Pr.pts p (.cells (setCells refs (.slice (some ⟨bc,0,none⟩) cs.length cc) (.slice (some ⟨bl,0,none⟩) cs.length cl) fb (cs.take k) (fl+n9)) 159)).star ((IntsRow (.slice (some ⟨bc,0,none⟩) cs.length cc) cs).star
       ((BoolsRow (.slice (some ⟨bl,0,none⟩) cs.length cl) (lastsOf (cs.take (k+1))++last.drop (k+1))).star ((SetOf fb fun n=>1≤n∧n≤(k:Int)∧cs.getD (n.toNat-1) 0=0).star F)))) _:=hinv1.perm (by unfold Mid1;ac_rfl)
      have t8:=cell_of_heap hp1.pts_heap 8;have z8:=frozen_of_heap hp1.pts_heap 8;rw [show (setCells refs (.slice (some ⟨bc,0,none⟩) cs.length cc) (.slice (some ⟨bl,0,none⟩) cs.length cl) fb (cs.take k) (fl+n9))[8]? =some (.int .i64 (inState (cs.take k) 4)) from rfl] at t8;rw [stateOf_pos hx] at S1;have HE:=hQ (mid_held hlt hx hinv1);have HRD:=hQ hrd;clear T hinv1 hp1 hrd
      generalize inState (cs.take k) 4=t4 at*;generalize hxe:cs.getD k 0=x at*;have HXE:=hQ hxe;clear hxe;go_wp2;refine wS 63 [0,1,2,3,5,6,10,11] [(4,[7,8,9,12],[0,2,5,6,10,11]),(13,[],[10,11])] ?_;iterate 8 (refine wpQ_step rfl rfl (fun K hK=> ?_);go_simp;refine hK _ ?_;clear hK K)
      refine wpQ_nil ?_;refine wpRest_act rfl ?_;go_wp2_with fail
      refine(state_any p ((k:Int)+1) _ _ HRD.out).mono ?_;rintro e w3 ⟨rfl,rfl⟩;rw [S1];go_wp2;refine onN_mk ?_;iterate 4 (refine wpQ_step rfl rfl (fun K hK=> ?_);go_simp;refine hK _ ?_;clear hK K)
      refine wpQ_nil ⟨?_,?_⟩
      · refine chk_cons ?_ (chk_cons ?_ (chk_cons ?_ (chk_cons ?_ (chk_cons ?_ (chk_cons ?_ chk_nil)))))<;>(refine yieldF_of rfl rfl rfl rfl ?_;go_simp;try omega)
      refine wpRest_act rfl ?_;go_wp2;refine onN_mk (wpQ_nil ⟨?_,wpRest_nil ?_⟩)
      · refine chk_cons ?_ (chk_cons ?_ chk_nil)<;>(refine yieldF_of rfl rfl rfl rfl ?_;go_simp;try omega)
      have hx2:(x == 0)=false:=by rw [beq_eq_false_iff_ne];omega
      go_wp2;go_roundw
      case rel=>exact⟨k+1,by omega,by go_num,((hst3.setCell _ _).drew).setCell _ _,HE.out.ext fun _ _=>rfl⟩
      case measure=>simp [intOf];omega
    · have hinv1:=T hlt h3 (by rw [decide_eq_false (by omega)]) HINV.out
      have hrd:=mid1_rd hlt h2 h3 hinv1.drew
      have hp1:Sat ((Pr.pts p (.cells (setCells refs (.slice (some ⟨bc,0,none⟩) cs.length cc) (.slice (some ⟨bl,0,none⟩) cs.length cl) fb (cs.take k) (fl+n9)) 159)).star ((IntsRow (.slice (some ⟨bc,0,none⟩) cs.length cc) cs).star
       ((BoolsRow (.slice (some ⟨bl,0,none⟩) cs.length cl) (lastsOf (cs.take (k+1))++last.drop (k+1))).star ((SetOf fb fun n=>1≤n∧n≤(k:Int)∧cs.getD (n.toNat-1) 0=0).star F)))) _:=hinv1.perm (by unfold Mid1;ac_rfl)
      have t5:=cell_of_heap hp1.pts_heap 5;have t3:=cell_of_heap hp1.pts_heap 3;rw [show (setCells refs (.slice (some ⟨bc,0,none⟩) cs.length cc) (.slice (some ⟨bl,0,none⟩) cs.length cl) fb (cs.take k) (fl+n9))[3]? =some (.pointer (some ⟨fb,0,none⟩)) from rfl] at t3;have z5:=frozen_of_heap hp1.pts_heap 5
      rw [show (setCells refs (.slice (some ⟨bc,0,none⟩) cs.length cc) (.slice (some ⟨bl,0,none⟩) cs.length cl) fb (cs.take k) (fl+n9))[5]? =some (.int .i64 (inState (cs.take k) 1)) from rfl] at t5;have hx0':cs.getD k 0=0:=by omega
      rw [hx0',stateOf_zero] at S1;have HE:=hQ (mid_free hlt hx0' hinv1);have HN:=hQ (@free_next fb cs k hx0');have hb1':=hb1;have HRD:=hQ hrd;clear T hinv1 hp1 hrd;generalize inState (cs.take k) 1=t1 at*;have HX0:=hQ hx0';rw [hx0'] at rc;clear hx0' hx hx0;go_wp2;refine wS 63 [0,1,2,3,5,6,10,11] [(4,[7,8,9,12],[0,2,5,6,10,11]),(13,[],[10,11])] ?_
      iterate 8 (refine wpQ_step rfl rfl (fun K hK=> ?_);go_simp;refine hK _ ?_;clear hK K)
      refine wpQ_nil ?_;refine wpRest_act rfl ?_;go_wp2_with fail
      refine(state_any p ((k:Int)+1) _ _ HRD.out).mono ?_;rintro e w3 ⟨rfl,rfl⟩;rw [S1];go_wp2;refine onN_mk ?_;iterate 4 (refine wpQ_step rfl rfl (fun K hK=> ?_);go_simp;refine hK _ ?_;clear hK K)
      refine wpQ_nil ⟨?_,?_⟩
      · refine chk_cons ?_ (chk_cons ?_ (chk_cons ?_ (chk_cons ?_ (chk_cons ?_ (chk_cons ?_ chk_nil)))))<;>(refine yieldF_of rfl rfl rfl rfl ?_;go_simp;try omega)
      refine wpRest_act rfl ?_;go_wp2;refine onN_mk (wpQ_nil ⟨?_,wpRest_nil ?_⟩)
      · refine chk_cons ?_ (chk_cons ?_ chk_nil)<;>(refine yieldF_of rfl rfl rfl rfl ?_;go_simp;try omega)
      go_wp2_with fail
      have h11:=(HE.out.drew);refine(set_add fb _ ((k:Int)+1) (by omega) (fun m hm=>by omega) _ _ h11).mono ?_;rintro e w4 ⟨m4,rfl,h12,hst4⟩;rw [HN.out] at h12;have HL:=hQ h12;clear h11 h12;go_wp2;go_roundw
      case rel=>exact⟨k+1,by omega,by go_num,((((hst3.setCell _ _).drew).setCell _ _)).trans hst4,HL.out.perm (by unfold Mid;ac_rfl)⟩
      case measure=>simp [intOf];omega
  · have hkl:k=cs.length:=by omega
    subst hkl;have HINV:=hQ hinv;clear hinv hp;go_wp2;first | refine bodyPost_ret (results_none rfl _ _ _) rfl ?_ | go_end0
    exact⟨rfl,⟨fb,HINV.out⟩,hst3⟩
end Go.Proofs.YtiegeadmgpanoaaGreatDoor.L3
namespace Go.Proofs.YtiegeadmgpanoaaGreatDoor.P3
open ChangeShapes WideShapes ChangeAt RowKit Sl Cop D2 F3 G3 J3 K3 L3 E2 E3 G2
abbrev poolOf(refs:Int)(cs:List Int)(fl:Int):PoolS:= { refs:=refs,counts:=cs,last:=lastsOf cs,acts:= [],floor:=fl }
theorem own_nil:Pr.own Hp.nil=Pr.emp:=rfl
theorem acts_nil {p:Nat}{F:Pr}{w:World}(h:Sat F w):Sat ((ActsA p (.slice none 0 0) []).star F) w:=by
 unfold ActsA;refine Sat.ex.2 ⟨([],Hp.nil),?_⟩;rw [Pr.star_assoc];refine Sat.pure.2 ⟨⟨rfl,fun i hi=>absurd hi (by simp)⟩,?_⟩;show Sat (((Row _ 1 (.slice none 0 0) 0 []).star (Pr.own Hp.nil)).star F) w
 rw [Row.nil,own_nil,Pr.star_emp,Pr.emp_star];exact h
theorem mid_end {p fb:Nat}{refs:Int}{cv lv:Value}{cs:List Int}{last:List Bool}{fl:Int}{F:Pr}{w:World}(hl:last.length=cs.length)(ok:PoolOk (poolOf refs cs fl))
 (h:Sat ((Mid p fb refs cv lv cs last fl cs.length).star F) w):Sat ((PoolA p (poolOf refs cs fl)).star F) w:=by
 refine poolA_iff.2 ⟨ok,cv,lv,fb,.slice none 0 0,?_⟩;have h1:=acts_nil (p:=p) h;refine h1.perm ?_;unfold PoolAt Mid
 have e1:setCells refs cv lv fb (cs.take cs.length) fl=poolCells (poolOf refs cs fl) cv lv fb (.slice none 0 0):=by
  have t:∀k,1≤k∧k≤4→(poolOf refs cs fl).tally k=inState cs k:=fun k hk=>by
   unfold PoolS.tally;rw [if_neg (by omega),many_settled cs k _ rfl rfl]
  unfold setCells poolCells;rw [t 1 (by omega),t 2 (by omega),t 3 (by omega),t 4 (by omega),inState_none cs 2 (by omega) (by omega),inState_none cs 3 (by omega) (by omega),List.take_length]
 have e2:lastsOf (cs.take cs.length)++last.drop cs.length=lastsOf cs:=by rw [List.take_length,List.drop_eq_nil_of_le (by omega),List.append_nil]
 have e3:(SetOf fb fun n=>1≤n∧n≤((cs.length:Nat):Int)∧cs.getD (n.toNat-1) 0=0)=SetOf fb fun n=>(poolOf refs cs fl).state n=1:=by
  refine setOf_congr fun n=>⟨fun⟨b1,b2,b3⟩=> ?_,fun hs=> ?_⟩
  · have ht:(poolOf refs cs fl).there n:=⟨b1,b2⟩
    rw [state_there ht];unfold PoolS.count PoolS.lasts;rw [if_pos ht]
    have:((poolOf refs cs fl).last).getD (n.toNat-1) false=decide (0<cs.getD (n.toNat-1) 0):=by
     show (lastsOf cs).getD _ _=_
     rw [List.getD_eq_getElem?_getD,List.getD_eq_getElem?_getD];simp [lastsOf,List.getElem?_eq_getElem (show n.toNat-1<cs.length by omega)]
    rw [this];show stateOf (cs.getD (n.toNat-1) 0) _=1
    rw [b3,stateOf_zero]
  · have ht:(poolOf refs cs fl).there n:=there_of_state (by omega)
    have h0:=count_of_free ok hs;unfold PoolS.count at h0;rw [if_pos ht] at h0;exact⟨ht.1,ht.2,h0⟩
 rw [e1,e2,e3];ac_rfl
theorem tally_A(p:Nat)(s:PoolS)(k:Int)(hk:k=1∨k=4)(F:Pr)(w:World)(hF:Sat ((PoolA p s).star F) w):
 Calls Tryz.prog 77 #[.pointer (some ⟨p,0,none⟩),.int .i64 k] w fun e w'=>e= .returned (.int .i64 (s.tally k))∧w=w':=by
 obtain⟨ok,cv,lv,fb,av,hA⟩:=poolA_iff.1 hF;unfold PoolAt at hA;rw [Pr.star_assoc] at hA;have q1:w.cell? ⟨p,5,none⟩=some (.int .i64 (s.tally 1)):=by rw [cell_of_heap hA.pts_heap];rfl
 have q4:w.cell? ⟨p,8,none⟩=some (.int .i64 (s.tally 4)):=by rw [cell_of_heap hA.pts_heap];rfl
 clear hF hA ok;rcases hk with rfl | rfl
 all_goals
  go_enter Tryz.func77,Tryz.ntmps77
  go_wp2;go_ret;exact⟨rfl,rfl⟩
theorem infoBool:(Tryz.prog.info? 4).map (fun i=>(i.zero,i.size,i.bytes))=some (some (.bool false),1,1):=by kernel_rfl
theorem made_rep(z:Value)(n:Nat):madeCells #[z] n=(List.replicate n z).toArray:=by
 refine Array.ext (by simp [size_madeCells]) fun i h1 h2=> ?_
 simp [madeCells,Nat.mod_one]
theorem row_made {F:Pr}{w:World}(T:Nat)(z:Value)(n:Nat)(hn:n≤maxLen)(h:Sat F w):
 Sat ((Row T 1 (.slice (some ⟨w.heap.size,0,none⟩) n n) n (List.replicate n z)).star F) (w.alloc (.cells (madeCells #[z] n) T)):=by
 have h1:=h.alloc (.cells (madeCells #[z] n) T);rw [made_rep] at h1 ⊢;refine Row.mk' (sp:= []) (by simp) (by simp) (Nat.le_refl _) hn ?_;rw [List.append_nil];exact h1
theorem over_any(refs:Int)(cv:Value)(cs:List Int)(F:Pr)(w:World)(hF:Sat ((IntsRow cv cs).star F) w)(ok:PoolOk (poolOf refs cs 0)):
 Calls Tryz.prog 121 #[.int .i64 refs,cv] w fun e w'=> ∃p,e= .returned (.pointer (some ⟨p,0,none⟩))∧Sat ((PoolA p (poolOf refs cs 0)).star F) w'∧Stays w w':=by
 have o1:1≤cs.length:=ok.n1;have o2:cs.length≤65536:=ok.n2;have hmk:=run_make_row' (P:=Tryz.prog) 93 4 (.bool false) 1 Tryz.underlying93 infoBool rfl .i64 .i64 cs.length (by omega) (by omega);obtain⟨bc,cc,ec,_⟩:=ints_read hF (by omega);subst ec;have h1:=row_made 4 (.bool false) cs.length (by simp only [maxLen];omega) hF
 have e1:Row 4 1 (.slice (some ⟨w.heap.size,0,none⟩) cs.length cs.length) cs.length (List.replicate cs.length (.bool false))=BoolsRow (.slice (some ⟨w.heap.size,0,none⟩) cs.length cs.length) (List.replicate cs.length false):=by
  unfold BoolsRow;rw [List.length_replicate,List.map_replicate]
 rw [e1] at h1;have h2:=h1.alloc (.cells #[.int .i64 refs,.slice (some ⟨bc,0,none⟩) cs.length cc,.slice (some ⟨w.heap.size,0,none⟩) cs.length cs.length,.pointer none,.int .i64 0,.int .i64 0,.int .i64 0,.int .i64 0,.int .i64 0,.slice none 0 0,.int .i64 0] 159);have es:(w.alloc (.cells (madeCells #[.bool false] cs.length) 4)).heap.size=w.heap.size+1:=by simp
 rw [es] at h2
 have h3:=h2.perm (B:=(Pr.pts (w.heap.size+1) (.cells #[.int .i64 refs,.slice (some ⟨bc,0,none⟩) cs.length cc,.slice (some ⟨w.heap.size,0,none⟩) cs.length cs.length,.pointer none,.int .i64 0,.int .i64 0,.int .i64 0,.int .i64 0,.int .i64 0,.slice none 0 0,.int .i64 0] 159)).star ((IntsRow (.slice (some ⟨bc,0,none⟩) cs.length cc) cs).star ((BoolsRow (.slice (some ⟨w.heap.size,0,none⟩) cs.length cs.length) (List.replicate cs.length false)).star F))) (by ac_rfl)
 have C:=settle_low (w.heap.size+1) refs _ _ _ _ _ _ _ _ none 0 0 0 cs (List.replicate cs.length false) F _ h3 o1 o2 (by simp) ok.cs (by omega) (by omega);have HC:=hQ C;have HOK:=hQ ok;clear C h1 h2 h3 hF e1 ok es;go_enter Tryz.func121,Tryz.ntmps121
 go_wp2_with fail
 refine HC.out.mono ?_;rintro e w1 ⟨rfl,⟨fb,h4⟩,hst⟩;have H4:=hQ (mid_end (p:=_) (by simp) HOK.out h4);clear h4;go_wp2;go_ret;exact⟨_,rfl,H4.out,(((Stays.refl w).alloc _).alloc _).trans hst⟩
end Go.Proofs.YtiegeadmgpanoaaGreatDoor.P3
namespace Go.Cop
structure ItemV where
 key:List Int
 value:List Int
 child:Int
 size:Int
structure PageV where
 kind:Int
 level:Int
 items:List ItemV
 data:List Int
 next:Int
abbrev blobV(d:List Int)(next:Int):PageV:=⟨3,0,[],d,next⟩
structure ActV where
 mark:Int
 was:List (Int × Option PageV)
structure VaultS where
 pool:PoolS
 on:Int→Option PageV
 acts:List ActV
 floor:Int
end Go.Cop
namespace Go.Proofs.YtiegeadmgpanoaaGreatDoor.Q3
open ChangeShapes WideShapes ChangeAt RowKit Sl Cop D2 F3 K3 P3 G2 J2
theorem infoPage:(Tryz.prog.info? 83).map (·.size)=some 5:=by kernel_rfl
theorem infoItem:(Tryz.prog.info? 89).map (fun i=>(i.zero,i.size,i.bytes))=some (some (.agg #[.slice none 0 0,.slice none 0 0,.int .i64 0,.int .i64 0]),4,64):=by kernel_rfl
theorem infoWas:(Tryz.prog.info? 194).map (fun i=>(i.zero,i.size,i.bytes))=some (some (.agg #[.int .i64 0,.int .i64 0,.int .i64 0,.slice none 0 0,.slice none 0 0,.int .i64 0,.bool false]),7,88):=by kernel_rfl
def ItemsIn(h:Hp)(vi:Value)(l:List ItemV):Prop:=
 ∃xs:List (Value × Value),xs.length=l.length∧RowIn h 4 vi l.length ((xs.zip l).flatMap fun x=> [x.1.1,x.1.2,.int .i64 x.2.child,.int .i64 x.2.size])∧
  ∀i (hx:i<xs.length) (hl:i<l.length),Bytes h xs[i].1 l[i].key∧Bytes h xs[i].2 l[i].value
def PageIn(h:Hp)(v:Value)(g:PageV):Prop:= ∃vi vd,v=pageV g.kind g.level vi vd g.next∧ItemsIn h vi g.items∧Bytes h vd g.data
theorem ItemsIn.sub {a b:Hp}(hs:a.sub b){v:Value}{l:List ItemV}(h:ItemsIn a v l):ItemsIn b v l:=by
 obtain⟨xs,h1,h2,h3⟩:=h;exact⟨xs,h1,h2.sub hs,fun i hx hl=>⟨(h3 i hx hl).1.sub hs,(h3 i hx hl).2.sub hs⟩⟩
theorem PageIn.sub {a b:Hp}(hs:a.sub b){v:Value}{g:PageV}(h:PageIn a v g):PageIn b v g:=by
 obtain⟨vi,vd,h1,h2,h3⟩:=h;exact⟨vi,vd,h1,h2.sub hs,h3.sub hs⟩
theorem items_none {h:Hp}{v:Value}(hi:ItemsIn h v []):∃a c,v= .slice a 0 c∧c≤maxLen:=by
 obtain⟨xs,h1,h2,h3⟩:=hi;obtain⟨_,a,c,e,_,e2,_⟩:=h2;exact⟨a,c,e,e2⟩
theorem Row.bd {T k:Nat}{a:Option Addr}{m c n:Nat}{xs:List Value}{F:Pr}{w:World}(h:Sat ((Row T k (.slice a m c) n xs).star F) w):c≤maxLen:=by
 obtain⟨_,(⟨e,_,_⟩ | ⟨b,cap,sp,e,_,_,h3,_⟩)⟩:=Row.open' h
 · cases e;exact Nat.zero_le _
 · cases e;exact h3
theorem sat_emp(w:World):Sat Pr.emp w:=⟨Hp.nil,rfl,fun k o e=>by cases e⟩
theorem only_grown {a w w':World}{row:Option Nat}(h:Only a w)(hg:w.grownBy w' row)(hr:∀b,row=some b→a.heap.size≤b):Only a w':=
 ⟨h.st.of_grown hg,fun k hk=>(hg.block k (Nat.lt_of_lt_of_le hk h.st.size) (fun e=>by have:=hr k e.symm;omega)).trans (h.heap k hk)⟩
theorem items_mk {h:Hp}{a:Option Addr}{c:Nat}(hc:c≤maxLen):ItemsIn h (.slice a 0 c) []:=
 ⟨[],rfl,⟨by simp,a,c,rfl,Nat.zero_le _,hc,fun h=>absurd h (by simp)⟩,fun i hx=>absurd hx (by simp)⟩
theorem clone_items0(a:Option Addr)(c:Nat)(hc:c≤maxLen)(w:World):
 Calls Tryz.prog 115 #[.slice a 0 c] w fun e w'=> ∃a' c',e= .returned (.slice a' 0 c')∧c'≤maxLen∧Only w w':=by
 have he:∀wx:World,(binOp .eql 81 (.slice a 0 c) (.slice none 0 0)).run Tryz.prog wx= .ok (.bool a.isNone) wx:=fun wx=>Lib.run_eql_slice_nil wx _ _ a _ c 0 0 Tryz.underlying81
 cases a with
 | none=>
   go_enter Tryz.func115,Tryz.ntmps115
   go_wp2;go_ret;exact⟨_,_,rfl,Nat.zero_le _,Only.refl w⟩
 | some ad=>
   have hnew:Sat ((Row 89 4 (.slice (some ⟨w.heap.size,0,none⟩) 0 0) 0 []).star Pr.emp) (w.alloc (.cells #[] 89)):=
    Row.mk' (xs:= []) (sp:= []) (by simp) (by simp) (Nat.le_refl _) (by simp) (by simpa using (sat_emp w).alloc (.cells #[] 89))
   have hx:RowIn Hp.nil 4 (.slice (some ad) 0 c) 0 []:=⟨by simp,some ad,c,rfl,Nat.zero_le _,hc,fun h=>absurd h (by simp)⟩;have HF:=hQ hnew;have HX:=hQ hx;clear hx hnew;go_enter Tryz.func115,Tryz.ntmps115
   obtain⟨i0,hi,hz0,hz1,hz2⟩:=info_parts infoItem;go_wp2_with (at_builtin;refine wpList_append_row rfl _ _ _ rfl 89 i0 (.agg #[.slice none 0 0,.slice none 0 0,.int .i64 0,.int .i64 0]) 4 64 Tryz.underlying81 hi hz0 hz1 hz2 rfl _ _ _ rfl HF.out Hp.nil (fun k o e=>by cases e) _ _ _ rfl HX.out (by simp) (by simp) (by simp) ?_;intro v' w1 hsat hgr _;have HSAT:=hQ hsat;clear hsat)
   go_ret;have h1:=HSAT.out;obtain⟨a',c',e',_,_⟩:=Row.read h1;subst e';exact⟨a',c',rfl,Row.bd h1,only_grown ((Only.refl w).alloc _) hgr (fun b e=>by cases e;exact Nat.le_refl _)⟩
theorem toArena {A F:Pr}{w:World}(h:Sat (A.star F) w){Q:Hp→Prop}(hq:∀x,A x→Q x):∃h',Q h'∧Sat ((Pr.own h').star F) w:=by
 obtain⟨x,⟨a,f,ha,hf,hd,rfl⟩,hw⟩:=h;exact⟨a,hq a ha,_,⟨a,f,rfl,hf,hd,rfl⟩,hw⟩
theorem copied_blob(h:Hp)(v:Value)(d:List Int)(next:Int)(hd:d.length≤65536)(hv:PageIn h v (blobV d next))(F:Pr)(w:World)(hF:Sat F w)(hh:h.le w):
 Calls Tryz.prog 73 #[v] w fun e w'=> ∃v',e= .returned v'∧(∃h',PageIn h' v' (blobV d next)∧Sat ((Pr.own h').star F) w')∧Stays w w':=by
 obtain⟨vi,vd,rfl,h1,h2⟩:=hv;obtain⟨ai,ci,rfl,hci⟩:=items_none h1;obtain⟨_,ad,cd,hvd,_,_,_⟩:=id h2;subst hvd;dsimp only;have es:(w.alloc (.cells #[.int .i64 3,.int .i64 0,.slice ai 0 ci,.slice ad d.length cd,.int .i64 next] 83)).heap.size=w.heap.size+1:=by simp
 have hb:=hF.alloc (.cells #[.int .i64 3,.int .i64 0,.slice ai 0 ci,.slice ad d.length cd,.int .i64 next] 83);have hb2:=hb.alloc (.cells #[.int .i64 0,.int .i64 0,.slice none 0 0,.slice none 0 0,.int .i64 0] 83);rw [es] at hb2
 have hle:h.le ((w.alloc (.cells #[.int .i64 3,.int .i64 0,.slice ai 0 ci,.slice ad d.length cd,.int .i64 next] 83)).alloc (.cells #[.int .i64 0,.int .i64 0,.slice none 0 0,.slice none 0 0,.int .i64 0] 83)):=
  fun k o e=>((((Only.refl w).alloc _).alloc _).heap k (Array.getElem?_eq_some_iff.1 (hh k o e)).1).trans (hh k o e)
 have HB:=hQ hb2;have HL:=hQ hle;have H2:=hQ h2;clear hb hb2 hle h2 h1 hF hh es;go_enter Tryz.func73,Tryz.ntmps73
 go_wp2;refine wS 39 [0,1,3,4] [(2,[6],[0,3,4]),(5,[],[0,3,6]),(7,[8],[]),(9,[],[])] ?_;iterate 4 (refine wpQ_step rfl rfl (fun K hK=> ?_);go_simp;refine hK _ ?_;clear hK K)
 refine wpQ_nil ?_;refine wpRest_act rfl ?_;go_wp2_with fail
 refine(clone_items0 ai ci hci _).mono ?_;rintro e w1 ⟨a',c',rfl,hc',ho⟩;have s1:=HB.out.drew.only ho;have l1:h.le w1:=fun k o e=>(ho.heap k (Array.getElem?_eq_some_iff.1 (HL.out k o e)).1).trans (HL.out k o e)
 have q3:w1.cell? ⟨w.heap.size,3,none⟩=some (.slice ad d.length cd):=by rw [cell_of_heap s1.right.pts_heap];rfl
 have S1:=hQ s1;have L1:=hQ l1;have HO:=hQ ho;clear s1 l1 ho;go_wp2;refine onN_mk ?_;iterate 1 (refine wpQ_step rfl rfl (fun K hK=> ?_);go_simp;refine hK _ ?_;clear hK K)
 refine wpQ_nil ⟨?_,?_⟩
 · refine chk_cons ?_ (chk_cons ?_ (chk_cons ?_ chk_nil))<;>(refine yieldF_of rfl rfl rfl rfl ?_;go_simp;try omega)
 refine wpRest_act rfl ?_;go_wp2_with fail
 refine(clone_bytes h _ d _ _ S1.out L1.out H2.out hd).mono ?_;rintro e w2 ⟨vd2,rfl,s2,hst2⟩;obtain⟨a2,c2,ed,_,_⟩:=Row.read s2;subst ed
 have s3:Sat ((Pr.pts w.heap.size (.cells #[.int .i64 3,.int .i64 0,.slice ai 0 ci,.slice ad d.length cd,.int .i64 next] 83)).star ((Pr.pts (w.heap.size+1) (.cells #[.int .i64 0,.int .i64 0,.slice none 0 0,.slice none 0 0,.int .i64 0] 83)).star
  ((BytesRow (.slice a2 d.length c2) d).star F))) w2:=s2.perm (by ac_rfl)
 have y2:w2.cell? ⟨w.heap.size,2,none⟩=some (.slice ai 0 ci):=by rw [cell_of_heap s3.pts_heap];rfl
 have y3:w2.cell? ⟨w.heap.size,3,none⟩=some (.slice ad d.length cd):=by rw [cell_of_heap s3.pts_heap];rfl
 have z2:=frozen_of_heap s3.pts_heap 2;have z3:=frozen_of_heap s3.pts_heap 3;have S3:=hQ s3;clear s2 s3 S1 L1 HB HL H2;go_wp2;refine onN_mk (wpQ_nil ⟨?_,?_⟩)
 · refine chk_cons ?_ (chk_cons ?_ (chk_cons ?_ chk_nil))<;>(refine yieldF_of rfl rfl rfl rfl ?_;go_simp;try omega)
 refine wpRest_act rfl ?_;go_wp2;refine onN_mk ?_;iterate 1 (refine wpQ_step rfl rfl (fun K hK=> ?_);go_simp;refine hK _ ?_;clear hK K)
 refine wpQ_nil ⟨chk_nil,?_⟩;refine wpRest_act rfl ?_;go_wp2;refine onN_mk (wpQ_nil ⟨chk_nil,wpRest_nil ?_⟩);clear z2 z3;have s4:=(S3.out.setCell (i:=2) (.slice a' 0 c')).setCell (i:=3) (.slice a2 d.length c2)
 have w4:Sat ((Pr.pts (w.heap.size+1) (.cells #[.int .i64 0,.int .i64 0,.slice none 0 0,.slice none 0 0,.int .i64 0] 83)).star ((Pr.pts w.heap.size (.cells #[.int .i64 3,.int .i64 0,.slice a' 0 c',.slice a2 d.length c2,.int .i64 next] 83)).star
  ((BytesRow (.slice a2 d.length c2) d).star F))) _:=s4.perm (by rw [Pr.left_comm];rfl)
 generalize hwe:(w2.setCell ⟨w.heap.size,2,none⟩ (.slice a' 0 c')).setCell ⟨w.heap.size,3,none⟩ (.slice a2 d.length c2)=w5 at*;have hst5:Stays w2 w5:=by rw [← hwe];exact((Stays.refl _).setCell _ _).setCell _ _
 have p0:w5.cell? ⟨w.heap.size,0,none⟩=some (.int .i64 3):=by rw [cell_of_heap w4.right.pts_heap];rfl
 have p1:w5.cell? ⟨w.heap.size,1,none⟩=some (.int .i64 0):=by rw [cell_of_heap w4.right.pts_heap];rfl
 have p2:w5.cell? ⟨w.heap.size,2,none⟩=some (.slice a' 0 c'):=by rw [cell_of_heap w4.right.pts_heap];rfl
 have p3:w5.cell? ⟨w.heap.size,3,none⟩=some (.slice a2 d.length c2):=by rw [cell_of_heap w4.right.pts_heap];rfl
 have p4:w5.cell? ⟨w.heap.size,4,none⟩=some (.int .i64 next):=by rw [cell_of_heap w4.right.pts_heap];rfl
 have f0:w5.cell? ⟨w.heap.size+1,0,none⟩=some (.int .i64 0):=by rw [cell_of_heap w4.pts_heap];rfl
 have f1:w5.cell? ⟨w.heap.size+1,1,none⟩=some (.int .i64 0):=by rw [cell_of_heap w4.pts_heap];rfl
 have f2:w5.cell? ⟨w.heap.size+1,2,none⟩=some (.slice none 0 0):=by rw [cell_of_heap w4.pts_heap];rfl
 have f3:w5.cell? ⟨w.heap.size+1,3,none⟩=some (.slice none 0 0):=by rw [cell_of_heap w4.pts_heap];rfl
 have f4:w5.cell? ⟨w.heap.size+1,4,none⟩=some (.int .i64 0):=by rw [cell_of_heap w4.pts_heap];rfl
 have z0:=frozen_of_heap w4.pts_heap 0;have z1:=frozen_of_heap w4.pts_heap 1;have z2:=frozen_of_heap w4.pts_heap 2;have z3:=frozen_of_heap w4.pts_heap 3;have z4:=frozen_of_heap w4.pts_heap 4;have W4:=hQ w4;have HST:=hQ (((((Stays.refl w).alloc _).alloc _).drew.trans HO.out.st).trans (hst2.trans hst5));clear s4 w4 hwe hst5 y2 y3 S3 hst2 HO;go_wp2
 go_loopw [16] (fun i wr=>i= .int .i64 0∧wr=w5) (fun _ _=>0)
 case atStart=>exact⟨rfl,rfl⟩
 case round=>
  obtain⟨rfl,rfl⟩:=hrel;go_wp2;have s6:=((((W4.out.setCell (i:=0) (.int .i64 3)).setCell (i:=1) (.int .i64 0)).setCell (i:=2) (.slice a' 0 c')).setCell (i:=3) (.slice a2 d.length c2)).setCell (i:=4) (.int .i64 next)
  have s7:Sat ((Pr.pts (w.heap.size+1) (.cells #[.int .i64 3,.int .i64 0,.slice a' 0 c',.slice a2 d.length c2,.int .i64 next] 83)).star ((Pr.pts w.heap.size (.cells #[.int .i64 3,.int .i64 0,.slice a' 0 c',.slice a2 d.length c2,.int .i64 next] 83)).star
   ((BytesRow (.slice a2 d.length c2) d).star F))) _:=s6
  refine bodyPost_ret (results_cell_row rfl _ _ (w.heap.size+1) _ _ _ _ rfl s7.pts_heap Tryz.underlying83 rfl infoPage) rfl ?_;obtain⟨h',e1,e2⟩:=toArena (Q:=fun x=>Bytes x (.slice a2 d.length c2) d) s7.right.right (fun x hx=>Row.rowIn hx);exact⟨_,rfl,⟨h',⟨_,_,rfl,items_mk hc',e1⟩,e2⟩,((((HST.out.setCell _ _).setCell _ _).setCell _ _).setCell _ _).setCell _ _⟩
end Go.Proofs.YtiegeadmgpanoaaGreatDoor.Q3
namespace Go.Cop
open Go.Proofs.YtiegeadmgpanoaaGreatDoor.Q2
def keyOk(k:Int)(i:Nat)(x:ItemV):Bool:=if k=2∧i=0 then decide (x.key.length=0) else decide (1≤x.key.length∧x.key.length≤24)
def ordOk(i:Nat)(prev:List Int)(x:ItemV):Bool:=decide (i=0∨0<cmpI x.key prev)
def valOk(k:Int)(x:ItemV):Bool:=
 if k=2 then decide (x.value.length=0∧x.size=0)
 else if 0≤x.size∧x.size≤3840 then(if x.size≤32 then decide ((x.value.length:Int)=x.size) else decide (x.value.length=0)) else false
def kidOk(k:Int)(x:ItemV):Bool:=if k=1∧x.size≤32 then decide (x.child=0) else isPg x.child
def itemE(k:Int)(i:Nat)(prev:List Int)(x:ItemV):Int:=
 if keyOk k i x=false then 7 else if ordOk i prev x=false then 11 else if valOk k x=false then 8 else if kidOk k x=false then 15 else 0
def itemsE(k:Int):Nat→List Int→List ItemV→Int
 | _,_,[]=>0
 | i,prev,x :: l=>if itemE k i prev x=0 then itemsE k (i+1) x.key l else itemE k i prev x
def kindOk(k:Int):Bool:=decide (1≤k∧k≤3)
def nextOk(n:Int):Bool:=decide (n=0) || isPg n
def thenE(e f:Int):Int:=if e=0 then f else e
def checkP(g:PageV):Int:=
 if kindOk g.kind=false then 22 else if formP g.kind g.level g.items.length g.data.length g.next=false then 5
 else thenE (itemsE g.kind 0 [] g.items) (if nextOk g.next then 0 else 15)
structure Fit(g:PageV):Prop where
 n:g.items.length≤8
 d:g.data.length≤480
 k:∀x∈g.items,x.key.length≤24∧x.value.length≤32
theorem mustP_then(f:Int)(b:Bool)(e:Int):mustP f b e=thenE f (if b then 0 else e):=by
 unfold mustP thenE;cases b
 · simp
 · by_cases h:f=0<;>simp [h]
theorem thenE_assoc(a b c:Int):thenE (thenE a b) c=thenE a (thenE b c):=by
 unfold thenE;by_cases h:a=0<;>by_cases h2:b=0<;>simp [h,h2]
theorem thenE_zero(a:Int):thenE a 0=a:=by
 unfold thenE;by_cases h:a=0<;>simp [h]
theorem zero_thenE(a:Int):thenE 0 a=a:=rfl
theorem itemsE_cons(k:Int)(i:Nat)(p:List Int)(x:ItemV)(l:List ItemV):itemsE k i p (x :: l)=thenE (itemE k i p x) (itemsE k (i+1) x.key l):=rfl
theorem itemE_then(k:Int)(i:Nat)(p:List Int)(x:ItemV):itemE k i p x=thenE (if keyOk k i x then 0 else 7) (thenE (if ordOk i p x then 0 else 11) (thenE (if valOk k x then 0 else 8) (if kidOk k x then 0 else 15))):=by
 unfold itemE thenE;cases keyOk k i x<;>cases ordOk i p x<;>cases valOk k x<;>cases kidOk k x<;>simp
theorem drop_at {l:List ItemV}{i:Nat}(h:i<l.length):l.drop i=l[i] :: l.drop (i+1):=List.drop_eq_getElem_cons h
theorem fit_items(k:Int):∀(l:List ItemV) (i:Nat) (p:List Int),itemsE k i p l=0→∀x∈l,x.key.length≤24∧x.value.length≤32
 | [],_,_,_,x,hx=>by cases hx
 | y :: l,i,p,h,x,hx=>by
   rw [itemsE_cons] at h
   have h1:itemE k i p y=0:=by
    unfold thenE at h;split at h
    · assumption
    · exact absurd h (by assumption)
   have h2:itemsE k (i+1) y.key l=0:=by unfold thenE at h;rw [if_pos h1] at h;exact h
   rcases List.mem_cons.1 hx with rfl | hx
   · unfold itemE at h1
     split at h1
     · cases h1
     · rename_i hk
       split at h1
       · cases h1
       · split at h1
         · cases h1
         · rename_i hv
           constructor
           · unfold keyOk at hk
             split at hk<;>simp only [decide_eq_false_iff_not,Decidable.not_not] at hk<;>omega
           · unfold valOk at hv
             split at hv
             · simp only [decide_eq_false_iff_not,Decidable.not_not] at hv;omega
             · split at hv
               · split at hv<;>simp only [decide_eq_false_iff_not,Decidable.not_not] at hv<;>omega
               · simp at hv
   · exact fit_items k l (i+1) y.key h2 x hx
theorem fit_of_check {g:PageV}(h:checkP g=0):Fit g:=by
 unfold checkP at h;split at h
 · cases h
 · rename_i hk
   split at h
   · cases h
   · rename_i hf
     have h1:itemsE g.kind 0 [] g.items=0:=by
      unfold thenE at h;split at h
      · assumption
      · exact absurd h (by assumption)
     have hb:g.items.length≤8∧g.data.length≤480:=by
      unfold formP at hf;split at hf
      · simp only [decide_eq_false_iff_not,Decidable.not_not] at hf;omega
      · split at hf<;>simp only [decide_eq_false_iff_not,Decidable.not_not] at hf<;>omega
     exact⟨hb.1,hb.2,fit_items _ _ _ _ h1⟩
end Go.Cop
