/- The document's New; the conditions stand as hypotheses. -/
import Derived.Test.YtiegeadmgpanoaaGreatDoorWalkChecksM21
import Derived.Test.YtiegeadmgpanoaaGreatDoorWalkChecksM05
import Derived.Test.YtiegeadmgpanoaaGreatDoorWalkChecksM13
import Derived.Test.YtiegeadmgpanoaaGreatDoorWalkChecksM01
set_option maxRecDepth 100000
set_option maxHeartbeats 16000000
namespace Go.Proofs.YtiegeadmgpanoaaGreatDoor.K6
open ChangeShapes WideShapes ChangeAt RowKit Sl Cop D2 F3 K3 P3 G2 J2 Q3 V3 C4 G4 G5 K5 X3 M5 P5 J5 J4 F6 G6 J6
theorem infoPageF:(Tryz.prog.info? 83).map (fun i=>(i.zero,i.size,i.bytes))=some (some (.agg #[.int .i64 0,.int .i64 0,.slice none 0 0,.slice none 0 0,.int .i64 0]),5,72):=by kernel_rfl
theorem refsAre_any(r:Int)(w:World):Calls Tryz.prog 140 #[.int .i64 r] w fun e w'=>e= .returned (.bool (decide (2≤r∧r<65536)))∧w=w':=by
 by_cases h1:2≤r
 · go_enter Tryz.func140,Tryz.ntmps140
   go_wp2;go_ret;simp [h1]
 · go_enter Tryz.func140,Tryz.ntmps140
   go_wp2;go_ret;simp;omega
theorem rep_snoc {α:Type}(a:α)(k:Nat):List.replicate k a++ [a]=List.replicate (k+1) a:=by
 rw [List.replicate_succ']
abbrev nilP:Value × Value:=(.slice none 0 0,.slice none 0 0)
theorem zip_rep {α β:Type}(a:α)(b:β)(k:Nat):(List.replicate k a).zip (List.replicate k b)=List.replicate k (a,b):=by
 induction k with
 | zero=>rfl
 | succ k ih=>simp [List.replicate_succ,ih]
theorem pg_snoc(k:Nat):((List.replicate k nilP).zip (List.replicate k zeroP)).flatMap pgCells++ [.int .i64 0,.int .i64 0,.slice none 0 0,.slice none 0 0,.int .i64 0]=((List.replicate (k+1) nilP).zip (List.replicate (k+1) zeroP)).flatMap pgCells:=by
 rw [zip_rep,zip_rep,List.replicate_succ',List.flatMap_append];simp [pgCells]
def NewAt(r:Nat)(refs:Int)(cv lv pv:Value)(a b c:Nat):Pr:=
 (Pr.pts r (refC refs cv lv pv (quietT false))).star ((Row 3 1 cv a (List.replicate a (.int .i64 0))).star ((Row 4 1 lv b (List.replicate b (.bool false))).star (Row 83 5 pv c (((List.replicate c nilP).zip (List.replicate c zeroP)).flatMap pgCells))))
theorem pts7 {b T:Nat}{v0 v1 v2 v3 v4 v5 v6:Value}{F:Pr}{w:World}(h:Sat ((Pr.pts b (.cells #[v0,v1,v2,v3,v4,v5,v6] T)).star F) w):
 w.cell? ⟨b,1,none⟩=some v1∧w.cell? ⟨b,2,none⟩=some v2∧w.cell? ⟨b,3,none⟩=some v3∧(w.frozen? ⟨b,1,none⟩=false∧w.frozen? ⟨b,2,none⟩=false∧w.frozen? ⟨b,3,none⟩=false)∧b<w.heap.size∧w.cell? ⟨b,0,none⟩=some v0:=by
 have h1:=h.pts_heap;exact⟨by rw [cell_of_heap h1];rfl,by rw [cell_of_heap h1];rfl,by rw [cell_of_heap h1];rfl,⟨frozen_of_heap h1 1,frozen_of_heap h1 2,frozen_of_heap h1 3⟩,h.lt,by rw [cell_of_heap h1];rfl⟩
abbrev poolN(refs:Int)(n:Nat):PoolS:= { refs:=refs,counts:=List.replicate n 0,last:=List.replicate n false,acts:= [],floor:=0 }
theorem rnew_bad(pages refs:Int)(h:rangeOk pages refs=false)(w:World):
 Calls Tryz.prog 116 #[.int .i64 pages,.int .i64 refs] w fun e w'=>e= .returned (.tuple #[.pointer none,.int .i64 1])∧w=w':=by
 have hb:¬(1≤pages∧pages≤65536∧2≤refs∧refs<65536):=fun h2=>by rw [rangeOk_iff.2 h2] at h;cases h
 clear h;by_cases h1:pages<1
 · go_enter Tryz.func116,Tryz.ntmps116
   go_wp2;go_ret2;exact⟨rfl,rfl⟩
 · by_cases h2:65536<pages
   · go_enter Tryz.func116,Tryz.ntmps116
     go_wp2;go_ret2;exact⟨rfl,rfl⟩
   · have RA:=hQ (refsAre_any refs w)
     rw [decide_eq_false (show ¬(2≤refs∧refs<65536) by omega)] at RA;go_enter Tryz.func116,Tryz.ntmps116
     go_wp2_with fail
     refine RA.out.mono ?_;rintro e w1 ⟨rfl,rfl⟩;go_wp2;go_ret2;exact⟨rfl,rfl⟩
theorem rnew_any(n:Nat)(refs:Int)(h:rangeOk n refs=true)(F:Pr)(w:World)(hF:Sat F w):
 Calls Tryz.prog 116 #[.int .i64 n,.int .i64 refs] w fun e w'=>Stays w w'∧
  ∃r,e= .returned (.tuple #[.pointer (some ⟨r,0,none⟩),.int .i64 0])∧Sat ((RefA r (poolN refs n) (List.replicate n zeroP) (quietT false)).star F) w':=by
 obtain⟨n1,n2,n3,n4⟩:=rangeOk_iff.1 h;have hn:n≤65536:=by omega
 have RA:=hQ (refsAre_any refs w);rw [decide_eq_true (show 2≤refs∧refs<65536 by omega)] at RA;have h1:=hF.alloc (refC refs (.slice none 0 0) (.slice none 0 0) (.slice none 0 0) (quietT false));have H1:=hQ h1;obtain⟨i0,hi,hz0,hz1,hz2⟩:=info_parts infoInt;obtain⟨j0,hj,hy0,hy1,hy2⟩:=info_parts infoBool;obtain⟨k0,hk,hx0,hx1,hx2⟩:=info_parts infoPageF;clear h1 hF h n3 n4
 go_enter Tryz.func116,Tryz.ntmps116
 go_wp2_with fail
 refine RA.out.mono ?_;rintro e w1 ⟨rfl,rfl⟩;go_wp2_with fail
 go_loopw [7] (fun i wr=> ∃(k:Nat) (cv lv pv:Value),k≤n∧i= .int .i64 k∧Stays w wr∧Sat ((NewAt w.heap.size refs cv lv pv k k k).star F) wr) (fun i _=>n-(intOf i).toNat)
 case atStart=>
  refine⟨0,.slice none 0 0,.slice none 0 0,.slice none 0 0,Nat.zero_le _,rfl,(Stays.refl w).alloc _,?_⟩;unfold NewAt;show Sat (((Pr.pts w.heap.size _).star ((Row _ 1 (.slice none 0 0) 0 []).star ((Row _ 1 (.slice none 0 0) 0 []).star (Row _ 5 (.slice none 0 0) 0 [])))).star F) _
  rw [Row.nil,Row.nil,Row.nil,Pr.emp_star,Pr.star_emp,Pr.star_emp];exact H1.out
 case round=>
  obtain⟨k,cv,lv,pv,hkn,rfl,hst,hs⟩:=hrel;rcases Nat.lt_or_ge k n with hlt | hge
  · have e1:Sat ((Row 3 1 cv k (List.replicate k (.int .i64 0))).star ((Pr.pts w.heap.size (refC refs cv lv pv (quietT false))).star ((Row 4 1 lv k (List.replicate k (.bool false))).star ((Row 83 5 pv k (((List.replicate k nilP).zip (List.replicate k zeroP)).flatMap pgCells)).star F)))) wr:=hs.perm (by unfold NewAt;ac_rfl)
    obtain⟨a1,c1,rfl,_,_⟩:=Row.read e1;obtain⟨a2,c2,rfl,_,_⟩:=Row.read e1.right.right;obtain⟨a3,c3,rfl,_,_⟩:=Row.read e1.right.right.right;obtain⟨q1,q2,q3,⟨f1,f2,f3⟩,z,_⟩:=pts7 e1.right;have A1:=hQ (e1.alloc (.cells #[.int .i64 0] 3)).right;have hnew:=hQ (new_cells wr [.int .i64 0] 3 _ rfl);have HST:=hQ hst;clear hs e1 hst
    go_wp2_with (first
     | (at_builtin
        refine wpList_append_sl rfl _ _ _ rfl 3 i0 (.int .i64 0) 1 8 Tryz.underlying22 hi hz0 hz1 hz2 rfl _ _ _ rfl A1.out ⟨wr.heap.size,0,none⟩ 1 1 [.int .i64 0] rfl rfl hnew.out (by simp [Value.oneCell']) (by simp only [maxLen];omega) (by omega) ?_
        intro v4 w4 hs4 hg4 _
        obtain⟨a4,c4,e4,_,_⟩:=Row.read hs4
        subst e4
        obtain⟨q1,q2,q3,⟨f1,f2,f3⟩,z4⟩:=pts7 hs4.right
        have s4:=(hs4.perm (Pr.left_comm _ _ _)).setCell (i:=1) (.slice a4 (k+1) c4)
        have B1:Sat ((Row 4 1 (.slice a2 k c2) k (List.replicate k (.bool false))).star ((Pr.pts w.heap.size (refC refs (.slice a4 (k+1) c4) (.slice a2 k c2) (.slice a3 k c3) (quietT false))).star ((Row 3 1 (.slice a4 (k+1) c4) (k+1) (List.replicate k (.int .i64 0)++ [.int .i64 0])).star ((Row 83 5 (.slice a3 k c3) k (((List.replicate k nilP).zip (List.replicate k zeroP)).flatMap pgCells)).star F)))) (w4.setCell ⟨w.heap.size,1,none⟩ (.slice a4 (k+1) c4)):=s4.perm (by rw [Pr.left_comm];ac_rfl)
        have A2:=hQ (B1.alloc (.cells #[.bool false] 4)).right
        have hnew2:=hQ (new_cells (w4.setCell ⟨w.heap.size,1,none⟩ (.slice a4 (k+1) c4)) [.bool false] 4 w4.heap.size (by simp [World.setCell]))
        have HST4:=hQ (((HST.out.alloc _).of_grown hg4).setCell ⟨w.heap.size,1,none⟩ (.slice a4 (k+1) c4))
        clear hs4 hg4 s4 B1)
     | (at_builtin
        refine wpList_append_sl rfl _ _ _ rfl 4 j0 (.bool false) 1 1 Tryz.underlying93 hj hy0 hy1 hy2 rfl _ _ _ rfl A2.out ⟨w4.heap.size,0,none⟩ 1 1 [.bool false] rfl rfl hnew2.out (by simp [Value.oneCell']) (by simp only [maxLen];omega) (by omega) ?_
        intro v5 w5 hs5 hg5 _
        obtain⟨a5,c5,e5,_,_⟩:=Row.read hs5
        subst e5
        obtain⟨q1,q2,q3,⟨f1,f2,f3⟩,z5⟩:=pts7 hs5.right
        have s5:=(hs5.perm (Pr.left_comm _ _ _)).setCell (i:=2) (.slice a5 (k+1) c5)
        have B2:Sat ((Row 83 5 (.slice a3 k c3) k (((List.replicate k nilP).zip (List.replicate k zeroP)).flatMap pgCells)).star ((Pr.pts w.heap.size (refC refs (.slice a4 (k+1) c4) (.slice a5 (k+1) c5) (.slice a3 k c3) (quietT false))).star ((Row 3 1 (.slice a4 (k+1) c4) (k+1) (List.replicate k (.int .i64 0)++ [.int .i64 0])).star ((Row 4 1 (.slice a5 (k+1) c5) (k+1) (List.replicate k (.bool false)++ [.bool false])).star F)))) (w5.setCell ⟨w.heap.size,2,none⟩ (.slice a5 (k+1) c5)):=(show Sat ((Pr.pts w.heap.size (refC refs (.slice a4 (k+1) c4) (.slice a5 (k+1) c5) (.slice a3 k c3) (quietT false))).star ((Row 4 1 (.slice a5 (k+1) c5) (k+1) (List.replicate k (.bool false)++ [.bool false])).star ((Row 3 1 (.slice a4 (k+1) c4) (k+1) (List.replicate k (.int .i64 0)++ [.int .i64 0])).star ((Row 83 5 (.slice a3 k c3) k (((List.replicate k nilP).zip (List.replicate k zeroP)).flatMap pgCells)).star F)))) _ from s5).perm (by ac_rfl)
        have A3:=hQ (B2.alloc (.cells [.int .i64 0,.int .i64 0,.slice none 0 0,.slice none 0 0,.int .i64 0].toArray 83)).right
        have hnew3:=hQ (new_cells (w5.setCell ⟨w.heap.size,2,none⟩ (.slice a5 (k+1) c5)) [.int .i64 0,.int .i64 0,.slice none 0 0,.slice none 0 0,.int .i64 0] 83 w5.heap.size (by simp [World.setCell]))
        have HST5:=hQ (((HST4.out.alloc (.cells #[.bool false] 4)).of_grown hg5).setCell ⟨w.heap.size,2,none⟩ (.slice a5 (k+1) c5))
        clear hs5 hg5 s5 B2 A2)
     | (at_builtin
        refine wpList_append_sl rfl _ _ _ rfl 83 k0 (.agg #[.int .i64 0,.int .i64 0,.slice none 0 0,.slice none 0 0,.int .i64 0]) 5 72 Tryz.underlying109 hk hx0 hx1 hx2 rfl _ _ _ rfl A3.out ⟨w5.heap.size,0,none⟩ 1 1 [.int .i64 0,.int .i64 0,.slice none 0 0,.slice none 0 0,.int .i64 0] rfl rfl hnew3.out (by simp [Value.oneCell']) (by simp only [maxLen];omega) (by omega) ?_
        intro v6 w6 hs6 hg6 _
        obtain⟨a6,c6,e6,_,_⟩:=Row.read hs6
        subst e6
        obtain⟨q1,q2,q3,⟨f1,f2,f3⟩,z6⟩:=pts7 hs6.right
        have HST6:=hQ ((HST5.out.alloc (.cells [.int .i64 0,.int .i64 0,.slice none 0 0,.slice none 0 0,.int .i64 0].toArray 83)).of_grown hg6)
        have HS6:=hQ hs6
        clear hs6 hg6 A3))
    go_roundw
    case rel=>
     have s7:=(HS6.out.perm (Pr.left_comm _ _ _)).setCell (i:=3) (.slice a6 (k+1) c6);refine⟨k+1,.slice a4 (k+1) c4,.slice a5 (k+1) c5,.slice a6 (k+1) c6,by omega,congrArg (Value.int .i64) (by omega),HST6.out.setCell _ _,?_⟩;unfold NewAt;rw [← rep_snoc, ← rep_snoc, ← pg_snoc]
     exact(show Sat ((Pr.pts w.heap.size (refC refs (.slice a4 (k+1) c4) (.slice a5 (k+1) c5) (.slice a6 (k+1) c6) (quietT false))).star ((Row 83 5 (.slice a6 (k+1) c6) (k+1) (((List.replicate k nilP).zip (List.replicate k zeroP)).flatMap pgCells++ [.int .i64 0,.int .i64 0,.slice none 0 0,.slice none 0 0,.int .i64 0])).star ((Row 3 1 (.slice a4 (k+1) c4) (k+1) (List.replicate k (.int .i64 0)++ [.int .i64 0])).star ((Row 4 1 (.slice a5 (k+1) c5) (k+1) (List.replicate k (.bool false)++ [.bool false])).star F)))) _ from s7).perm (by ac_rfl)
    case measure=>simp [intOf];omega
  · have hkn2:k=n:=by omega
    subst hkn2;have HS:=hQ hs;clear hs;go_wp2;go_ret2;refine⟨hst,w.heap.size,rfl,refA_iff.2 ⟨⟨cv,lv,pv,List.replicate k nilP,Hp.nil⟩,?_,?_⟩⟩
    · refine⟨⟨by simp,fun i hx hl=> ?_⟩,by simp,by simp,by simpa using hn,fun c hc=> ?_,fun g hg=> ?_⟩
      · simp only [List.getElem_replicate]
        exact⟨items_mk (Nat.zero_le _),RowIn.nil _ _⟩
      · rw [List.eq_of_mem_replicate hc];exact Int.le_refl _
      · rw [List.eq_of_mem_replicate hg]
        exact⟨by simp,by simp,fun x hx=>by cases hx⟩
    · refine HS.out.perm ?_
      unfold NewAt RefAt PgRow IntsRow BoolsRow;rw [own_nil,Pr.star_emp];simp only [List.length_replicate,List.map_replicate]
end Go.Proofs.YtiegeadmgpanoaaGreatDoor.K6
namespace Go.Sl
theorem flat_set5 {α:Type}(f:α→List Value)(hf:∀x,(f x).length=5)(v0 v1 v2 v3 v4:Value)(y:α)(hy:f y= [v0,v1,v2,v3,v4]):∀(l:List α) (i:Nat),i<l.length→
 (((((l.flatMap f).set (i*5) v0).set (i*5+1) v1).set (i*5+2) v2).set (i*5+3) v3).set (i*5+4) v4=(l.set i y).flatMap f
 | [],i,hi=>absurd hi (by simp)
 | x :: l,0,_=>by
   have hx:=hf x;match hfx:f x,hx with
   | [a,b,c,d,e],_=>simp [hfx,hy]
 | x :: l,i+1,hi=>by
   have hx:=hf x;have ih:=flat_set5 f hf v0 v1 v2 v3 v4 y hy l i (by simpa using hi);simp only [List.flatMap_cons,List.set_cons_succ]
   rw [List.set_append_right _ _ (by rw [hx];omega),List.set_append_right _ _ (by rw [hx];omega),List.set_append_right _ _ (by rw [hx];omega),List.set_append_right _ _ (by rw [hx];omega),List.set_append_right _ _ (by rw [hx];omega),hx,
    show (i+1)*5-5=i*5 by omega,show (i+1)*5+1-5=i*5+1 by omega,show (i+1)*5+2-5=i*5+2 by omega,show (i+1)*5+3-5=i*5+3 by omega,show (i+1)*5+4-5=i*5+4 by omega,ih]
end Go.Sl
namespace Go.Proofs.YtiegeadmgpanoaaGreatDoor.M6
open ChangeShapes WideShapes ChangeAt RowKit Sl Cop D2 F3 K3 P3 G2 J2 Q3 V3 C4 G4 G5 K5 X3 M5 P5 J5 J4 F6 G6 J6 K6
theorem zip_set_both {α β:Type}:∀(xs:List α) (l:List β) (k:Nat) (v:α) (y:β),(xs.zip l).set k (v,y)=(xs.set k v).zip (l.set k y)
 | [],l,k,v,y=>by simp
 | x :: xs,[],k,v,y=>by cases k<;>simp
 | x :: xs,z :: l,0,v,y=>by simp
 | x :: xs,z :: l,k+1,v,y=>by
   have:=zip_set_both xs l k v y
   simp only [List.zip_cons_cons,List.set_cons_succ,this]
theorem ref_wr_count {r:Nat}{s:PoolS}{gs:List PageV}{hush:RTail}{x:RX}{F:Pr}{w:World}(h:Sat ((RefAt r s gs hush x).star F) w){j:Nat}(hj:j<s.counts.length):
 ∃b c,x.cv= .slice (some ⟨b,0,none⟩) s.counts.length c∧w.cell? ⟨b,j,none⟩=some (.int .i64 (s.counts.getD j 0))∧w.frozen? ⟨b,j,none⟩=false∧
  ∀v:Int,Sat ((RefAt r { s with counts:=s.counts.set j v } gs hush x).star F) (w.setCell ⟨b,j,none⟩ (.int .i64 v)):=by
 have h1:Sat ((IntsRow x.cv s.counts).star ((Pr.pts r (refC s.refs x.cv x.lv x.pv hush)).star ((BoolsRow x.lv s.last).star ((PgRow x.pv x.xs gs).star ((Pr.own x.h).star F))))) w:=h.perm (by unfold RefAt;ac_rfl);obtain⟨a,c,e,_,hc⟩:=Row.read h1;obtain⟨b,eb,hd⟩:=hc (by omega);subst eb;clear hc;refine⟨b,c,e,?_,(hd j (by omega)).2,fun v=> ?_⟩
 · rw [(hd j (by omega)).1];simp [hj]
 · have h2:=h1
   rw [e] at h2;have h3:=Row.set h2 j (by simpa using hj) (.int .i64 v)
   have h4:Sat ((IntsRow x.cv (s.counts.set j v)).star ((Pr.pts r (refC s.refs x.cv x.lv x.pv hush)).star ((BoolsRow x.lv s.last).star ((PgRow x.pv x.xs gs).star ((Pr.own x.h).star F))))) (w.setCell ⟨b,j,none⟩ (.int .i64 v)):=by
    unfold IntsRow;rw [List.length_set,List.map_set,e];exact h3
   exact h4.perm (by unfold RefAt;ac_rfl)
theorem ref_wr_last {r:Nat}{s:PoolS}{gs:List PageV}{hush:RTail}{x:RX}{F:Pr}{w:World}(h:Sat ((RefAt r s gs hush x).star F) w){j:Nat}(hj:j<s.last.length):
 ∃b c,x.lv= .slice (some ⟨b,0,none⟩) s.last.length c∧w.cell? ⟨b,j,none⟩=some (.bool (s.last.getD j false))∧w.frozen? ⟨b,j,none⟩=false∧
  ∀v:Bool,Sat ((RefAt r { s with last:=s.last.set j v } gs hush x).star F) (w.setCell ⟨b,j,none⟩ (.bool v)):=by
 have h1:Sat ((BoolsRow x.lv s.last).star ((Pr.pts r (refC s.refs x.cv x.lv x.pv hush)).star ((IntsRow x.cv s.counts).star ((PgRow x.pv x.xs gs).star ((Pr.own x.h).star F))))) w:=h.perm (by unfold RefAt;ac_rfl);obtain⟨a,c,e,_,hc⟩:=Row.read h1;obtain⟨b,eb,hd⟩:=hc (by omega);subst eb;clear hc;refine⟨b,c,e,?_,(hd j (by omega)).2,fun v=> ?_⟩
 · rw [(hd j (by omega)).1];simp [hj]
 · have h2:=h1
   rw [e] at h2;have h3:=Row.set h2 j (by simpa using hj) (.bool v)
   have h4:Sat ((BoolsRow x.lv (s.last.set j v)).star ((Pr.pts r (refC s.refs x.cv x.lv x.pv hush)).star ((IntsRow x.cv s.counts).star ((PgRow x.pv x.xs gs).star ((Pr.own x.h).star F))))) (w.setCell ⟨b,j,none⟩ (.bool v)):=by
    unfold BoolsRow;rw [List.length_set,List.map_set,e];exact h3
   exact h4.perm (by unfold RefAt;ac_rfl)
theorem ref_wr_page {r:Nat}{s:PoolS}{gs:List PageV}{hush:RTail}{x:RX}{F:Pr}{w:World}(hx:x.xs.length=gs.length)(h:Sat ((RefAt r s gs hush x).star F) w){j:Nat}(hj:j<gs.length):
 ∃b c,x.pv= .slice (some ⟨b,0,none⟩) gs.length c∧(∀i,i<5→w.frozen? ⟨b,j*5+i,none⟩=false∧∃v,w.cell? ⟨b,j*5+i,none⟩=some v)∧
  ∀(g:PageV) (vi vd:Value),Sat ((RefAt r s (gs.set j g) hush { x with xs:=x.xs.set j (vi,vd) }).star F) (((((w.setCell ⟨b,j*5,none⟩ (.int .i64 g.kind)).setCell ⟨b,j*5+1,none⟩ (.int .i64 g.level)).setCell ⟨b,j*5+2,none⟩ vi).setCell ⟨b,j*5+3,none⟩ vd).setCell ⟨b,j*5+4,none⟩ (.int .i64 g.next)):=by
 have h1:Sat ((PgRow x.pv x.xs gs).star ((Pr.pts r (refC s.refs x.cv x.lv x.pv hush)).star ((IntsRow x.cv s.counts).star ((BoolsRow x.lv s.last).star ((Pr.own x.h).star F))))) w:=h.perm (by unfold RefAt;ac_rfl);obtain⟨a,c,e,hlen,hc⟩:=Row.read h1;obtain⟨b,eb,hd⟩:=hc (by omega);subst eb;clear hc;refine⟨b,c,e,fun i hi=>⟨(hd (j*5+i) (by omega)).2,?_⟩,fun g vi vd=> ?_⟩
 · have h5:=(hd (j*5+i) (by omega)).1
   rw [List.getElem?_eq_getElem (by omega)] at h5;exact⟨_,h5⟩
 · have h2:=h1
   rw [e] at h2;have h3:=Row.set (Row.set (Row.set (Row.set (Row.set h2 (j*5) (by omega) (.int .i64 g.kind)) (j*5+1) (by simp only [List.length_set];omega) (.int .i64 g.level)) (j*5+2) (by simp only [List.length_set];omega) vi) (j*5+3) (by simp only [List.length_set];omega) vd) (j*5+4) (by simp only [List.length_set];omega) (.int .i64 g.next)
   rw [flat_set5 pgCells (fun _=>rfl) _ _ _ _ _ ((vi,vd),g) rfl (x.xs.zip gs) j (by simp;omega),zip_set_both] at h3
   have h4:Sat ((PgRow x.pv (x.xs.set j (vi,vd)) (gs.set j g)).star ((Pr.pts r (refC s.refs x.cv x.lv x.pv hush)).star ((IntsRow x.cv s.counts).star ((BoolsRow x.lv s.last).star ((Pr.own x.h).star F))))) (((((w.setCell ⟨b,j*5,none⟩ (.int .i64 g.kind)).setCell ⟨b,j*5+1,none⟩ (.int .i64 g.level)).setCell ⟨b,j*5+2,none⟩ vi).setCell ⟨b,j*5+3,none⟩ vd).setCell ⟨b,j*5+4,none⟩ (.int .i64 g.next)):=by
    unfold PgRow;rw [List.length_set,e];exact h3
   exact h4.perm (by unfold RefAt;ac_rfl)
end Go.Proofs.YtiegeadmgpanoaaGreatDoor.M6
namespace Go.Proofs.YtiegeadmgpanoaaGreatDoor.N6
open ChangeShapes WideShapes ChangeAt RowKit Sl Cop D2 F3 K3 P3 G2 J2 Q3 V3 G4 G5 X3 M5 P5 F6 G6 J6 K6
end Go.Proofs.YtiegeadmgpanoaaGreatDoor.N6
namespace Go.Proofs.YtiegeadmgpanoaaGreatDoor.P6
open ChangeShapes WideShapes ChangeAt RowKit Sl Cop D2 F3 K3 L3 P3 G2 J2 Q3 V3 C4 G4 G5 K5 X3 M5 P5 J5 J4 F6 E4 G6 J6 K6 M6
def pgsOf(n:Nat)(on:Int→Option PageV):List PageV:=(List.range n).map fun i:Nat=>(on ((i:Int)+1)).getD zeroP
def laidOf(n:Nat)(on:Int→Option PageV):List Bool:=(List.range n).map fun i:Nat=>(on ((i:Int)+1)).isSome
theorem pgsOf_put {n:Nat}{on:Int→Option PageV}{j:Nat}(g:PageV):(pgsOf n on).set j g=pgsOf n fun m=>if m=(j:Int)+1 then some g else on m:=by
 unfold pgsOf;refine List.ext_getElem (by simp) fun i h1 h2=> ?_
 rw [List.getElem_set];simp only [List.getElem_map,List.getElem_range];by_cases h:j=i
 · subst h;simp
 · rw [if_neg h,if_neg (by omega)]
theorem laidOf_put {n:Nat}{on:Int→Option PageV}{j:Nat}(g:PageV):(laidOf n on).set j true=laidOf n fun m=>if m=(j:Int)+1 then some g else on m:=by
 unfold laidOf;refine List.ext_getElem (by simp) fun i h1 h2=> ?_
 rw [List.getElem_set];simp only [List.getElem_map,List.getElem_range];by_cases h:j=i
 · subst h;simp
 · rw [if_neg h,if_neg (by omega)]
theorem laidOf_at {n:Nat}{on:Int→Option PageV}{j:Nat}(hj:j<n):(laidOf n on).getD j false=(on ((j:Int)+1)).isSome:=by
 unfold laidOf;simp [List.getD_eq_getElem?_getD,hj]
theorem pgsOf_none(n:Nat):pgsOf n (fun _=>none)=List.replicate n zeroP:=by
 unfold pgsOf;refine List.ext_getElem (by simp) fun i h1 h2=> ?_
 simp
theorem laidOf_none(n:Nat):laidOf n (fun _=>none)=List.replicate n false:=by
 unfold laidOf;refine List.ext_getElem (by simp) fun i h1 h2=> ?_
 simp
abbrev LaidRow(v:Value)(l:List Bool):Pr:=Row 4 1 v l.length (l.map Value.bool)
theorem filled {α:Type}{us cs:List α}(hl:us.length=cs.length)(h:∀i,i<cs.length→us[i]? =cs[i]?):us=cs:=
 List.ext_getElem? fun i=>by
  rcases Nat.lt_or_ge i cs.length with hi | hi
  · exact h i hi
  · rw [List.getElem?_eq_none (by omega),List.getElem?_eq_none hi]
theorem fill_step {α:Type}{us cs:List α}{k:Nat}(hl:us.length=cs.length)(hk:k<cs.length)(h:∀i,i<k→us[i]? =cs[i]?):∀i,i<k+1→(us.set k cs[k])[i]? =cs[i]? :=by
 intro i hi;by_cases he:i=k
 · subst he
   rw [List.getElem?_set_self (by omega),List.getElem?_eq_getElem hk]
 · rw [List.getElem?_set_ne (by omega)]
   exact h i (by omega)
abbrev lawS(refs:Int)(us:List Int)(bs:List Bool):PoolS:= { refs:=refs,counts:=us,last:=bs,acts:= [],floor:=0 }
theorem ref_put {r:Nat}{s:PoolS}{gs:List PageV}{hush:RTail}{x:RX}{F:Pr}{w:World}{h':Hp}{vi vd:Value}{g:PageV}{j:Nat}(ok:ROk s gs x)(hg:PageIn h' (pageV g.kind g.level vi vd g.next) g)(hf:Fit g)
 (h:Sat ((RefAt r s (gs.set j g) hush { x with xs:=x.xs.set j (vi,vd) }).star ((Pr.own h').star F)) w):Sat ((RefA r s (gs.set j g) hush).star F) w:=by
 have h1:Sat ((Pr.own x.h).star ((Pr.own h').star ((Pr.pts r (refC s.refs x.cv x.lv x.pv hush)).star ((IntsRow x.cv s.counts).star ((BoolsRow x.lv s.last).star ((PgRow x.pv (x.xs.set j (vi,vd)) (gs.set j g)).star F)))))) w:=h.perm (by unfold RefAt;dsimp only;ac_rfl);obtain⟨hd,h2⟩:=h1.own_join;obtain⟨_,_,e,y1,y2⟩:=hg
 simp only [pageV,Value.agg.injEq,Array.mk.injEq,List.cons.injEq,and_true,true_and] at e;obtain⟨rfl,rfl⟩:=e;refine refA_iff.2 ⟨{ x with xs:=x.xs.set j (vi,vd),h:=x.h.un h' },⟨⟨?_,fun i hx hl=> ?_⟩,ok.ll,?_,ok.n2,ok.c0,fun g2 hg2=> ?_⟩,h2.perm (by unfold RefAt;dsimp only;ac_rfl)⟩
 · simp only [List.length_set];exact ok.pgs.len
 · dsimp only
   simp only [List.length_set] at hx hl;by_cases he:j=i
   · subst he
     simp only [List.getElem_set_self];exact⟨y1.sub (Hp.sub_un_right hd),y2.sub (Hp.sub_un_right hd)⟩
   · simp only [List.getElem_set_ne he]
     obtain⟨p1,p2⟩:=ok.pgs.at' i hx hl;exact⟨p1.sub (Hp.sub_un_left _ _),p2.sub (Hp.sub_un_left _ _)⟩
 · rw [List.length_set];exact ok.gl
 · rcases List.mem_or_eq_of_mem_set hg2 with h3 | h3
   · exact ok.fit g2 h3
   · rw [h3];exact hf
theorem rload_big(refs:Int)(h:Hp)(vc vl:Value)(cs:List Int)(l:List NumV)(hx:Ints h vc cs)(hl:NumsIn h vl l)(hn:l.length≤9223372036854775807)(F:Pr)(w:World)(hF:Sat ((Pr.own h).star F) w):
 Calls Tryz.prog 74 #[.int .i64 refs,vc,vl] w fun e w'=>Stays w w'∧
  (((loadE refs cs l).1≠0∧e= .returned (.tuple #[.pointer none,.int .i64 (loadE refs cs l).1])∧Sat ((Pr.own h).star F) w')∨
   ((loadE refs cs l).1=0∧∃r,e= .returned (.tuple #[.pointer (some ⟨r,0,none⟩),.int .i64 0])∧Sat ((RefA r (poolOf refs cs 0) (pgsOf cs.length (loadE refs cs l).2) (quietT false)).star ((Pr.own h).star F)) w')):=by
 obtain⟨al,cl,rfl,rd⟩:=nums_rd hl;obtain⟨ac,cc,rfl,rc⟩:=ints_rd hx;have RD:=hQ rd;have RC:=hQ rc;have hn0:(l.length:Int)≤9223372036854775807:=by omega
 clear rd rc hl hx;cases hr:rangeOk cs.length refs with
 | false=>
   have NB:=fun wx=>hQ (rnew_bad cs.length refs hr wx)
   have HR:=hQ hr;clear hr;go_enter Tryz.func74,Tryz.ntmps74
   go_wp2_with fail
   refine(NB _).out.mono ?_;rintro e w1 ⟨rfl,rfl⟩;go_wp2;go_ret2;refine⟨Stays.refl _,.inl ?_⟩;rw [loadE_range HR.out];exact⟨by decide,rfl,hF⟩
 | true=>
   have hnc:cs.length≤65536:=by have:=rangeOk_iff.1 hr;omega
   have hnc0:(cs.length:Int)≤65536:=by omega
   have NW:=hQ (rnew_any cs.length refs hr _ w hF);have HR:=hQ hr;clear hr hF;go_enter Tryz.func74,Tryz.ntmps74
   go_wp2_with fail
   refine NW.out.mono ?_;rintro e w1 ⟨hst1,r,rfl,hs1⟩;obtain⟨x,ok,hs2⟩:=refA_iff.1 hs1;have OK:=hQ ok;have HS2:=hQ hs2;have HST1:=hQ hst1;clear hs1 hs2 ok hst1 NW;go_wp2_with fail
   go_loopw [10,11] (fun lw i wr=> ∃(k:Nat) (us:List Int) (bs:List Bool),k≤cs.length∧i= .int .i64 k∧Stays w wr∧us.length=cs.length∧bs.length=cs.length∧Hid (∀i,i<k→us[i]? =cs[i]?)∧Hid (∀i,i<k→bs[i]? =(lastsOf cs)[i]?)∧Hid (∀i,i<k→0≤cs.getD i 0∧cs.getD i 0≤refs)∧
    Sat ((RefAt r (lawS refs us bs) (List.replicate cs.length zeroP) (quietT false) x).star ((Row 4 1 lw k (List.replicate k (.bool false))).star ((Pr.own h).star F))) wr) (fun _ i _=>cs.length-(intOf i).toNat)
   case atStart=>
    refine⟨0,List.replicate cs.length 0,List.replicate cs.length false,Nat.zero_le _,rfl,HST1.out,by simp,by simp,hQ (fun i hi=>absurd hi (by omega)),hQ (fun i hi=>absurd hi (by omega)),hQ (fun i hi=>absurd hi (by omega)),?_⟩;show Sat ((RefAt r _ _ (quietT false) x).star ((Row 4 1 (.slice none 0 0) 0 []).star ((Pr.own h).star F))) _
    rw [Row.nil,Pr.emp_star];exact HS2.out
   case round=>
    obtain⟨k,us,bs,hkl,rfl,hst,hul,hbl,hus,hbs,hck,hs⟩:=hrel;obtain⟨aw,dw,rfl,_,_⟩:=Row.read hs.right;rcases Nat.lt_or_ge k cs.length with hlt | hge
    · obtain⟨b,off,rfl,c1⟩:=RC.out k hlt
      have q0:=c1 wr hs.right.right.own;have hcm:cs.getD k 0∈cs:=by simp [hlt]
      have hcg:cs.getD k 0=cs[k]:=by simp [hlt]
      have HCM:=hQ hcm;have HCG:=hQ hcg;have HC1:=hQ c1;have HUL:=hQ hul;have HBL:=hQ hbl;clear c1 hcm hcg hul hbl;generalize cs.getD k 0=c at*;by_cases hc0:c<0
      · have HC0:=hQ hc0
        have HS:=hQ hs;clear hs;go_wp2;go_ret2;refine⟨hst,.inl ?_⟩;rw [loadE_bad HR.out (badC_min ⟨c,HCM.out,HC0.out⟩)];exact⟨(show (13:Int)≠0 by decide),rfl,HS.out.right.right⟩
      by_cases hc1:refs<c
      · have HC0:=hQ hc1
        have HS:=hQ hs;clear hs;go_wp2;go_ret2;refine⟨hst,.inl ?_⟩;rw [loadE_bad HR.out (badC_max ⟨c,HCM.out,HC0.out⟩)];exact⟨(show (13:Int)≠0 by decide),rfl,HS.out.right.right⟩
      have HC0:=hQ (show 0≤c∧c≤refs by omega);have hsd:=hs;have hk1:k<(lawS refs us bs).counts.length:=by show k<us.length;rw [HUL.out];exact hlt
      obtain⟨b1,d1,ecv,k0,kf,wr1⟩:=ref_wr_count hsd hk1;have hp7:=pts7 (hs.perm (B:=(Pr.pts r (refC refs x.cv x.lv x.pv (quietT false))).star ((IntsRow x.cv us).star ((BoolsRow x.lv bs).star ((PgRow x.pv x.xs (List.replicate cs.length zeroP)).star ((Pr.own x.h).star ((Row 4 1 (.slice aw k dw) k (List.replicate k (.bool false))).star ((Pr.own h).star F))))))) (by unfold RefAt;ac_rfl))
      obtain⟨q1,q2,q3,_,z,_⟩:=hp7;rw [ecv] at q1;have eul:(lawS refs us bs).counts.length=cs.length:=HUL.out;rw [eul] at q1 ecv;have W1:=(wr1 c).drew;have HECV:=hQ ecv;have HST:=hQ hst;clear hs hsd wr1 hst hk1 eul ecv;go_wp2_with fail
      refine wS 134 [0,1,2,3,4,5,6,7,8,9] [(10,[],[])] ?_;refine wpQ_all _ rfl rfl ?_;simp only [pick,pQ];iterate 10 (go_big_quiet_step (fail))
      refine wpQuiet_nil ?_;refine wpRest_act rfl ?_;go_wp2;refine onN_mk (wpQ_nil ⟨chk_nil,wpRest_nil ?_⟩);have hst2:=(HST.out.setCell ⟨b1,k,none⟩ (.int .i64 c)).drew;generalize (wr.setCell ⟨b1,k,none⟩ (.int .i64 c)).drew=w5 at*;have q05:=HC1.out w5 W1.right.right.own;have hk2:k<(lawS refs (us.set k c) bs).last.length:=by show k<bs.length;rw [HBL.out];exact hlt
      obtain⟨b2,d2,elv,m0,mf,wr2⟩:=ref_wr_last (s:=lawS refs (us.set k c) bs) W1 hk2
      have hp7:=pts7 (W1.perm (B:=(Pr.pts r (refC refs x.cv x.lv x.pv (quietT false))).star ((IntsRow x.cv (us.set k c)).star ((BoolsRow x.lv bs).star ((PgRow x.pv x.xs (List.replicate cs.length zeroP)).star ((Pr.own x.h).star ((Row 4 1 (.slice aw k dw) k (List.replicate k (.bool false))).star ((Pr.own h).star F))))))) (by unfold RefAt;ac_rfl));clear q1 q2 q3 z;obtain⟨q1,q2,q3,_,z,_⟩:=hp7
      rw [elv] at q2;have ebl:(lawS refs (us.set k c) bs).last.length=cs.length:=HBL.out;rw [ebl] at q2 elv;have W2:=(wr2 (decide (0<c))).drew;have HST2:=hQ hst2;clear W1 wr2 hst2 hk2 ebl elv q0 k0 kf;go_wp2_with fail
      refine wS 134 [0,1,2,3,4,5,6,7,8,9,10] [(11,[],[])] ?_;refine wpQ_all _ rfl rfl ?_;simp only [pick,pQ];iterate 11 (go_big_quiet_step (fail))
      refine wpQuiet_nil ?_;refine wpRest_act rfl ?_;go_wp2;refine onN_mk (wpQ_nil ⟨chk_nil,wpRest_nil ?_⟩);have hst3:=(HST2.out.setCell ⟨b2,k,none⟩ (.bool (decide (0<c)))).drew;generalize (w5.setCell ⟨b2,k,none⟩ (.bool (decide (0<c)))).drew=w6 at*;obtain⟨j0,hj,hy0,hy1,hy2⟩:=info_parts infoBool;have A2:=hQ ((W2.perm (Pr.left_comm _ _ _)).alloc (.cells #[.bool false] 4)).right
      have hnew2:=hQ (new_cells w6 [.bool false] 4 w6.heap.size rfl);have HST3:=hQ hst3;clear W2 hst3 q05 q1 q2 q3 z m0 mf
      go_wp2_with (
       at_builtin
       refine wpList_append_sl rfl _ _ _ rfl 4 j0 (.bool false) 1 1 Tryz.underlying93 hj hy0 hy1 hy2 rfl _ _ _ rfl A2.out ⟨w6.heap.size,0,none⟩ 1 1 [.bool false] rfl rfl hnew2.out (by simp [Value.oneCell']) (by simp only [maxLen];omega) (by omega) ?_
       intro v7 w7 hs7 hg7 _
       obtain⟨a7',c7',e7',_,_⟩:=Row.read hs7
       subst e7'
       have HS7:=hQ hs7
       have HG7:=hQ hg7
       clear hs7 hg7)
      refine⟨⟨k+1,us.set k c,bs.set k (decide (0<c)),by omega,congrArg (Value.int .i64) (by omega),(HST3.out.alloc _).of_grown HG7.out,by rw [List.length_set];exact HUL.out,by rw [List.length_set];exact HBL.out,hQ ?_,hQ ?_,hQ ?_,?_⟩,by simp [intOf];omega⟩
      · rw [HCG.out];exact fill_step HUL.out hlt hus.out
      · have hl2:k<(lastsOf cs).length:=by simpa [lastsOf] using hlt
        have e2:decide (0<c)=(lastsOf cs)[k]:=by rw [HCG.out];simp [lastsOf]
        rw [e2];exact fill_step (by rw [HBL.out];simp [lastsOf]) hl2 hbs.out
      · intro i hi
        by_cases he:i=k
        · subst he
          have:cs.getD i 0=c:=by rw [HCG.out];simp [hlt]
          rw [this];exact HC0.out
        · exact hck.out i (by omega)
      · rw [← rep_snoc]
        exact HS7.out.perm (Pr.left_comm _ _ _)
    · have hkn2:k=cs.length:=by omega
      subst hkn2;have e1:us=cs:=filled hul hus.out;have e2:bs=lastsOf cs:=filled (by rw [hbl];simp [lastsOf]) (by intro i hi;exact hbs.out i (by simpa [lastsOf] using hi));subst e1 e2
      have hbad:badC refs us=false:=by
       refine List.any_eq_false.2 fun c hc=> ?_
       obtain⟨i,hi,rfl⟩:=List.getElem_of_mem hc;have:=hck.out i hi
       simp only [List.getD_eq_getElem?_getD,List.getElem?_eq_getElem hi,Option.getD_some] at this;simp only [decide_eq_true_eq];omega
      have HLE:=hQ (loadE_lay (l:=l) HR.out hbad);have hpos:∀c∈us,0≤c:=fun c hc=>(badC_false hbad c hc).1
      have hra:Sat ((RefA r (poolOf refs us 0) (pgsOf us.length fun _=>none) (quietT false)).star ((LaidRow (.slice aw us.length dw) (laidOf us.length fun _=>none)).star ((Pr.own h).star F))) wr:=by
       rw [pgsOf_none,laidOf_none];refine refA_iff.2 ⟨x,⟨OK.out.pgs,by simp [lastsOf],by simp,hnc,hpos,OK.out.fit⟩,?_⟩;unfold LaidRow;rw [List.length_replicate,List.map_replicate];exact hs
      have HRA:=hQ hra;have HST:=hQ hst;have HPOS:=hQ hpos;clear hs hra hst hpos hbad hus hbs hck hul hbl HS2 OK HST1;go_wp2_with fail
      go_loopw [12] (fun i wr=> ∃(k:Nat) (on:Int→Option PageV),k≤l.length∧i= .int .i64 k∧Stays w wr∧Hid (lay us (l.drop k) on=lay us l fun _=>none)∧Hid (OnOk us on)∧
       Sat ((RefA r (poolOf refs us 0) (pgsOf us.length on) (quietT false)).star ((LaidRow (.slice aw us.length dw) (laidOf us.length on)).star ((Pr.own h).star F))) wr) (fun i _=>l.length-(intOf i).toNat)
      case atStart=>exact⟨0,fun _=>none,Nat.zero_le _,rfl,HST.out,hQ rfl,hQ (OnOk.none us),HRA.out⟩
      case round=>
       obtain⟨k,on,hkl,rfl,hst,hlay,hon,hs⟩:=hrel;rcases Nat.lt_or_ge k l.length with hlt | hge
       · obtain⟨b,off,ai,ci,ad,cd,rfl,hpg,hcell⟩:=RD.out k hlt
         obtain⟨c0,_⟩:=hcell wr hs.right.right.own;have hlay1:=hlay.out;rw [List.drop_eq_getElem_cons hlt] at hlay1;have HLAY:=hQ hlay1;have HCELL:=hQ hcell;clear hlay hlay1 hcell;generalize l[k]=x at*;have RT:=hQ (rthere_any r (poolOf refs us 0) _ (quietT false) x.no _ wr hs);rw [show (poolOf refs us 0).count x.no=cntL us x.no from count_poolOf refs us x.no] at RT;by_cases hc0:cntL us x.no=0
         · rw [hc0] at RT
           have HC0:=hQ hc0;have HS:=hQ hs;clear hs;go_wp2_with fail
           refine RT.out.mono ?_;rintro e w4 ⟨rfl,rfl⟩;go_wp2;go_ret2;refine⟨hst,.inl ?_⟩;have e:lay us l (fun _=>none)=(15,on):=by rw [← HLAY.out];unfold lay;rw [if_pos HC0.out]
           rw [HLE.out,e,if_pos (show (15:Int)≠0 by decide)];exact⟨(show (15:Int)≠0 by decide),rfl,HS.out.right.right⟩
         obtain⟨hb1,hb2⟩:=cntL_bd hc0;obtain⟨j,hno,hj⟩:∃j:Nat,x.no=(j:Int)+1∧j<us.length:=⟨x.no.toNat-1,by omega,by omega⟩
         have hcp:0<cntL us x.no:=by
          have hm:us.getD j 0∈us:=by simp [hj]
          have h1:cntL us x.no=us.getD j 0:=by unfold cntL;rw [if_pos ⟨hb1,hb2⟩,show x.no.toNat-1=j by omega]
          have:=HPOS.out _ hm
          omega
         rw [decide_eq_true hcp,hno] at RT;rw [hno] at c0;have HC0:=hQ hc0;have HNO:=hQ hno;have HJ:=hQ hj;have hjl:j<(laidOf us.length on).length:=by unfold laidOf;simpa using hj
         obtain⟨al2,cl2,el2,_,hrl⟩:=Row.read hs.right;obtain⟨bw,ebw,hrl2⟩:=hrl (by omega);rw [show (laidOf us.length on).length=us.length by simp [laidOf]] at el2;cases el2;subst ebw
         have hlc:wr.cell? ⟨bw,j,none⟩=some (.bool (on ((j:Int)+1)).isSome):=by
          rw [(hrl2 j (by omega)).1];have:=laidOf_at (on:=on) hj
          rw [List.getD_eq_getElem?_getD,List.getElem?_eq_getElem hjl] at this;rw [List.getElem?_map,List.getElem?_eq_getElem hjl];simpa using this
         have hlf:=(hrl2 j (by omega)).2;clear hrl hrl2 hcp hc0 hb1 hb2 hno;cases hox:on ((j:Int)+1) with
         | some g=>
           rw [hox] at hlc;have HS:=hQ hs;clear hs;go_wp2_with fail
           refine RT.out.mono ?_;rintro e w4 ⟨rfl,rfl⟩;go_wp2;go_ret2;refine⟨hst,.inl ?_⟩;have e:lay us l (fun _=>none)=(10,on):=by rw [← HLAY.out];unfold lay;rw [if_neg HC0.out,if_pos (by rw [HNO.out,hox];rfl)]
           rw [HLE.out,e,if_pos (show (10:Int)≠0 by decide)];exact⟨(show (10:Int)≠0 by decide),rfl,HS.out.right.right⟩
         | none=>
         rw [hox] at hlc;obtain⟨_,c1,c2,c3,c4,c5⟩:=HCELL.out wr hs.right.right.own;have RK:=fun wx hx=>hQ (rcheck_any x.page h _ hpg wx hx)
         have HS:=hQ hs;have HST2:=hQ hst;clear hs hst;go_wp2_with fail
         refine RT.out.mono ?_;rintro e w4 ⟨rfl,rfl⟩;go_wp2_with fail
         refine(RK _ HS.out.right.right.own).out.mono ?_;rintro e w5 ⟨rfl,ho5⟩;have hs5:=HS.out.only ho5;have hst5:=HST2.out.trans ho5.st;clear c0 c1 c2 c3 c4 c5 hlc hlf HS HST2 RK ho5;by_cases hcp:checkP x.page=0
         · have hcn:(checkP x.page != 0)=false:=by rw [bne_eq_false_iff_eq];exact hcp
           have HCP:=hQ hcp;have hfit:=fit_of_check hcp;have HFIT:=hQ hfit;obtain⟨al2,cl2,el2,_,hrl⟩:=Row.read hs5.right;obtain⟨bw2,ebw,hrl2⟩:=hrl (by omega);rw [show (laidOf us.length on).length=us.length by simp [laidOf]] at el2;cases el2;cases ebw;have hlc:∃u,w5.cell? ⟨bw,j,none⟩=some u:=⟨_,(hrl2 j (by omega)).1.trans (by rw [List.getElem?_map,List.getElem?_eq_getElem hjl];rfl)⟩
           obtain⟨u0,hlc⟩:=hlc;have hlf:=(hrl2 j (by omega)).2;have hL:=hs5.perm (Pr.left_comm _ _ _)
           have hL2:Sat ((Row 4 1 (.slice (some ⟨bw,0,none⟩) us.length dw) us.length ((laidOf us.length on).map Value.bool)).star ((RefA r (poolOf refs us 0) (pgsOf us.length on) (quietT false)).star ((Pr.own h).star F))) w5:=by
            have e:=show (laidOf us.length on).length=us.length by simp [laidOf]
            unfold LaidRow at hL;rw [e] at hL;exact hL
           have hL3:=Row.set hL2 j (by simpa [laidOf] using hj) (.bool true);have hz5:bw<w5.heap.size:=World.block_lt_of_cell? _ _ hlc;have hst6:=hst5.setCell ⟨bw,j,none⟩ (.bool true);have HL3:=hQ hL3;have HST6:=hQ hst6;clear hrl hrl2 hL hL2 hL3 hs5 hst5 hst6 hcp hfit;go_wp2_with fail
           generalize w5.setCell ⟨bw,j,none⟩ (.bool true)=w6 at*;clear hlc hlf hz5;obtain⟨x2,ok2,hsR⟩:=refA_iff.1 (HL3.out.perm (Pr.left_comm _ _ _));have hjg:j<(pgsOf us.length on).length:=by simpa [pgsOf] using hj
           obtain⟨b8,d8,epv,_,_⟩:=ref_wr_page ok2.pgs.len hsR hjg
           obtain⟨_,_,q3,_,z,_⟩:=pts7 (hsR.perm (B:=(Pr.pts r (refC refs x2.cv x2.lv x2.pv (quietT false))).star ((IntsRow x2.cv us).star ((BoolsRow x2.lv (lastsOf us)).star ((PgRow x2.pv x2.xs (pgsOf us.length on)).star ((Pr.own x2.h).star ((Row 4 1 (.slice (some ⟨bw,0,none⟩) us.length dw) us.length (((laidOf us.length on).map Value.bool).set j (.bool true))).star ((Pr.own h).star F))))))) (by unfold RefAt;ac_rfl))
           rw [epv,show (pgsOf us.length on).length=us.length by simp [pgsOf]] at q3;have EPV:=hQ epv;obtain⟨_,c1,c2,c3,c4,c5⟩:=HCELL.out w6 hsR.right.right.own
           have CP:=hQ (copypage_any h _ x.page hpg (by have:=HFIT.out.n;omega) (fun y hy=>by have:=fit_keys HFIT.out y hy;omega) (by have:=HFIT.out.d;omega) _ w6.drew ((hsR.drew).perm (B:=(Pr.own h).star ((RefAt r (poolOf refs us 0) (pgsOf us.length on) (quietT false) x2).star ((Row 4 1 (.slice (some ⟨bw,0,none⟩) us.length dw) us.length (((laidOf us.length on).map Value.bool).set j (.bool true))).star F))) (by ac_rfl)))
           have OK2:=hQ ok2;clear hsR ok2 HL3 epv;go_wp2_with fail
           refine wS 134 [0,1,2,3,4,5,6,7,8,9,10] [(11,[12],[0,1,2,3,4,5,6,7,8,9]),(13,[],[])] ?_;refine wpQ_all _ rfl rfl ?_;simp only [pick,pQ];iterate 11 (go_big_quiet_step (fail))
           refine wpQuiet_nil ?_;refine wpRest_act rfl ?_;go_wp2_with fail
           refine CP.out.mono ?_;rintro e w7 ⟨pv,h',rfl,hpv,hs7,st7⟩;obtain⟨vi,vd,rfl,hit,hby⟩:=id hpv;obtain⟨a8,c8,rfl,_,_⟩:=items_rd hit;obtain⟨a9,c9,rfl⟩:=bytes_shape hby
           have H7:Sat ((RefAt r (poolOf refs us 0) (pgsOf us.length on) (quietT false) x2).star ((Pr.own h').star ((Row 4 1 (.slice (some ⟨bw,0,none⟩) us.length dw) us.length (((laidOf us.length on).map Value.bool).set j (.bool true))).star ((Pr.own h).star F)))) w7:=hs7.perm (by ac_rfl);obtain⟨b9,d9,epv,hcl,wr8⟩:=ref_wr_page OK2.out.pgs.len H7 hjg;rw [EPV.out] at epv;cases epv
           obtain⟨g0,u0,k0⟩:=hcl 0 (by omega);obtain⟨g1,u1,k1⟩:=hcl 1 (by omega);obtain⟨g2,u2,k2⟩:=hcl 2 (by omega);obtain⟨g3,u3,k3⟩:=hcl 3 (by omega);obtain⟨g4,u4,k4⟩:=hcl 4 (by omega);rw [Nat.add_zero] at g0 k0;have W8:=hQ (wr8 x.page (.slice a8 x.page.items.length c8) (.slice a9 x.page.data.length c9));have HST7:=hQ (HST6.out.drew.trans st7)
           have q37:w7.cell? ⟨r,3,none⟩=some (.slice (some ⟨b8,0,none⟩) us.length d8):=by
            have:=(pts7 (H7.perm (B:=(Pr.pts r (refC refs x2.cv x2.lv x2.pv (quietT false))).star ((IntsRow x2.cv us).star ((BoolsRow x2.lv (lastsOf us)).star ((PgRow x2.pv x2.xs (pgsOf us.length on)).star ((Pr.own x2.h).star ((Pr.own h').star ((Row 4 1 (.slice (some ⟨bw,0,none⟩) us.length dw) us.length (((laidOf us.length on).map Value.bool).set j (.bool true))).star ((Pr.own h).star F)))))))) (by unfold RefAt;ac_rfl))).2.2.1
            rw [EPV.out,show (pgsOf us.length on).length=us.length by simp [pgsOf]] at this;exact this
           have zk:=World.block_lt_of_cell? _ _ k0;have zr:=World.block_lt_of_cell? _ _ q37;clear q3 z c1 c2 c3 c4 c5;obtain⟨_,c1,c2,c3,c4,c5⟩:=HCELL.out w7 H7.right.right.right.own;have HPV:=hQ hpv;clear hs7 st7 H7 hcl wr8 hit hby CP hpv;go_wp2;refine onN_mk ?_;refine wpQ_all _ rfl rfl ?_;simp only [pick,pQ];iterate 1 (go_big_quiet_step (fail))
           refine wpQuiet_nil ⟨?_,?_⟩
           · exact cQ
           refine wpRest_act rfl ?_;go_wp2;refine onN_mk (wpQ_nil ⟨chk_nil,wpRest_nil ?_⟩);have W9:=W8.out;have T9:=((((HST7.out.setCell ⟨b8,j*5,none⟩ (.int .i64 x.page.kind)).setCell ⟨b8,j*5+1,none⟩ (.int .i64 x.page.level)).setCell ⟨b8,j*5+2,none⟩ (.slice a8 x.page.items.length c8)).setCell ⟨b8,j*5+3,none⟩ (.slice a9 x.page.data.length c9)).setCell ⟨b8,j*5+4,none⟩ (.int .i64 x.page.next)
           generalize (((((w7.setCell ⟨b8,j*5,none⟩ (.int .i64 x.page.kind)).setCell ⟨b8,j*5+1,none⟩ (.int .i64 x.page.level)).setCell ⟨b8,j*5+2,none⟩ (.slice a8 x.page.items.length c8)).setCell ⟨b8,j*5+3,none⟩ (.slice a9 x.page.data.length c9)).setCell ⟨b8,j*5+4,none⟩ (.int .i64 x.page.next))=w8 at*;clear g0 g1 g2 g3 g4 k0 k1 k2 k3 k4 c1 c2 c3 c4 c5 q37 zk zr W8;go_wp2;go_roundw
           case rel=>
            have h10:=ref_put OK2.out HPV.out HFIT.out W9;rw [pgsOf_put] at h10;refine⟨k+1,fun m=>if m=(j:Int)+1 then some x.page else on m,by omega,congrArg (Value.int .i64) (by omega),T9,hQ ?_,hQ ?_,?_⟩
            · rw [← HLAY.out]
              conv=>rhs;unfold lay
              rw [if_neg HC0.out,if_neg (by rw [HNO.out,hox];decide),if_neg (by rw [HCP.out];decide),HNO.out]
            · have:=hon.out.put HC0.out HCP.out
              rw [HNO.out] at this;exact this
            · have e7:=laidOf_put (n:=us.length) (on:=on) (j:=j) x.page
              unfold LaidRow;rw [← e7,List.length_set,show (laidOf us.length on).length=us.length by simp [laidOf],List.map_set];exact h10
           case measure=>simp [intOf];omega
         · have hcn:(checkP x.page != 0)=true:=by rw [bne_iff_ne];exact hcp
           have HCP:=hQ hcp;have HS:=hQ hs5;clear hs5 hcp;go_wp2;go_ret2;refine⟨hst5,.inl ?_⟩;have e:lay us l (fun _=>none)=(checkP x.page,on):=by rw [← HLAY.out];unfold lay;rw [if_neg HC0.out,if_neg (by rw [HNO.out,hox];decide),if_pos HCP.out]
           rw [HLE.out,e,if_pos HCP.out];exact⟨HCP.out,rfl,HS.out.right.right⟩
       · have hkl2:k=l.length:=by omega
         subst hkl2;have hlay1:=hlay.out;rw [List.drop_length] at hlay1;have HLAY:=hQ (show lay us l (fun _=>none)=(0,on) from hlay1.symm);have HS:=hQ hs;have HST2:=hQ hst;have hll:(laidOf us.length on).length=us.length:=by simp [laidOf]
         have HLL:=hQ hll;clear hlay hlay1 hs hst hll;go_wp2_with fail
         go_loopw [15] (fun i wz=> ∃k:Nat,k≤us.length∧i= .int .i64 k∧wz=wr∧Hid (∀i,i<k→us.getD i 0≠0→on ((i:Int)+1)≠none)) (fun i _=>us.length-(intOf i).toNat)
         case atStart=>exact⟨0,Nat.zero_le _,rfl,rfl,hQ (fun i hi=>absurd hi (by omega))⟩
         case round=>
          obtain⟨k,hk3,rfl,rfl,hall⟩:=hrel;rcases Nat.lt_or_ge k us.length with hlt | hge
          · obtain⟨b,off,rfl,c1⟩:=RC.out k hlt
            have q0:=c1 wr HS.out.right.right.own;have hm:us.getD k 0∈us:=by simp [hlt]
            have hc0:=HPOS.out _ hm;obtain⟨al2,cl2,el2,_,hrl⟩:=Row.read HS.out.right;obtain⟨bw,ebw,hrl2⟩:=hrl (by rw [HLL.out];omega);rw [HLL.out] at el2;cases el2;subst ebw
            have hlc:wr.cell? ⟨bw,k,none⟩=some (.bool (on ((k:Int)+1)).isSome):=by
             rw [(hrl2 k (by rw [HLL.out];omega)).1];have:=laidOf_at (on:=on) hlt
             have hjl:k<(laidOf us.length on).length:=by rw [HLL.out];exact hlt
             rw [List.getD_eq_getElem?_getD,List.getElem?_eq_getElem hjl] at this;rw [List.getElem?_map,List.getElem?_eq_getElem hjl];simpa using this
            have HD:=hQ (show us.getD k 0=us.getD k 0 from rfl);obtain⟨c,hc⟩:∃c,c=us.getD k 0:=⟨_,rfl⟩;rw [← hc] at q0 hc0;have HC:=hQ hc;clear c1 hm hrl hrl2 HD hc;by_cases hz:c=0
            · subst hz
              go_wp2;go_roundw
              case rel=>
               refine⟨k+1,by omega,congrArg (Value.int .i64) (by omega),trivial,hQ fun i hi hne=> ?_⟩;by_cases he:i=k
               · subst he;exact absurd HC.out.symm hne
               · exact hall.out i (by omega) hne
              case measure=>simp [intOf];omega
            · have hp:0<c:=by omega
              cases hox:on ((k:Int)+1) with
              | none=>
                rw [hox] at hlc;go_wp2;go_ret2;refine⟨HST2.out,.inl ?_⟩
                have hlk:lacks us on=true:=lacks_iff.2 ⟨(k:Int)+1,held_mem.2 (by
                 unfold cntL
                 rw [if_pos (by omega),show ((k:Int)+1).toNat-1=k by omega, ← HC.out]
                 exact hz),hox⟩
                rw [HLE.out,HLAY.out,if_neg (show ¬(0:Int)≠0 by decide),if_pos hlk];exact⟨(show (9:Int)≠0 by decide),rfl,HS.out.right.right⟩
              | some g=>
                rw [hox] at hlc;go_wp2;go_roundw
                case rel=>
                 refine⟨k+1,by omega,congrArg (Value.int .i64) (by omega),trivial,hQ fun i hi hne=> ?_⟩;by_cases he:i=k
                 · subst he;rw [hox];exact fun h=>by cases h
                 · exact hall.out i (by omega) hne
                case measure=>simp [intOf];omega
          · have hkn3:k=us.length:=by omega
            subst hkn3;have HALL:=hQ hall.out;clear hall;go_wp2;go_ret2;refine⟨HST2.out,.inr ?_⟩
            have hlk:lacks us on=false:=by
             cases hq:lacks us on with
             | false=>rfl
             | true=>
               obtain⟨y,hy,hn9⟩:=lacks_iff.1 hq;have hcy:=held_mem.1 hy;obtain⟨y1,y2⟩:=cntL_bd hcy;unfold cntL at hcy;rw [if_pos ⟨y1,y2⟩] at hcy;have:=HALL.out (y.toNat-1) (by omega) hcy
               rw [show (((y.toNat-1:Nat):Int))+1=y by omega] at this;exact absurd hn9 this
            rw [HLE.out,HLAY.out,if_neg (show ¬(0:Int)≠0 by decide),if_neg (by rw [hlk];decide)];exact⟨rfl,r,rfl,(HS.out.perm (Pr.left_comm _ _ _)).right⟩
end Go.Proofs.YtiegeadmgpanoaaGreatDoor.P6
namespace Go.Proofs.YtiegeadmgpanoaaGreatDoor.Q6
open ChangeShapes WideShapes ChangeAt RowKit Sl Cop D2 F3 K3 P3 G2 J2 Q3 V3 G4 G5 X3 M5 P5 F6 G6 J6 K6 M6 N6
theorem wpList_append_slK {P:Program}{F:Pr}{w:World}{ops:Array Oper}{rest:List Oper}{o:Oper}{a:Act}{Q:Exit→Act→World→Prop}(hgd:o.guard=none)(s x:Operand)(t:TypeId)
 (ho:o.op= .call { callee:= .builtin .append,args:= #[s,x],argTypes:= #[t,t] })
 (e:TypeId) (i:TypeInfo) (z:Value) (size bytes:Nat) (ht:P.underlying t=some (.slice e)) (hi:P.info? e=some i) (hz:i.zero=some z)
 (hsize:i.size=size) (hby:i.bytes=bytes) (hzs:z.cells.size=size)
 (v:Value) (n:Nat) (xs:List Value) (hs:a.eval s=v) (hown:Sat ((Row e size v n xs).star F) w)
 (ad:Addr) (m c:Nat) (news:List Value) (hx:a.eval x= .slice (some ad) m c) (hl:news.length=m*size) (hnews:∀j u,news[j]? =some u→w.cell? (ad.add j)=some u) (h1:∀u∈news,u.oneCell'=true)
 (h63:n+m≤maxLen) (hbytes:(n+m)*bytes≤140737488355328)
 (h:∀v' w',Sat ((Row e size v' (n+m) (xs++news)).star F) w'→w.grownBy w' v.ownBlock→∀K:Act→Prop,(∀a',wpList P ops Q rest a' w'→K a')→K (a.put o.dst v')):wpList P ops Q (o :: rest) a w:=
 wpList_append_sl hgd s x t ho e i z size bytes ht hi hz hsize hby hzs v n xs hs hown ad m c news hx hl hnews h1 h63 hbytes fun v' w' h2 h3 _=>h v' w' h2 h3 _ fun _ h=>h
end Go.Proofs.YtiegeadmgpanoaaGreatDoor.Q6
namespace Go.Proofs.YtiegeadmgpanoaaGreatDoor.U6
open ChangeShapes WideShapes ChangeAt RowKit Sl Cop F3 P3 G2 J2 N2 Q3 V3 M4 K5 X3 P6
def markB(i:Nat):Int:=bits .xor .i64 165 (i:Int) % 256
def spareL(l:List Int):List Int:=l++(List.range 64).map fun i=>markB (l.length+i)
abbrev WholeRow(b:Nat)(l:List Int):Pr:=Row 5 1 (.slice (some ⟨b,0,none⟩) (l.length+64) (l.length+64)) (l.length+64) ((spareL l).map (Value.int .u8))
end Go.Proofs.YtiegeadmgpanoaaGreatDoor.U6
namespace Go.Proofs.YtiegeadmgpanoaaGreatDoor.V6
open ChangeShapes WideShapes ChangeAt RowKit Sl Cop D2 F3 P3 G2 J2 Q3 V3 G4 G5 X3 M5 J4 F6 G6 J6 P6
theorem ref_hush {r:Nat}{s:PoolS}{gs:List PageV}{F:Pr}{w:World}(h:Sat ((RefA r s gs (quietT false)).star F) w):
 w.cell? ⟨r,6,none⟩=some (.bool false)∧w.frozen? ⟨r,6,none⟩=false∧r<w.heap.size∧Sat ((RefA r s gs (quietT true)).star F) (w.setCell ⟨r,6,none⟩ (.bool true)):=by
 obtain⟨x,ok,h1⟩:=refA_iff.1 h;have h2:Sat ((Pr.pts r (refC s.refs x.cv x.lv x.pv (quietT false))).star ((IntsRow x.cv s.counts).star ((BoolsRow x.lv s.last).star ((PgRow x.pv x.xs gs).star ((Pr.own x.h).star F))))) w:=h1.perm (by unfold RefAt;ac_rfl);refine⟨by rw [cell_of_heap h2.pts_heap];rfl,frozen_of_heap h2.pts_heap 6,h2.lt,refA_iff.2 ⟨x,⟨ok.pgs,ok.ll,ok.gl,ok.n2,ok.c0,ok.fit⟩,?_⟩⟩
 have h3:Sat ((Pr.pts r (refC s.refs x.cv x.lv x.pv (quietT true))).star ((IntsRow x.cv s.counts).star ((BoolsRow x.lv s.last).star ((PgRow x.pv x.xs gs).star ((Pr.own x.h).star F))))) (w.setCell ⟨r,6,none⟩ (.bool true)):=h2.setCell (i:=6) (.bool true);exact h3.perm (by unfold RefAt;ac_rfl)
abbrev imgV(refs:Int)(vc vl vt:Value):Value:= .agg #[.int .i64 refs,vc,vl,vt]
abbrev imgC(refs:Int)(vc vl vt:Value):Obj:= .cells #[.int .i64 refs,vc,vl,vt] 26
theorem image_any(refs:Int)(h:Hp)(vc vl:Value)(at':Option Addr)(nt ct:Nat)(cs:List Int)(l:List NumV)(hx:Ints h vc cs)(hl:NumsIn h vl l)(hn:l.length≤9223372036854775807)(F:Pr)(w:World)(hF:Sat ((Pr.own h).star F) w):
 Calls Tryz.prog 39 #[imgV refs vc vl (.slice at' nt ct)] w fun e w'=>Stays w w'∧
  (((loadE refs cs l).1≠0∧e= .returned (.pointer none)∧Sat ((Pr.own h).star F) w')∨
   ((loadE refs cs l).1=0∧∃r,e= .returned (.pointer (some ⟨r,0,none⟩))∧Sat ((RefA r (poolOf refs cs 0) (pgsOf cs.length (loadE refs cs l).2) (quietT true)).star ((Pr.own h).star F)) w')):=by
 obtain⟨al,cl,rfl,_⟩:=nums_rd hl;obtain⟨ac,cc,rfl,_⟩:=ints_rd hx;have hs0:=(OwnL.in1 hF).alloc (imgC refs (.slice ac cs.length cc) (.slice al l.length cl) (.slice at' nt ct));have RL:=hQ (rload_big refs h _ _ cs l hx hl hn _ _ (hs0.pull1 (A1:=Pr.own h)));have HST:=hQ ((Stays.refl w).alloc (imgC refs (.slice ac cs.length cc) (.slice al l.length cl) (.slice at' nt ct)));clear hs0 hF hx hl
 generalize loadE refs cs l=LE at*;go_enter Tryz.func39,Tryz.ntmps39
 go_wp2_with fail
 refine RL.out.mono ?_;rintro e w1 ⟨st1,(⟨hne,rfl,hs1⟩ | ⟨h0,r,rfl,hs1⟩)⟩
 · have hs2:=OwnL.of1 hs1
   have HE:=hQ ((hs2.to (M:= [Pr.own h,F])).sat.perm (B:=(Pr.own h).star F) (by simp only [starL,Pr.star_emp]));have HST1:=hQ (HST.out.trans st1);have hb:(LE.1 != 0)=true:=bne_iff_ne.2 hne;have HN:=hQ hne;clear hs1 hs2 st1 hne RL HST;go_wp2;go_ret;exact⟨HST1.out,.inl ⟨HN.out,rfl,HE.out⟩⟩
 · obtain⟨c6,f6,zr,hs2⟩:=ref_hush hs1
   have hs3:=OwnL.of2 hs2;have HE:=hQ ((hs3.to (M:= [RefA r (poolOf refs cs 0) (pgsOf cs.length LE.2) (quietT true),Pr.own h,F])).sat.perm (B:=(RefA r (poolOf refs cs 0) (pgsOf cs.length LE.2) (quietT true)).star ((Pr.own h).star F)) (by simp only [starL,Pr.star_emp]));have HST1:=hQ ((HST.out.trans st1).setCell ⟨r,6,none⟩ (.bool true));have H0:=hQ h0;clear hs1 hs2 hs3 st1 h0 RL HST;go_wp2;go_ret
   exact⟨HST1.out,.inr ⟨H0.out,r,rfl,HE.out⟩⟩
end Go.Proofs.YtiegeadmgpanoaaGreatDoor.V6
namespace Go.Proofs.YtiegeadmgpanoaaGreatDoor.W6
open ChangeShapes WideShapes ChangeAt RowKit Sl Cop F3 P3 G2 J2 N2 Q3 V3 M4 K5 X3 G5 E4 P6 J5 J4
def markI(i:Nat):Int:= -7-(i:Int)
def spareI(l:List Int):List Int:=l++(List.range 64).map fun i=>markI (l.length+i)
abbrev WholeI(b:Nat)(l:List Int):Pr:=Row 3 1 (.slice (some ⟨b,0,none⟩) (l.length+64) (l.length+64)) (l.length+64) ((spareI l).map (Value.int .i64))
end Go.Proofs.YtiegeadmgpanoaaGreatDoor.W6
