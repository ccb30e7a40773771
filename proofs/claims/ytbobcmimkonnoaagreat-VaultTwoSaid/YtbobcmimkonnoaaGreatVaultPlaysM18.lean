/- Both vaults' Read at any page; CopyInts, Counts; the conditions stand as hypotheses. -/
import Derived.Test.YtbobcmimkonnoaaGreatVaultPlaysM17
import Derived.Test.YtbobcmimkonnoaaGreatVaultPlaysM15
import Derived.Test.YtbobcmimkonnoaaGreatVaultPlaysM08
import Derived.Test.YtbobcmimkonnoaaGreatVaultPlaysM09
import Derived.Test.YtbobcmimkonnoaaGreatVaultPlaysM10
import Derived.BigQuiet
import Derived.Test.YtbobcmimkonnoaaGreatVaultPlaysM01
set_option maxRecDepth 100000
set_option maxHeartbeats 16000000
namespace Go.Proofs.YtbobcmimkonnoaaGreat.F6
open ChangeShapes WideShapes ChangeAt RowKit Sl Cop D2 K3 N3 Q3 G2 M2 U3 Y3 Z3 D4 E4 F4 J4 K4 L5 W5 X3 X5 Y5 G4 Z5 E6
theorem fit_keys {g:PageV}(h:Fit g):∀y∈g.items,y.key.length≤65536∧y.value.length≤65536:=fun y hy=>by have:=h.k y hy;omega
def pgAt(gs:List PageV)(n:Int):PageV:=gs.getD (n.toNat-1) zeroP
theorem rread_none(r:Nat)(s:PoolS)(gs:List PageV)(hush:RTail)(n:Int)(F:Pr)(w:World)(hF:Sat ((RefA r s gs hush).star F) w)(h0:s.count n=0):
 Calls Tryz.prog 45 #[.pointer (some ⟨r,0,none⟩),.int .i64 n] w fun e w'=>e= .returned (.tuple #[zeroPage,.int .i64 15])∧Only w w':=by
 have ho:Only w (w.alloc (pageC 0 0 (.slice none 0 0) (.slice none 0 0) 0)):=(Only.refl w).alloc _
 have hh:=heap_new w (pageC 0 0 (.slice none 0 0) (.slice none 0 0) 0)
 have C:=hQ (rthere_any r s gs hush n _ _ (hF.only ho))
 rw [h0] at C
 have HH:=hQ hh
 have HO:=hQ ho
 clear hF hh ho
 go_enter Tryz.func45,Tryz.ntmps45
 go_wp2_with fail
 refine C.out.mono ?_
 rintro e w1 ⟨rfl,rfl⟩
 go_wp2
 refine bodyPost_ret (results_cell_row_tmp rfl _ _ w.heap.size _ rfl (run_loadVar_row _ w.heap.size _ _ _ _ _ HH.out Tryz.underlying31 rfl infoPage)) rfl ?_
 exact⟨rfl,HO.out⟩
theorem copyints_any(h:Hp)(v:Value)(l:List Int)(F:Pr)(w:World)(hF:Sat ((Pr.own h).star F) w)(hx:Ints h v l)(hn:l.length≤65536):
 Calls Tryz.prog 80 #[v] w fun e w'=> ∃v',e= .returned v'∧Sat ((IntsRow v' l).star ((Pr.own h).star F)) w'∧Stays w w':=by
 obtain⟨a,c,rfl,r1⟩:=ints_rd hx
 obtain⟨i0,hi,hz0,hz1,hz2⟩:=info_parts infoInt
 have hmk:∀wx:World,(Instr.makeSlice 40 (.int .i64 0) (.int .i64 (l.length:Int))).run Tryz.prog wx= .ok (.slice (some ⟨wx.heap.size,0,none⟩) 0 l.length) (wx.alloc (.cells (madeCells #[.int .i64 0] l.length) 3)):=by
  intro wx
  have:=run_make (P:=Tryz.prog) wx 40 3 i0 (.int .i64 0) Tryz.underlying40 hi hz0 .i64 .i64 0 l.length (by omega) (by omega) (by rw [hz2];omega) (by omega)
  rw [hz1,Int.toNat_natCast,Nat.mul_one] at this
  exact this
 have h2:=hQ (row_room 3 (.int .i64 0) l.length (by simp only [maxLen];omega) hF)
 have R1:=hQ r1
 clear hF hx r1
 go_enter Tryz.func80,Tryz.ntmps80
 go_wp2
 go_loopw [3,4] (fun o i wr=> ∃k:Nat,k≤l.length∧i= .int .i64 k∧Stays w wr∧Sat ((IntsRow o (l.take k)).star ((Pr.own h).star F)) wr) (fun _ i _=>l.length-(intOf i).toNat)
 case atStart=>exact⟨0,Nat.zero_le _,rfl,(Stays.refl w).alloc _,h2.out⟩
 case round=>
  obtain⟨k,hk,rfl,hst,hs⟩:=hrel
  have hlt':(l.take k).length=k:=by rw [List.length_take];omega
  obtain⟨ao,co,eo,_,_⟩:=Row.read hs
  rw [hlt'] at eo
  subst eo
  rcases Nat.lt_or_ge k l.length with hlt | hge
  · obtain⟨b,off,rfl,c1⟩:=R1.out k hlt
    have q1:=c1 wr hs.right.own
    have hs1:Sat ((Row 3 1 (.slice ao k co) k ((l.take k).map (Value.int .i64))).star ((Pr.own h).star F)) wr:=by
     have:=hs
     unfold IntsRow at this
     rw [hlt'] at this
     exact this
    have H1:=hQ (hs1.alloc (.cells #[.int .i64 (l.getD k 0)] 3)).right
    have hnew:=hQ (new_cells wr [.int .i64 (l.getD k 0)] 3 _ rfl)
    have HT:=hQ (show l.take (k+1)=l.take k++ [l.getD k 0] by rw [List.take_succ_eq_append_getElem hlt];simp [hlt])
    have zb:=World.block_lt_of_cell? _ _ q1
    clear hs hs1 c1
    generalize l.getD k 0=x at*
    go_wp2_with (at_builtin;refine wpList_append_sl rfl _ _ _ rfl 3 i0 (.int .i64 0) 1 8 Tryz.underlying40 hi hz0 hz1 hz2 rfl _ _ _ rfl H1.out ⟨wr.heap.size,0,none⟩ 1 1 [.int .i64 x] rfl rfl hnew.out (by simp [Value.oneCell']) (by simp only [maxLen];omega) (by omega) ?_;intro v7 w4 hs4 hg4 _;obtain⟨a7',c7',e7',_,_⟩:=Row.read hs4;subst e7';have HS4:=hQ hs4;have HG4:=hQ hg4;clear hs4 hg4)
    refine⟨⟨k+1,by omega,congrArg (Value.int .i64) (by omega),(hst.alloc _).of_grown HG4.out,?_⟩,by simp [intOf];omega⟩
    have hl2:(l.take (k+1)).length=k+1:=by rw [List.length_take];omega
    unfold IntsRow
    rw [hl2,HT.out,List.map_append]
    exact HS4.out
  · have hkl:k=l.length:=by omega
    subst hkl
    have HS:=hQ hs
    clear hs
    go_wp2
    go_ret
    refine⟨_,rfl,?_,hst⟩
    have:=HS.out
    rw [List.take_length] at this
    exact this
end Go.Proofs.YtbobcmimkonnoaaGreat.F6
namespace Go.Proofs.YtbobcmimkonnoaaGreat.G6
open ChangeShapes WideShapes ChangeAt RowKit Sl Cop D2 K3 N3 Q3 G2 M2 U3 Y3 Z3 F4 L5 W5 X3 X5 Y5 M5 G4 Z5 E6 F6
theorem infoPageF:(Tryz.prog.info? 31).map (fun i=>(i.zero,i.size,i.bytes))=some (some (.agg #[.int .i64 0,.int .i64 0,.slice none 0 0,.slice none 0 0,.int .i64 0]),5,72):=by kernel_rfl
theorem refsAre_any(r:Int)(w:World):Calls Tryz.prog 93 #[.int .i64 r] w fun e w'=>e= .returned (.bool (decide (2≤r∧r<65536)))∧w=w':=by
 by_cases h1:2≤r
 · go_enter Tryz.func93,Tryz.ntmps93
   go_wp2
   go_ret
   simp [h1]
 · go_enter Tryz.func93,Tryz.ntmps93
   go_wp2
   go_ret
   simp;omega
theorem rep_snoc {α:Type}(a:α)(k:Nat):List.replicate k a++ [a]=List.replicate (k+1) a:=by
 rw [List.replicate_succ']
abbrev nilP:Value × Value:=(.slice none 0 0,.slice none 0 0)
theorem zip_rep {α β:Type}(a:α)(b:β)(k:Nat):(List.replicate k a).zip (List.replicate k b)=List.replicate k (a,b):=by
 induction k with
 | zero=>rfl
 | succ k ih=>simp [List.replicate_succ,ih]
theorem pg_snoc(k:Nat):((List.replicate k nilP).zip (List.replicate k zeroP)).flatMap pgCells++ [.int .i64 0,.int .i64 0,.slice none 0 0,.slice none 0 0,.int .i64 0]=((List.replicate (k+1) nilP).zip (List.replicate (k+1) zeroP)).flatMap pgCells:=by
 rw [zip_rep,zip_rep,List.replicate_succ',List.flatMap_append]
 simp [pgCells]
def NewAt(r:Nat)(refs:Int)(cv lv pv:Value)(a b c:Nat):Pr:=
 (Pr.pts r (refC refs cv lv pv (quietT false))).star ((Row 3 1 cv a (List.replicate a (.int .i64 0))).star ((Row 4 1 lv b (List.replicate b (.bool false))).star (Row 31 5 pv c (((List.replicate c nilP).zip (List.replicate c zeroP)).flatMap pgCells))))
theorem pts7 {b T:Nat}{v0 v1 v2 v3 v4 v5 v6:Value}{F:Pr}{w:World}(h:Sat ((Pr.pts b (.cells #[v0,v1,v2,v3,v4,v5,v6] T)).star F) w):
 w.cell? ⟨b,1,none⟩=some v1∧w.cell? ⟨b,2,none⟩=some v2∧w.cell? ⟨b,3,none⟩=some v3∧(w.frozen? ⟨b,1,none⟩=false∧w.frozen? ⟨b,2,none⟩=false∧w.frozen? ⟨b,3,none⟩=false)∧b<w.heap.size∧w.cell? ⟨b,0,none⟩=some v0:=by
 have h1:=h.pts_heap
 exact⟨by rw [cell_of_heap h1];rfl,by rw [cell_of_heap h1];rfl,by rw [cell_of_heap h1];rfl,⟨frozen_of_heap h1 1,frozen_of_heap h1 2,frozen_of_heap h1 3⟩,h.lt,by rw [cell_of_heap h1];rfl⟩
abbrev poolN(refs:Int)(n:Nat):PoolS:= { refs:=refs,counts:=List.replicate n 0,last:=List.replicate n false,acts:= [],floor:=0 }
theorem rnew_bad(pages refs:Int)(h:rangeOk pages refs=false)(w:World):
 Calls Tryz.prog 33 #[.int .i64 pages,.int .i64 refs] w fun e w'=>e= .returned (.tuple #[.pointer none,.int .i64 1])∧w=w':=by
 have hb:¬(1≤pages∧pages≤65536∧2≤refs∧refs<65536):=fun h2=>by rw [rangeOk_iff.2 h2] at h;cases h
 clear h
 by_cases h1:pages<1
 · go_enter Tryz.func33,Tryz.ntmps33
   go_wp2
   go_ret2
   exact⟨rfl,rfl⟩
 · by_cases h2:65536<pages
   · go_enter Tryz.func33,Tryz.ntmps33
     go_wp2
     go_ret2
     exact⟨rfl,rfl⟩
   · have RA:=hQ (refsAre_any refs w)
     rw [decide_eq_false (show ¬(2≤refs∧refs<65536) by omega)] at RA
     go_enter Tryz.func33,Tryz.ntmps33
     go_wp2_with fail
     refine RA.out.mono ?_
     rintro e w1 ⟨rfl,rfl⟩
     go_wp2
     go_ret2
     exact⟨rfl,rfl⟩
theorem rnew_any(n:Nat)(refs:Int)(h:rangeOk n refs=true)(F:Pr)(w:World)(hF:Sat F w):
 Calls Tryz.prog 33 #[.int .i64 n,.int .i64 refs] w fun e w'=>Stays w w'∧
  ∃r,e= .returned (.tuple #[.pointer (some ⟨r,0,none⟩),.int .i64 0])∧Sat ((RefA r (poolN refs n) (List.replicate n zeroP) (quietT false)).star F) w':=by
 obtain⟨n1,n2,n3,n4⟩:=rangeOk_iff.1 h
 have hn:n≤65536:=by omega
 have RA:=hQ (refsAre_any refs w)
 rw [decide_eq_true (show 2≤refs∧refs<65536 by omega)] at RA
 have h1:=hF.alloc (refC refs (.slice none 0 0) (.slice none 0 0) (.slice none 0 0) (quietT false))
 have H1:=hQ h1
 obtain⟨i0,hi,hz0,hz1,hz2⟩:=info_parts infoInt
 obtain⟨j0,hj,hy0,hy1,hy2⟩:=info_parts infoBool
 obtain⟨k0,hk,hx0,hx1,hx2⟩:=info_parts infoPageF
 clear h1 hF h n3 n4
 go_enter Tryz.func33,Tryz.ntmps33
 go_wp2_with fail
 refine RA.out.mono ?_
 rintro e w1 ⟨rfl,rfl⟩
 go_wp2_with fail
 go_loopw [7] (fun i wr=> ∃(k:Nat) (cv lv pv:Value),k≤n∧i= .int .i64 k∧Stays w wr∧Sat ((NewAt w.heap.size refs cv lv pv k k k).star F) wr) (fun i _=>n-(intOf i).toNat)
 case atStart=>
  refine⟨0,.slice none 0 0,.slice none 0 0,.slice none 0 0,Nat.zero_le _,rfl,(Stays.refl w).alloc _,?_⟩
  unfold NewAt
  show Sat (((Pr.pts w.heap.size _).star ((Row _ 1 (.slice none 0 0) 0 []).star ((Row _ 1 (.slice none 0 0) 0 []).star (Row _ 5 (.slice none 0 0) 0 [])))).star F) _
  rw [Row.nil,Row.nil,Row.nil,Pr.emp_star,Pr.star_emp,Pr.star_emp]
  exact H1.out
 case round=>
  obtain⟨k,cv,lv,pv,hkn,rfl,hst,hs⟩:=hrel
  rcases Nat.lt_or_ge k n with hlt | hge
  · have e1:Sat ((Row 3 1 cv k (List.replicate k (.int .i64 0))).star ((Pr.pts w.heap.size (refC refs cv lv pv (quietT false))).star ((Row 4 1 lv k (List.replicate k (.bool false))).star ((Row 31 5 pv k (((List.replicate k nilP).zip (List.replicate k zeroP)).flatMap pgCells)).star F)))) wr:=hs.perm (by unfold NewAt;ac_rfl)
    obtain⟨a1,c1,rfl,_,_⟩:=Row.read e1
    obtain⟨a2,c2,rfl,_,_⟩:=Row.read e1.right.right
    obtain⟨a3,c3,rfl,_,_⟩:=Row.read e1.right.right.right
    obtain⟨q1,q2,q3,⟨f1,f2,f3⟩,z,_⟩:=pts7 e1.right
    have A1:=hQ (e1.alloc (.cells #[.int .i64 0] 3)).right
    have hnew:=hQ (new_cells wr [.int .i64 0] 3 _ rfl)
    have HST:=hQ hst
    clear hs e1 hst
    go_wp2_with (first
     | (at_builtin
        refine wpList_append_sl rfl _ _ _ rfl 3 i0 (.int .i64 0) 1 8 Tryz.underlying40 hi hz0 hz1 hz2 rfl _ _ _ rfl A1.out ⟨wr.heap.size,0,none⟩ 1 1 [.int .i64 0] rfl rfl hnew.out (by simp [Value.oneCell']) (by simp only [maxLen];omega) (by omega) ?_
        intro v4 w4 hs4 hg4 _
        obtain⟨a4,c4,e4,_,_⟩:=Row.read hs4
        subst e4
        obtain⟨q1,q2,q3,⟨f1,f2,f3⟩,z4⟩:=pts7 hs4.right
        have s4:=(hs4.perm (Pr.left_comm _ _ _)).setCell (i:=1) (.slice a4 (k+1) c4)
        have B1:Sat ((Row 4 1 (.slice a2 k c2) k (List.replicate k (.bool false))).star ((Pr.pts w.heap.size (refC refs (.slice a4 (k+1) c4) (.slice a2 k c2) (.slice a3 k c3) (quietT false))).star ((Row 3 1 (.slice a4 (k+1) c4) (k+1) (List.replicate k (.int .i64 0)++ [.int .i64 0])).star ((Row 31 5 (.slice a3 k c3) k (((List.replicate k nilP).zip (List.replicate k zeroP)).flatMap pgCells)).star F)))) (w4.setCell ⟨w.heap.size,1,none⟩ (.slice a4 (k+1) c4)):=s4.perm (by rw [Pr.left_comm];ac_rfl)
        have A2:=hQ (B1.alloc (.cells #[.bool false] 4)).right
        have hnew2:=hQ (new_cells (w4.setCell ⟨w.heap.size,1,none⟩ (.slice a4 (k+1) c4)) [.bool false] 4 w4.heap.size (by simp [World.setCell]))
        have HST4:=hQ (((HST.out.alloc _).of_grown hg4).setCell ⟨w.heap.size,1,none⟩ (.slice a4 (k+1) c4))
        clear hs4 hg4 s4 B1)
     | (at_builtin
        refine wpList_append_sl rfl _ _ _ rfl 4 j0 (.bool false) 1 1 Tryz.underlying47 hj hy0 hy1 hy2 rfl _ _ _ rfl A2.out ⟨w4.heap.size,0,none⟩ 1 1 [.bool false] rfl rfl hnew2.out (by simp [Value.oneCell']) (by simp only [maxLen];omega) (by omega) ?_
        intro v5 w5 hs5 hg5 _
        obtain⟨a5,c5,e5,_,_⟩:=Row.read hs5
        subst e5
        obtain⟨q1,q2,q3,⟨f1,f2,f3⟩,z5⟩:=pts7 hs5.right
        have s5:=(hs5.perm (Pr.left_comm _ _ _)).setCell (i:=2) (.slice a5 (k+1) c5)
        have B2:Sat ((Row 31 5 (.slice a3 k c3) k (((List.replicate k nilP).zip (List.replicate k zeroP)).flatMap pgCells)).star ((Pr.pts w.heap.size (refC refs (.slice a4 (k+1) c4) (.slice a5 (k+1) c5) (.slice a3 k c3) (quietT false))).star ((Row 3 1 (.slice a4 (k+1) c4) (k+1) (List.replicate k (.int .i64 0)++ [.int .i64 0])).star ((Row 4 1 (.slice a5 (k+1) c5) (k+1) (List.replicate k (.bool false)++ [.bool false])).star F)))) (w5.setCell ⟨w.heap.size,2,none⟩ (.slice a5 (k+1) c5)):=(show Sat ((Pr.pts w.heap.size (refC refs (.slice a4 (k+1) c4) (.slice a5 (k+1) c5) (.slice a3 k c3) (quietT false))).star ((Row 4 1 (.slice a5 (k+1) c5) (k+1) (List.replicate k (.bool false)++ [.bool false])).star ((Row 3 1 (.slice a4 (k+1) c4) (k+1) (List.replicate k (.int .i64 0)++ [.int .i64 0])).star ((Row 31 5 (.slice a3 k c3) k (((List.replicate k nilP).zip (List.replicate k zeroP)).flatMap pgCells)).star F)))) _ from s5).perm (by ac_rfl)
        have A3:=hQ (B2.alloc (.cells [.int .i64 0,.int .i64 0,.slice none 0 0,.slice none 0 0,.int .i64 0].toArray 31)).right
        have hnew3:=hQ (new_cells (w5.setCell ⟨w.heap.size,2,none⟩ (.slice a5 (k+1) c5)) [.int .i64 0,.int .i64 0,.slice none 0 0,.slice none 0 0,.int .i64 0] 31 w5.heap.size (by simp [World.setCell]))
        have HST5:=hQ (((HST4.out.alloc (.cells #[.bool false] 4)).of_grown hg5).setCell ⟨w.heap.size,2,none⟩ (.slice a5 (k+1) c5))
        clear hs5 hg5 s5 B2 A2)
     | (at_builtin
        refine wpList_append_sl rfl _ _ _ rfl 31 k0 (.agg #[.int .i64 0,.int .i64 0,.slice none 0 0,.slice none 0 0,.int .i64 0]) 5 72 Tryz.underlying85 hk hx0 hx1 hx2 rfl _ _ _ rfl A3.out ⟨w5.heap.size,0,none⟩ 1 1 [.int .i64 0,.int .i64 0,.slice none 0 0,.slice none 0 0,.int .i64 0] rfl rfl hnew3.out (by simp [Value.oneCell']) (by simp only [maxLen];omega) (by omega) ?_
        intro v6 w6 hs6 hg6 _
        obtain⟨a6,c6,e6,_,_⟩:=Row.read hs6
        subst e6
        obtain⟨q1,q2,q3,⟨f1,f2,f3⟩,z6⟩:=pts7 hs6.right
        have HST6:=hQ ((HST5.out.alloc (.cells [.int .i64 0,.int .i64 0,.slice none 0 0,.slice none 0 0,.int .i64 0].toArray 31)).of_grown hg6)
        have HS6:=hQ hs6
        clear hs6 hg6 A3))
    go_roundw
    case rel=>
     have s7:=(HS6.out.perm (Pr.left_comm _ _ _)).setCell (i:=3) (.slice a6 (k+1) c6)
     refine⟨k+1,.slice a4 (k+1) c4,.slice a5 (k+1) c5,.slice a6 (k+1) c6,by omega,congrArg (Value.int .i64) (by omega),HST6.out.setCell _ _,?_⟩
     unfold NewAt
     rw [← rep_snoc, ← rep_snoc, ← pg_snoc]
     exact(show Sat ((Pr.pts w.heap.size (refC refs (.slice a4 (k+1) c4) (.slice a5 (k+1) c5) (.slice a6 (k+1) c6) (quietT false))).star ((Row 31 5 (.slice a6 (k+1) c6) (k+1) (((List.replicate k nilP).zip (List.replicate k zeroP)).flatMap pgCells++ [.int .i64 0,.int .i64 0,.slice none 0 0,.slice none 0 0,.int .i64 0])).star ((Row 3 1 (.slice a4 (k+1) c4) (k+1) (List.replicate k (.int .i64 0)++ [.int .i64 0])).star ((Row 4 1 (.slice a5 (k+1) c5) (k+1) (List.replicate k (.bool false)++ [.bool false])).star F)))) _ from s7).perm (by ac_rfl)
    case measure=>simp [intOf];omega
  · have hkn2:k=n:=by omega
    subst hkn2
    have HS:=hQ hs
    clear hs
    go_wp2
    go_ret2
    refine⟨hst,w.heap.size,rfl,refA_iff.2 ⟨⟨cv,lv,pv,List.replicate k nilP,Hp.nil⟩,?_,?_⟩⟩
    · refine⟨⟨by simp,fun i hx hl=> ?_⟩,by simp,by simp,by simpa using hn,fun c hc=> ?_,fun g hg=> ?_⟩
      · simp only [List.getElem_replicate]
        exact⟨items_mk (Nat.zero_le _),RowIn.nil _ _⟩
      · rw [List.eq_of_mem_replicate hc];exact Int.le_refl _
      · rw [List.eq_of_mem_replicate hg]
        exact⟨by simp,by simp,fun x hx=>by cases hx⟩
    · refine HS.out.perm ?_
      unfold NewAt RefAt PgRow IntsRow BoolsRow
      rw [own_nil,Pr.star_emp]
      simp only [List.length_replicate,List.map_replicate]
end Go.Proofs.YtbobcmimkonnoaaGreat.G6
namespace Go.Proofs.YtbobcmimkonnoaaGreat.J6
open ChangeShapes WideShapes ChangeAt RowKit Sl Cop D2 K3 N3 Q3 G2 M2 U3 Y3 F4 L5 X3 X5 Y5 Z5 E6 F6 G6
theorem row_room5 {F:Pr}{w:World}(T:Nat)(z:Array Value)(n:Nat)(hn:n≤maxLen)(h:Sat F w):
 Sat ((Row T 5 (.slice (some ⟨w.heap.size,0,none⟩) 0 n) 0 []).star F) (w.alloc (.cells (madeCells z (n*5)) T)):=by
 have h1:=h.alloc (.cells (madeCells z (n*5)) T)
 refine Row.mk' (xs:= []) (sp:=(madeCells z (n*5)).toList) (by simp) (by simp [size_madeCells]) (Nat.zero_le _) hn ?_
 rw [List.nil_append,Array.toArray_toList]
 exact h1
theorem copypages_any(a:Hp)(v:Value)(h:Hp)(xs:List (Value × Value))(gs:List PageV)(hp:PgsAt h xs gs)(hx:RowIn a 5 v gs.length ((xs.zip gs).flatMap pgCells))(hn:gs.length≤65536)(F:Pr)(w:World)(hF:Sat ((Pr.own a).star F) w):
 Calls Tryz.prog 105 #[v] w fun e w'=> ∃v',e= .returned v'∧Sat ((PgRow v' xs gs).star ((Pr.own a).star F)) w'∧Stays w w':=by
 obtain⟨hlen,ad,cd,rfl,_,_,hc⟩:=id hx
 obtain⟨i0,hi,hz0,hz1,hz2⟩:=info_parts infoPageF
 have hmk:∀wx:World,(Instr.makeSlice 85 (.int .i64 0) (.int .i64 (gs.length:Int))).run Tryz.prog wx= .ok (.slice (some ⟨wx.heap.size,0,none⟩) 0 gs.length) (wx.alloc (.cells (madeCells #[.int .i64 0,.int .i64 0,.slice none 0 0,.slice none 0 0,.int .i64 0] (gs.length*5)) 31)):=by
  intro wx
  have:=run_make (P:=Tryz.prog) wx 85 31 i0 (.agg #[.int .i64 0,.int .i64 0,.slice none 0 0,.slice none 0 0,.int .i64 0]) Tryz.underlying85 hi hz0 .i64 .i64 0 gs.length (by omega) (by omega) (by rw [hz2];omega) (by omega)
  rw [hz1,Int.toNat_natCast] at this
  exact this
 have h2:=hQ (row_room5 31 #[.int .i64 0,.int .i64 0,.slice none 0 0,.slice none 0 0,.int .i64 0] gs.length (by simp only [maxLen];omega) hF)
 have HC:=hQ hc
 have HP:=hQ hp
 have hnn:(gs.length:Int)≤65536:=by omega
 clear hF hx hc hp hlen
 go_enter Tryz.func105,Tryz.ntmps105
 go_wp2
 go_loopw [3,4] (fun o i wr=> ∃k:Nat,k≤gs.length∧i= .int .i64 k∧Stays w wr∧Sat ((Row 31 5 o k (((xs.zip gs).take k).flatMap pgCells)).star ((Pr.own a).star F)) wr) (fun _ i _=>gs.length-(intOf i).toNat)
 case atStart=>exact⟨0,Nat.zero_le _,rfl,(Stays.refl w).alloc _,h2.out⟩
 case round=>
  obtain⟨k,hk,rfl,hst,hs⟩:=hrel
  obtain⟨ao,co,rfl,_,_⟩:=Row.read hs
  rcases Nat.lt_or_ge k gs.length with hlt | hge
  · obtain⟨b,off,rfl,hcell⟩:=HC.out (by omega)
    have hkx:k<xs.length:=by have:=HP.out.len;omega
    have hz:k<(xs.zip gs).length:=by simp;omega
    have hle:=hs.right.own
    have at':∀j v,(pgCells (xs[k],gs[k]))[j]? =some v→j<5→wr.cell? ⟨b,off+k*5+j,none⟩=some v:=by
     intro j v hv hj
     have h3:=hcell (k*5+j) (by omega)
     have h4:=flat_at pgCells 5 (fun _=>rfl) (xs.zip gs) k j hz hj
     rw [show (xs.zip gs)[k]=(xs[k],gs[k]) by simp,hv] at h4
     rw [Nat.add_assoc]
     exact Hp.cell_le hle (h3.trans h4)
    obtain⟨y1,y2⟩:=HP.out.at' k hkx hlt
    obtain⟨a1,d1,e1,_,_⟩:=items_rd y1
    obtain⟨a2,d2,e2⟩:=bytes_shape y2
    have c0:=at' 0 _ rfl (by omega)
    have c1:=at' 1 _ rfl (by omega)
    have c2:=at' 2 _ rfl (by omega)
    have c3:=at' 3 _ rfl (by omega)
    have c4:=at' 4 _ rfl (by omega)
    have HT:=hQ (show ((xs.zip gs).take (k+1)).flatMap pgCells=((xs.zip gs).take k).flatMap pgCells++ [.int .i64 gs[k].kind,.int .i64 gs[k].level,xs[k].1,xs[k].2,.int .i64 gs[k].next] by
     rw [List.take_succ_eq_append_getElem hz,List.flatMap_append]
     simp [pgCells])
    dsimp only at c2 c3
    rw [e1] at c2
    rw [e2] at c3
    rw [e1,e2] at HT
    rw [Nat.add_zero] at c0
    generalize gs[k]=g at*
    have H1:=hQ (hs.alloc (.cells [.int .i64 g.kind,.int .i64 g.level,.slice a1 g.items.length d1,.slice a2 g.data.length d2,.int .i64 g.next].toArray 31)).right
    have hnew:=hQ (new_cells wr [.int .i64 g.kind,.int .i64 g.level,.slice a1 g.items.length d1,.slice a2 g.data.length d2,.int .i64 g.next] 31 _ rfl)
    have zb:=World.block_lt_of_cell? _ _ c0
    have HST:=hQ hst
    clear hs hcell hle at' y1 y2 e1 e2 hst hz
    go_wp2_with (
     at_builtin
     refine wpList_append_sl rfl _ _ _ rfl 31 i0 (.agg #[.int .i64 0,.int .i64 0,.slice none 0 0,.slice none 0 0,.int .i64 0]) 5 72 Tryz.underlying85 hi hz0 hz1 hz2 rfl _ _ _ rfl H1.out ⟨wr.heap.size,0,none⟩ 1 1 [.int .i64 g.kind,.int .i64 g.level,.slice a1 g.items.length d1,.slice a2 g.data.length d2,.int .i64 g.next] rfl rfl hnew.out (by simp [Value.oneCell']) (by simp only [maxLen];omega) (by omega) ?_
     intro v7 w4 hs4 hg4 _
     obtain⟨a7',c7',e7',_,_⟩:=Row.read hs4
     subst e7'
     have HS4:=hQ hs4
     have HG4:=hQ hg4
     clear hs4 hg4)
    refine⟨⟨k+1,by omega,congrArg (Value.int .i64) (by omega),(HST.out.alloc _).of_grown HG4.out,?_⟩,by simp [intOf];omega⟩
    rw [HT.out]
    exact HS4.out
  · have hkl:k=gs.length:=by omega
    subst hkl
    have HS:=hQ hs
    clear hs
    go_wp2
    go_ret
    refine⟨_,rfl,?_,hst⟩
    have h9:=HS.out
    rw [List.take_of_length_le (by simp;omega)] at h9
    exact h9
end Go.Proofs.YtbobcmimkonnoaaGreat.J6
namespace Go.Sl
theorem flat_set5 {α:Type}(f:α→List Value)(hf:∀x,(f x).length=5)(v0 v1 v2 v3 v4:Value)(y:α)(hy:f y= [v0,v1,v2,v3,v4]):∀(l:List α) (i:Nat),i<l.length→
 (((((l.flatMap f).set (i*5) v0).set (i*5+1) v1).set (i*5+2) v2).set (i*5+3) v3).set (i*5+4) v4=(l.set i y).flatMap f
 | [],i,hi=>absurd hi (by simp)
 | x :: l,0,_=>by
   have hx:=hf x
   match hfx:f x,hx with
   | [a,b,c,d,e],_=>simp [hfx,hy]
 | x :: l,i+1,hi=>by
   have hx:=hf x
   have ih:=flat_set5 f hf v0 v1 v2 v3 v4 y hy l i (by simpa using hi)
   simp only [List.flatMap_cons,List.set_cons_succ]
   rw [List.set_append_right _ _ (by rw [hx];omega),List.set_append_right _ _ (by rw [hx];omega),List.set_append_right _ _ (by rw [hx];omega),List.set_append_right _ _ (by rw [hx];omega),List.set_append_right _ _ (by rw [hx];omega),hx,
    show (i+1)*5-5=i*5 by omega,show (i+1)*5+1-5=i*5+1 by omega,show (i+1)*5+2-5=i*5+2 by omega,show (i+1)*5+3-5=i*5+3 by omega,show (i+1)*5+4-5=i*5+4 by omega,ih]
end Go.Sl
namespace Go.Proofs.YtbobcmimkonnoaaGreat.K6
open ChangeShapes WideShapes ChangeAt RowKit Sl Cop D2 K3 N3 Q3 G2 M2 U3 Y3 Z3 F4 L5 W5 X3 X5 Y5 M5 G4 Z5 E6 F6 G6
theorem zip_set_both {α β:Type}:∀(xs:List α) (l:List β) (k:Nat) (v:α) (y:β),(xs.zip l).set k (v,y)=(xs.set k v).zip (l.set k y)
 | [],l,k,v,y=>by simp
 | x :: xs,[],k,v,y=>by cases k<;>simp
 | x :: xs,z :: l,0,v,y=>by simp
 | x :: xs,z :: l,k+1,v,y=>by
   have:=zip_set_both xs l k v y
   simp only [List.zip_cons_cons,List.set_cons_succ,this]
theorem ref_wr_count {r:Nat}{s:PoolS}{gs:List PageV}{hush:RTail}{x:RX}{F:Pr}{w:World}(h:Sat ((RefAt r s gs hush x).star F) w){j:Nat}(hj:j<s.counts.length):
 ∃b c,x.cv= .slice (some ⟨b,0,none⟩) s.counts.length c∧w.cell? ⟨b,j,none⟩=some (.int .i64 (s.counts.getD j 0))∧w.frozen? ⟨b,j,none⟩=false∧
  ∀v:Int,Sat ((RefAt r { s with counts:=s.counts.set j v } gs hush x).star F) (w.setCell ⟨b,j,none⟩ (.int .i64 v)):=by
 have h1:Sat ((IntsRow x.cv s.counts).star ((Pr.pts r (refC s.refs x.cv x.lv x.pv hush)).star ((BoolsRow x.lv s.last).star ((PgRow x.pv x.xs gs).star ((Pr.own x.h).star F))))) w:=h.perm (by unfold RefAt;ac_rfl)
 obtain⟨a,c,e,_,hc⟩:=Row.read h1
 obtain⟨b,eb,hd⟩:=hc (by omega)
 subst eb
 clear hc
 refine⟨b,c,e,?_,(hd j (by omega)).2,fun v=> ?_⟩
 · rw [(hd j (by omega)).1];simp [hj]
 · have h2:=h1
   rw [e] at h2
   have h3:=Row.set h2 j (by simpa using hj) (.int .i64 v)
   have h4:Sat ((IntsRow x.cv (s.counts.set j v)).star ((Pr.pts r (refC s.refs x.cv x.lv x.pv hush)).star ((BoolsRow x.lv s.last).star ((PgRow x.pv x.xs gs).star ((Pr.own x.h).star F))))) (w.setCell ⟨b,j,none⟩ (.int .i64 v)):=by
    unfold IntsRow
    rw [List.length_set,List.map_set,e]
    exact h3
   exact h4.perm (by unfold RefAt;ac_rfl)
theorem ref_wr_last {r:Nat}{s:PoolS}{gs:List PageV}{hush:RTail}{x:RX}{F:Pr}{w:World}(h:Sat ((RefAt r s gs hush x).star F) w){j:Nat}(hj:j<s.last.length):
 ∃b c,x.lv= .slice (some ⟨b,0,none⟩) s.last.length c∧w.cell? ⟨b,j,none⟩=some (.bool (s.last.getD j false))∧w.frozen? ⟨b,j,none⟩=false∧
  ∀v:Bool,Sat ((RefAt r { s with last:=s.last.set j v } gs hush x).star F) (w.setCell ⟨b,j,none⟩ (.bool v)):=by
 have h1:Sat ((BoolsRow x.lv s.last).star ((Pr.pts r (refC s.refs x.cv x.lv x.pv hush)).star ((IntsRow x.cv s.counts).star ((PgRow x.pv x.xs gs).star ((Pr.own x.h).star F))))) w:=h.perm (by unfold RefAt;ac_rfl)
 obtain⟨a,c,e,_,hc⟩:=Row.read h1
 obtain⟨b,eb,hd⟩:=hc (by omega)
 subst eb
 clear hc
 refine⟨b,c,e,?_,(hd j (by omega)).2,fun v=> ?_⟩
 · rw [(hd j (by omega)).1];simp [hj]
 · have h2:=h1
   rw [e] at h2
   have h3:=Row.set h2 j (by simpa using hj) (.bool v)
   have h4:Sat ((BoolsRow x.lv (s.last.set j v)).star ((Pr.pts r (refC s.refs x.cv x.lv x.pv hush)).star ((IntsRow x.cv s.counts).star ((PgRow x.pv x.xs gs).star ((Pr.own x.h).star F))))) (w.setCell ⟨b,j,none⟩ (.bool v)):=by
    unfold BoolsRow
    rw [List.length_set,List.map_set,e]
    exact h3
   exact h4.perm (by unfold RefAt;ac_rfl)
theorem ref_wr_page {r:Nat}{s:PoolS}{gs:List PageV}{hush:RTail}{x:RX}{F:Pr}{w:World}(hx:x.xs.length=gs.length)(h:Sat ((RefAt r s gs hush x).star F) w){j:Nat}(hj:j<gs.length):
 ∃b c,x.pv= .slice (some ⟨b,0,none⟩) gs.length c∧(∀i,i<5→w.frozen? ⟨b,j*5+i,none⟩=false∧∃v,w.cell? ⟨b,j*5+i,none⟩=some v)∧
  ∀(g:PageV) (vi vd:Value),Sat ((RefAt r s (gs.set j g) hush { x with xs:=x.xs.set j (vi,vd) }).star F) (((((w.setCell ⟨b,j*5,none⟩ (.int .i64 g.kind)).setCell ⟨b,j*5+1,none⟩ (.int .i64 g.level)).setCell ⟨b,j*5+2,none⟩ vi).setCell ⟨b,j*5+3,none⟩ vd).setCell ⟨b,j*5+4,none⟩ (.int .i64 g.next)):=by
 have h1:Sat ((PgRow x.pv x.xs gs).star ((Pr.pts r (refC s.refs x.cv x.lv x.pv hush)).star ((IntsRow x.cv s.counts).star ((BoolsRow x.lv s.last).star ((Pr.own x.h).star F))))) w:=h.perm (by unfold RefAt;ac_rfl)
 obtain⟨a,c,e,hlen,hc⟩:=Row.read h1
 obtain⟨b,eb,hd⟩:=hc (by omega)
 subst eb
 clear hc
 refine⟨b,c,e,fun i hi=>⟨(hd (j*5+i) (by omega)).2,?_⟩,fun g vi vd=> ?_⟩
 · have h5:=(hd (j*5+i) (by omega)).1
   rw [List.getElem?_eq_getElem (by omega)] at h5
   exact⟨_,h5⟩
 · have h2:=h1
   rw [e] at h2
   have h3:=Row.set (Row.set (Row.set (Row.set (Row.set h2 (j*5) (by omega) (.int .i64 g.kind)) (j*5+1) (by simp only [List.length_set];omega) (.int .i64 g.level)) (j*5+2) (by simp only [List.length_set];omega) vi) (j*5+3) (by simp only [List.length_set];omega) vd) (j*5+4) (by simp only [List.length_set];omega) (.int .i64 g.next)
   rw [flat_set5 pgCells (fun _=>rfl) _ _ _ _ _ ((vi,vd),g) rfl (x.xs.zip gs) j (by simp;omega),zip_set_both] at h3
   have h4:Sat ((PgRow x.pv (x.xs.set j (vi,vd)) (gs.set j g)).star ((Pr.pts r (refC s.refs x.cv x.lv x.pv hush)).star ((IntsRow x.cv s.counts).star ((BoolsRow x.lv s.last).star ((Pr.own x.h).star F))))) (((((w.setCell ⟨b,j*5,none⟩ (.int .i64 g.kind)).setCell ⟨b,j*5+1,none⟩ (.int .i64 g.level)).setCell ⟨b,j*5+2,none⟩ vi).setCell ⟨b,j*5+3,none⟩ vd).setCell ⟨b,j*5+4,none⟩ (.int .i64 g.next)):=by
    unfold PgRow
    rw [List.length_set,e]
    exact h3
   exact h4.perm (by unfold RefAt;ac_rfl)
end Go.Proofs.YtbobcmimkonnoaaGreat.K6
namespace Go.Cop
def kidItem(g:PageV)(x:ItemV):Bool:=(g.kind == 2) || ((g.kind == 1) && (x.child != 0))
def kidsK(g:PageV)(k:Nat):List Int:=((g.items.take k).filter (kidItem g)).map (·.child)
def kidsOf(g:PageV):List Int:=kidsK g g.items.length++(if(g.kind == 3) && (g.next != 0) then [g.next] else [])
theorem kidsK_yes {g:PageV}{k:Nat}(hk:k<g.items.length)(h:kidItem g g.items[k]=true):kidsK g (k+1)=kidsK g k++ [g.items[k].child]:=by
 unfold kidsK
 rw [List.take_succ_eq_append_getElem hk,List.filter_append,List.map_append]
 simp [h]
theorem kidsK_no {g:PageV}{k:Nat}(hk:k<g.items.length)(h:kidItem g g.items[k]=false):kidsK g (k+1)=kidsK g k:=by
 unfold kidsK
 rw [List.take_succ_eq_append_getElem hk,List.filter_append,List.map_append]
 simp [h]
theorem kidsK_len(g:PageV)(k:Nat):(kidsK g k).length≤k:=by
 unfold kidsK
 rw [List.length_map]
 exact Nat.le_trans (List.length_filter_le _ _) (by rw [List.length_take];omega)
theorem kidsOf_len(g:PageV):(kidsOf g).length≤g.items.length+1:=by
 unfold kidsOf
 rw [List.length_append]
 have:=kidsK_len g g.items.length
 split<;>simp<;>omega
end Go.Cop
namespace Go.Proofs.YtbobcmimkonnoaaGreat.L6
open ChangeShapes WideShapes ChangeAt RowKit Sl Cop K3 Q3 G2 M2 U3 Y3 X3 X5
theorem ints_snoc {v':Value}{l:List Int}{z:Int}{F:Pr}{w:World}(h:Sat ((Row 3 1 v' (l.length+1) (l.map (Value.int .i64)++ [.int .i64 z])).star F) w):Sat ((IntsRow v' (l++ [z])).star F) w:=by
 unfold IntsRow
 rw [List.length_append,List.map_append]
 exact h
theorem kids_any(h:Hp)(v:Value)(g:PageV)(hv:PageIn h v g)(hn:g.items.length≤65536)(F:Pr)(w:World)(hF:Sat ((Pr.own h).star F) w):
 Calls Tryz.prog 156 #[v] w fun e w'=> ∃v',e= .returned v'∧Sat ((IntsRow v' (kidsOf g)).star ((Pr.own h).star F)) w'∧Stays w w':=by
 obtain⟨vi,vd,rfl,hi,hd⟩:=hv
 obtain⟨ai,ci,rfl,_,rd⟩:=items_rd hi
 obtain⟨ad,cd,rfl⟩:=bytes_shape hd
 have h1:=hF.alloc (pageC g.kind g.level (.slice ai g.items.length ci) (.slice ad g.data.length cd) g.next)
 have H1:=hQ h1
 have RD:=hQ rd
 have HST:=hQ ((Stays.refl w).alloc (pageC g.kind g.level (.slice ai g.items.length ci) (.slice ad g.data.length cd) g.next))
 have hl0:(g.items.length:Int)≤65536:=by omega
 obtain⟨i0,hi0,hz0,hz1,hz2⟩:=info_parts infoInt
 clear hF h1 hi hd rd
 go_enter Tryz.func156,Tryz.ntmps156
 go_wp2
 go_loopw [3,9] (fun l i wr=> ∃k:Nat,k≤g.items.length∧i= .int .i64 k∧Stays w wr∧Sat ((IntsRow l (kidsK g k)).star ((Pr.pts w.heap.size (pageC g.kind g.level (.slice ai g.items.length ci) (.slice ad g.data.length cd) g.next)).star ((Pr.own h).star F))) wr) (fun _ i _=>g.items.length-(intOf i).toNat)
 case atStart=>
  refine⟨0,Nat.zero_le _,rfl,HST.out,?_⟩
  show Sat ((Row 3 1 (.slice none 0 0) 0 []).star _) _
  rw [Row.nil,Pr.emp_star]
  exact H1.out
 case round=>
  obtain⟨k,hk,rfl,hst,hs⟩:=hrel
  clear H1 HST
  obtain⟨al,cl,rfl,_,_⟩:=Row.read hs
  obtain⟨p0,p1,p2,p3,p4,_,pz⟩:=pts5 hs.right
  have hkl:=kidsK_len g k
  rcases Nat.lt_or_ge k g.items.length with hlt | hge
  · obtain⟨b,off,ak,ck,av,cv,rfl,hbk,hbv,hc⟩:=RD.out k hlt
    obtain⟨c0,c1,c2,c3⟩:=hc wr hs.right.right.own
    have z0:=World.block_lt_of_cell? _ _ c0
    have HYES:=hQ (fun h=>kidsK_yes (g:=g) hlt h)
    have HNO:=hQ (fun h=>kidsK_no (g:=g) hlt h)
    have hkd:kidItem g g.items[k]=((g.kind == 2) || ((g.kind == 1) && (g.items[k].child != 0))):=rfl
    have HSTK:=hQ (hst.alloc (itemC (.slice ak g.items[k].key.length ck) (.slice av g.items[k].value.length cv) g.items[k].child g.items[k].size))
    have HSK:=hQ ((hs.alloc (itemC (.slice ak g.items[k].key.length ck) (.slice av g.items[k].value.length cv) g.items[k].child g.items[k].size)).right)
    rw [hkd] at HYES HNO
    clear hs hst hc hkd hbk hbv
    generalize g.items[k]=y at*
    have app:∀wx:World,Sat ((IntsRow (.slice al (kidsK g k).length cl) (kidsK g k)).star ((Pr.pts w.heap.size (pageC g.kind g.level (.slice (some ⟨b,off,none⟩) g.items.length ci) (.slice ad g.data.length cd) g.next)).star ((Pr.own h).star F))) wx→
     Sat ((Row 3 1 (.slice al (kidsK g k).length cl) (kidsK g k).length ((kidsK g k).map (Value.int .i64))).star ((Pr.pts w.heap.size (pageC g.kind g.level (.slice (some ⟨b,off,none⟩) g.items.length ci) (.slice ad g.data.length cd) g.next)).star ((Pr.own h).star F))) (wx.alloc (.cells [.int .i64 y.child].toArray 3)):=fun wx hx=>(hx.alloc _).right
    have A1:=hQ (app _ HSK.out)
    have hnew:=hQ (new_cells (wr.alloc (itemC (.slice ak y.key.length ck) (.slice av y.value.length cv) y.child y.size)) [.int .i64 y.child] 3 (wr.heap.size+1) (by simp))
    clear app
    by_cases hk2:g.kind=2
    · have hb2:(g.kind == 2)=true:=beq_iff_eq.2 hk2
      rw [hb2] at HYES HNO
      clear HNO hk2
      go_wp2_with (at_builtin;refine wpList_append_sl rfl _ _ _ rfl 3 i0 (.int .i64 0) 1 8 Tryz.underlying40 hi0 hz0 hz1 hz2 rfl _ _ _ rfl A1.out ⟨wr.heap.size+1,0,none⟩ 1 1 [.int .i64 y.child] rfl rfl hnew.out (by simp [Value.oneCell']) (by simp only [maxLen];omega) (by omega) ?_;intro v7 w4 hs4 hg4 _;obtain⟨a7',c7',e7',_,_⟩:=Row.read hs4;subst e7';have HS4:=hQ hs4;have HG4:=hQ ((HSTK.out.alloc _).of_grown hg4);clear hs4 hg4)
      go_roundw
      case rel=>exact⟨k+1,by omega,congrArg (Value.int .i64) (by omega),HG4.out,by rw [HYES.out rfl];exact ints_snoc HS4.out⟩
      case measure=>simp [intOf];omega
    · have hb2:(g.kind == 2)=false:=beq_eq_false_iff_ne.2 hk2
      rw [hb2] at HYES HNO
      clear hk2
      by_cases hk1:g.kind=1
      · have hb1:(g.kind == 1)=true:=beq_iff_eq.2 hk1
        rw [hb1] at HYES HNO
        clear hk1
        by_cases hch:y.child=0
        · have hb3:(y.child != 0)=false:=by rw [bne_eq_false_iff_eq];exact hch
          rw [hb3] at HNO
          clear HYES hch A1
          go_wp2
          go_roundw
          case rel=>exact⟨k+1,by omega,congrArg (Value.int .i64) (by omega),HSTK.out,by rw [HNO.out rfl];exact HSK.out⟩
          case measure=>simp [intOf];omega
        · have hb3:(y.child != 0)=true:=by rw [bne_iff_ne];exact hch
          rw [hb3] at HYES
          clear HNO hch
          go_wp2_with (at_builtin;refine wpList_append_sl rfl _ _ _ rfl 3 i0 (.int .i64 0) 1 8 Tryz.underlying40 hi0 hz0 hz1 hz2 rfl _ _ _ rfl A1.out ⟨wr.heap.size+1,0,none⟩ 1 1 [.int .i64 y.child] rfl rfl hnew.out (by simp [Value.oneCell']) (by simp only [maxLen];omega) (by omega) ?_;intro v7 w4 hs4 hg4 _;obtain⟨a7',c7',e7',_,_⟩:=Row.read hs4;subst e7';have HS4:=hQ hs4;have HG4:=hQ ((HSTK.out.alloc _).of_grown hg4);clear hs4 hg4)
          go_roundw
          case rel=>exact⟨k+1,by omega,congrArg (Value.int .i64) (by omega),HG4.out,by rw [HYES.out rfl];exact ints_snoc HS4.out⟩
          case measure=>simp [intOf];omega
      · have hb1:(g.kind == 1)=false:=beq_eq_false_iff_ne.2 hk1
        rw [hb1] at HYES HNO
        clear hk1 HYES A1
        go_wp2
        go_roundw
        case rel=>exact⟨k+1,by omega,congrArg (Value.int .i64) (by omega),HSTK.out,by rw [HNO.out rfl];exact HSK.out⟩
        case measure=>simp [intOf];omega
  · have hkl2:k=g.items.length:=by omega
    subst hkl2
    have hko:kidsOf g=kidsK g g.items.length++(if(g.kind == 3) && (g.next != 0) then [g.next] else []):=rfl
    have HS:=hQ hs
    have HKO:=hQ hko
    clear hs hko
    by_cases hk3:g.kind=3
    · have hb3:(g.kind == 3)=true:=beq_iff_eq.2 hk3
      rw [hb3] at HKO
      by_cases hnx:g.next=0
      · have hb4:(g.next != 0)=false:=by rw [bne_eq_false_iff_eq];exact hnx
        rw [hb4] at HKO
        clear hnx hk3
        go_wp2
        go_ret
        refine⟨_,rfl,?_,hst⟩
        rw [HKO.out,if_neg (by decide),List.append_nil]
        exact(HS.out.perm (Pr.left_comm _ _ _)).right
      · have hb4:(g.next != 0)=true:=by rw [bne_iff_ne];exact hnx
        rw [hb4] at HKO
        have A1:=hQ (show Sat ((Row 3 1 (.slice al (kidsK g g.items.length).length cl) (kidsK g g.items.length).length ((kidsK g g.items.length).map (Value.int .i64))).star ((Pr.pts w.heap.size (pageC g.kind g.level (.slice ai g.items.length ci) (.slice ad g.data.length cd) g.next)).star ((Pr.own h).star F))) (wr.alloc (.cells [.int .i64 g.next].toArray 3)) from(HS.out.alloc _).right)
        have hnew:=hQ (new_cells wr [.int .i64 g.next] 3 _ rfl)
        clear hnx hk3
        go_wp2_with (at_builtin;refine wpList_append_sl rfl _ _ _ rfl 3 i0 (.int .i64 0) 1 8 Tryz.underlying40 hi0 hz0 hz1 hz2 rfl _ _ _ rfl A1.out ⟨wr.heap.size,0,none⟩ 1 1 [.int .i64 g.next] rfl rfl hnew.out (by simp [Value.oneCell']) (by simp only [maxLen];omega) (by omega) ?_;intro v7 w4 hs4 hg4 _;obtain⟨a7',c7',e7',_,_⟩:=Row.read hs4;subst e7';have HS4:=hQ hs4;have HG4:=hQ ((hst.alloc (.cells [.int .i64 g.next].toArray 3)).of_grown hg4);clear hs4 hg4)
        go_ret
        refine⟨_,rfl,?_,HG4.out⟩
        rw [HKO.out,if_pos (by decide)]
        exact((ints_snoc HS4.out).perm (Pr.left_comm _ _ _)).right
    · have hb3:(g.kind == 3)=false:=beq_eq_false_iff_ne.2 hk3
      rw [hb3] at HKO
      clear hk3
      go_wp2
      go_ret
      refine⟨_,rfl,?_,hst⟩
      rw [HKO.out,if_neg (by simp),List.append_nil]
      exact(HS.out.perm (Pr.left_comm _ _ _)).right
end Go.Proofs.YtbobcmimkonnoaaGreat.L6
namespace Go.Cop
def addC(cs:List Int)(n b:Int):List Int:=cs.set (n.toNat-1) (cntL cs n+b)
theorem addC_len(cs:List Int)(n b:Int):(addC cs n b).length=cs.length:=List.length_set
theorem addC_cnt {cs:List Int}{n b:Int}(hn:1≤n∧n≤cs.length)(m:Int):cntL (addC cs n b) m=if m=n then cntL cs n+b else cntL cs m:=by
 unfold cntL
 rw [addC_len]
 by_cases hm:1≤m∧m≤cs.length
 · rw [if_pos hm,if_pos hn,if_pos hm]
   unfold addC
   rw [List.getD_eq_getElem?_getD]
   by_cases h:m=n
   · subst h
     rw [if_pos rfl,List.getElem?_set_self (by omega)]
     unfold cntL
     rw [if_pos hn]
     rfl
   · rw [if_neg h,List.getElem?_set_ne (by omega), ← List.getD_eq_getElem?_getD]
 · rw [if_neg hm,if_neg hm]
   by_cases h:m=n
   · subst h;exact absurd hn hm
   · rw [if_neg h]
inductive DropR (get : Int → PageV) : List Int → List Int → Int → List Int → Prop where
  | nil (cs : List Int) : DropR get [] cs 0 cs
  | none (n : Int) (t cs : List Int) : cntL cs n = 0 → DropR get (n :: t) cs 15 cs
  | more (n : Int) (t cs : List Int) (e : Int) (c : List Int) : cntL cs n ≠ 0 → cntL (addC cs n (-1)) n ≠ 0 → DropR get t (addC cs n (-1)) e c → DropR get (n :: t) cs e c
  | last (n : Int) (t cs : List Int) (e : Int) (c : List Int) : cntL cs n ≠ 0 → cntL (addC cs n (-1)) n = 0 → DropR get (kidsOf (get n) ++ t) (addC cs n (-1)) e c → DropR get (n :: t) cs e c
theorem DropR.det {get:Int→PageV}{l cs:List Int}{e:Int}{c:List Int}(h:DropR get l cs e c):∀ {e2:Int} {c2:List Int},DropR get l cs e2 c2→e=e2∧c=c2:=by
 induction h with
 | nil cs=>intro e2 c2 h2;cases h2;exact⟨rfl,rfl⟩
 | none n t cs h0=>
   intro e2 c2 h2
   cases h2 with
   | none=>exact⟨rfl,rfl⟩
   | more _ _ _ _ _ h1=>exact absurd h0 h1
   | last _ _ _ _ _ h1=>exact absurd h0 h1
 | more n t cs e c h1 h2 h3 ih=>
   intro e2 c2 g
   cases g with
   | none _ _ _ g0=>exact absurd g0 h1
   | more _ _ _ _ _ _ _ g3=>exact ih g3
   | last _ _ _ _ _ _ g2=>exact absurd g2 h2
 | last n t cs e c h1 h2 h3 ih=>
   intro e2 c2 g
   cases g with
   | none _ _ _ g0=>exact absurd g0 h1
   | more _ _ _ _ _ _ g2=>exact absurd h2 g2
   | last _ _ _ _ _ _ _ g3=>exact ih g3
theorem DropR.append {get:Int→PageV}{l cs:List Int}{e:Int}{c:List Int}(h:DropR get l cs e c):∀ {t:List Int} {e2:Int} {c2:List Int},e=0→DropR get t c e2 c2→DropR get (l++t) cs e2 c2:=by
 induction h with
 | nil cs=>intro t e2 c2 _ h2;exact h2
 | none n t cs h0=>intro t' e2 c2 h;cases h
 | more n t cs e c h1 h2 h3 ih=>intro t' e2 c2 he g;exact .more _ _ _ _ _ h1 h2 (ih he g)
 | last n t cs e c h1 h2 h3 ih=>
   intro t' e2 c2 he g
   have:=ih he g
   rw [List.append_assoc] at this
   exact .last _ _ _ _ _ h1 h2 this
theorem DropR.fail {get:Int→PageV}{l cs:List Int}{e:Int}{c:List Int}(h:DropR get l cs e c):∀ {t:List Int},e≠0→DropR get (l++t) cs e c:=by
 induction h with
 | nil cs=>intro t h;exact absurd rfl h
 | none n t cs h0=>intro t' _;exact .none _ _ _ h0
 | more n t cs e c h1 h2 h3 ih=>intro t' he;exact .more _ _ _ _ _ h1 h2 (ih he)
 | last n t cs e c h1 h2 h3 ih=>
   intro t' he
   have:=ih (t:=t') he
   rw [List.append_assoc] at this
   exact .last _ _ _ _ _ h1 h2 this
def sumC(cs:List Int):Nat:=(cs.map Int.toNat).sum
theorem sum_set(cs:List Nat):∀(i v:Nat) (hi:i<cs.length),(cs.set i v).sum+cs[i]=cs.sum+v:=by
 induction cs with
 | nil=>intro i v hi;simp at hi
 | cons x cs ih=>
   intro i v hi
   cases i with
   | zero=>simp only [List.set_cons_zero,List.sum_cons,List.getElem_cons_zero];omega
   | succ i=>
     have:=ih i v (by simpa using hi)
     simp only [List.set_cons_succ,List.sum_cons,List.getElem_cons_succ]
     omega
theorem sum_addC {cs:List Int}{n b:Int}(hn:1≤n∧n≤cs.length)(h0:0≤cntL cs n)(h1:0≤cntL cs n+b):(sumC (addC cs n b):Int)=sumC cs+b:=by
 unfold sumC addC
 rw [List.map_set]
 have hi:n.toNat-1<(cs.map Int.toNat).length:=by rw [List.length_map];omega
 have h:=sum_set (cs.map Int.toNat) (n.toNat-1) (cntL cs n+b).toNat hi
 rw [List.getElem_map] at h
 have hc:cs[n.toNat-1]'(by omega)=cntL cs n:=by
  unfold cntL
  rw [if_pos hn,List.getD_eq_getElem?_getD,List.getElem?_eq_getElem (by omega)]
  rfl
 rw [hc] at h
 omega
theorem nodup_len:∀(N:Nat) (l:List Int),l.Nodup→(∀x∈l,1≤x∧x≤N)→l.length≤N
 | 0,l,_,h=>by
   cases l with
   | nil=>exact Nat.le_refl _
   | cons x l=>have:=h x (by simp);omega
 | N+1,l,hn,h=>by
   have h1:=nodup_len N (l.erase ((N:Int)+1)) (hn.erase _) (fun x hx=>by
    have h2:=List.Nodup.mem_erase_iff hn |>.1 hx
    have h3:=h x h2.2
    have:x≠(N:Int)+1:=h2.1
    omega)
   have h4:=List.length_erase (a:=((N:Int)+1)) (l:=l)
   split at h4<;>omega
end Go.Cop
namespace Go.Proofs.YtbobcmimkonnoaaGreat.M6
open ChangeShapes WideShapes ChangeAt RowKit Sl Cop D2 K3 N3 Q3 G2 M2 U3 Y3 L5 X3 X5 E6 F6 G6 K6 J6
def incL(refs:Int)(cs:List Int)(n:Int):Int:=if cntL cs n=0 then 15 else if refs≤cntL cs n then 13 else 0
def RPool.counts(s:PoolS)(cs:List Int):PoolS:= { s with counts:=cs }
theorem rcount_cnt(s:PoolS)(n:Int):s.count n=cntL s.counts n:=by
 unfold PoolS.count cntL PoolS.there
 rfl
theorem rok_counts {s:PoolS}{gs:List PageV}{x:RX}(ok:ROk s gs x){cs:List Int}(hl:cs.length=s.counts.length)(h0:∀c∈cs,0≤c):ROk { s with counts:=cs } gs x:=
 ⟨ok.pgs,by show s.last.length=cs.length;rw [hl];exact ok.ll,by show gs.length=cs.length;rw [hl];exact ok.gl,by show cs.length≤65536;rw [hl];exact ok.n2,h0,ok.fit⟩
theorem addC_nn {cs:List Int}{n b:Int}(h0:∀c∈cs,0≤c)(hb:0≤cntL cs n+b):∀c∈addC cs n b,0≤c:=by
 intro c hc
 unfold addC at hc
 rcases List.mem_or_eq_of_mem_set hc with h | h
 · exact h0 c h
 · rw [h];exact hb
theorem cnt_idx {cs:List Int}{j:Nat}(hj:j<cs.length):cntL cs ((j:Int)+1)=cs.getD j 0:=by
 unfold cntL
 rw [if_pos (by omega),show ((j:Int)+1).toNat-1=j by omega]
theorem addC_idx {cs:List Int}{j:Nat}(hj:j<cs.length)(b:Int):addC cs ((j:Int)+1) b=cs.set j (cs.getD j 0+b):=by
 unfold addC
 rw [cnt_idx hj,show ((j:Int)+1).toNat-1=j by omega]
end Go.Proofs.YtbobcmimkonnoaaGreat.M6
