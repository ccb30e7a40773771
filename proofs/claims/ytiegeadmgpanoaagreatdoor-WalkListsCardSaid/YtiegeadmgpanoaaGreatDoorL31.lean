/- The document's New; the conditions stand as hypotheses. -/
import Derived.Test.YtiegeadmgpanoaaGreatDoorL29
set_option maxRecDepth 100000
set_option maxHeartbeats 16000000
namespace Go.Proofs.YtiegeadmgpanoaaGreatDoor.D2
open ChangeShapes WideShapes ChangeAt RowKit Sl fB L3 Z3 E4 X6
theorem JA:(Tryz.prog.info? 83).map (fun i=>(i.zero,i.size,i.bytes))=some (some (.agg #[.int .i64 0,.int .i64 0,.slice none 0 0,.slice none 0 0,.int .i64 0]),5,72):=by kernel_rfl
theorem vQ(r:Int)(w:World):Calls Tryz.prog 140 #[.int .i64 r] w fun e w'=>e= .returned (.bool (decide (2≤r∧r<65536)))∧w=w':=by
 by_cases h1:2≤r
 · go_enter Tryz.func140,Tryz.ntmps140
   go_wp2;go_ret;simp [h1]
 · go_enter Tryz.func140,Tryz.ntmps140
   go_wp2;go_ret;simp;omega
theorem yo {α:Type}(a:α)(k:Nat):List.replicate k a++ [a]=List.replicate (k+1) a:=by
 rw [List.replicate_succ']
abbrev BM:Value × Value:=(.slice none 0 0,.slice none 0 0)
theorem Hk {α β:Type}(a:α)(b:β)(k:Nat):(List.replicate k a).zip (List.replicate k b)=List.replicate k (a,b):=by
 induction k with
 | zero=>rfl
 | succ k ih=>simp [List.replicate_succ,ih]
theorem ON(k:Nat):((List.replicate k BM).zip (List.replicate k lj)).flatMap lx++ [.int .i64 0,.int .i64 0,.slice none 0 0,.slice none 0 0,.int .i64 0]=((List.replicate (k+1) BM).zip (List.replicate (k+1) lj)).flatMap lx:=by
 rw [Hk,Hk,List.replicate_succ',aN];simp [lx]
def NewAt(r:Nat)(refs:Int)(cv lv pv:Value)(a b c:Nat):Pr:=
 (Pr.pts r (mg refs cv lv pv (fM false))).star ((Row 3 1 cv a (List.replicate a (.int .i64 0))).star ((Row 4 1 lv b (List.replicate b (.bool false))).star (Row 83 5 pv c (((List.replicate c BM).zip (List.replicate c lj)).flatMap lx))))
theorem DI {b T:Nat}{v0 v1 v2 v3 v4 v5 v6:Value}{F:Pr}{w:World}(h:Sat ((Pr.pts b (.cells #[v0,v1,v2,v3,v4,v5,v6] T)).star F) w):
 w.cell? ⟨b,1,none⟩=some v1∧w.cell? ⟨b,2,none⟩=some v2∧w.cell? ⟨b,3,none⟩=some v3∧(w.frozen? ⟨b,1,none⟩=false∧w.frozen? ⟨b,2,none⟩=false∧w.frozen? ⟨b,3,none⟩=false)∧b<w.heap.size∧w.cell? ⟨b,0,none⟩=some v0:=by
 have h1:=h.dL;exact⟨by rw [cell_of_heap h1];rfl,by rw [cell_of_heap h1];rfl,by rw [cell_of_heap h1];rfl,⟨frozen_of_heap h1 1,frozen_of_heap h1 2,frozen_of_heap h1 3⟩,h.lt,by rw [cell_of_heap h1];rfl⟩
abbrev TS(refs:Int)(n:Nat):ef:= { refs:=refs,counts:=List.replicate n 0,last:=List.replicate n false,acts:= [],floor:=0 }
theorem L'(pages refs:Int)(h:i7 pages refs=false)(w:World):
 Calls Tryz.prog 116 #[.int .i64 pages,.int .i64 refs] w fun e w'=>e= .returned (.tuple #[.pointer none,.int .i64 1])∧w=w':=by
 have hb:¬(1≤pages∧pages≤65536∧2≤refs∧refs<65536):=fun h2=>by rw [l7.2 h2] at h;cases h
 clear h;by_cases h1:pages<1
 · go_enter Tryz.func116,Tryz.ntmps116
   go_wp2;go_ret2;exact⟨rfl,rfl⟩
 · by_cases h2:65536<pages
   · go_enter Tryz.func116,Tryz.ntmps116
     go_wp2;go_ret2;exact⟨rfl,rfl⟩
   · have RA:=hQ (vQ refs w)
     rw [decide_eq_false (show ¬(2≤refs∧refs<65536) by omega)] at RA;go_enter Tryz.func116,Tryz.ntmps116
     go_wp2_with fail
     refine RA.af.mono ?_;rintro e w1 ⟨rfl,rfl⟩;go_wp2;go_ret2;exact⟨rfl,rfl⟩
theorem Mb(n:Nat)(refs:Int)(h:i7 n refs=true)(F:Pr)(w:World)(hF:Sat F w):
 Calls Tryz.prog 116 #[.int .i64 n,.int .i64 refs] w fun e w'=>dN w w'∧
  ∃r,e= .returned (.tuple #[.pointer (some ⟨r,0,none⟩),.int .i64 0])∧Sat ((kJ r (TS refs n) (List.replicate n lj) (fM false)).star F) w':=by
 obtain⟨n1,n2,n3,n4⟩:=l7.1 h;have hn:n≤65536:=by omega
 have RA:=hQ (vQ refs w);rw [decide_eq_true (show 2≤refs∧refs<65536 by omega)] at RA;have h1:=hF.alloc (mg refs (.slice none 0 0) (.slice none 0 0) (.slice none 0 0) (fM false));have H1:=hQ h1;obtain⟨i0,hi,hz0,hz1,jg⟩:=info_parts mA;obtain⟨j0,hj,hy0,hy1,Cw⟩:=info_parts tK;obtain⟨k0,hk,hx0,hx1,hx2⟩:=info_parts JA;clear h1 hF h n3 n4
 go_enter Tryz.func116,Tryz.ntmps116
 go_wp2_with fail
 refine RA.af.mono ?_;rintro e w1 ⟨rfl,rfl⟩;go_wp2_with fail
 go_loopw [7] (fun i wr=> ∃(k:Nat) (cv lv pv:Value),k≤n∧i= .int .i64 k∧dN w wr∧Sat ((NewAt w.heap.size refs cv lv pv k k k).star F) wr) (fun i _=>n-(intOf i).toNat)
 case atStart=>
  refine⟨0,.slice none 0 0,.slice none 0 0,.slice none 0 0,aG _,rfl,(dN.refl w).alloc _,?_⟩;unfold NewAt;show Sat (((Pr.pts w.heap.size _).star ((Row _ 1 (.slice none 0 0) 0 []).star ((Row _ 1 (.slice none 0 0) 0 []).star (Row _ 5 (.slice none 0 0) 0 [])))).star F) _
  rw [Row.nil,Row.nil,Row.nil,Pr.fK,Pr.ei,Pr.ei];exact H1.af
 case round=>
  obtain⟨k,cv,lv,pv,hkn,rfl,hst,hs⟩:=hrel;rcases aB k n with hlt | hge
  · have e1:Sat ((Row 3 1 cv k (List.replicate k (.int .i64 0))).star ((Pr.pts w.heap.size (mg refs cv lv pv (fM false))).star ((Row 4 1 lv k (List.replicate k (.bool false))).star ((Row 83 5 pv k (((List.replicate k BM).zip (List.replicate k lj)).flatMap lx)).star F)))) wr:=hs.perm (by unfold NewAt;ac_rfl)
    obtain⟨a1,c1,rfl,_,_⟩:=Row.read e1;obtain⟨a2,c2,rfl,_,_⟩:=Row.read e1.right.right;obtain⟨a3,c3,rfl,_,_⟩:=Row.read e1.right.right.right;obtain⟨q1,q2,q3,⟨f1,f2,f3⟩,z,_⟩:=DI e1.right;have A1:=hQ (e1.alloc (.cells #[.int .i64 0] 3)).right;have hnew:=hQ (eW wr [.int .i64 0] 3 _ rfl);have eR:=hQ hst;clear hs e1 hst
    go_wp2_with (first
     | (at_builtin
        refine eu rfl _ _ _ rfl 3 i0 (.int .i64 0) 1 8 Tryz.underlying22 hi hz0 hz1 jg rfl _ _ _ rfl A1.af ⟨wr.heap.size,0,none⟩ 1 1 [.int .i64 0] rfl rfl hnew.af (by simp [Value.oneCell']) (by simp only [maxLen];omega) (by omega) ?_
        intro v4 w4 fp mD _
        obtain⟨a4,c4,e4,_,_⟩:=Row.read fp
        subst e4
        obtain⟨q1,q2,q3,⟨f1,f2,f3⟩,z4⟩:=DI fp.right
        have s4:=(fp.perm (Pr.eD _ _ _)).setCell (i:=1) (.slice a4 (k+1) c4)
        have B1:Sat ((Row 4 1 (.slice a2 k c2) k (List.replicate k (.bool false))).star ((Pr.pts w.heap.size (mg refs (.slice a4 (k+1) c4) (.slice a2 k c2) (.slice a3 k c3) (fM false))).star ((Row 3 1 (.slice a4 (k+1) c4) (k+1) (List.replicate k (.int .i64 0)++ [.int .i64 0])).star ((Row 83 5 (.slice a3 k c3) k (((List.replicate k BM).zip (List.replicate k lj)).flatMap lx)).star F)))) (w4.setCell ⟨w.heap.size,1,none⟩ (.slice a4 (k+1) c4)):=s4.perm (by rw [Pr.eD];ac_rfl)
        have A2:=hQ (B1.alloc (.cells #[.bool false] 4)).right
        have Cs:=hQ (eW (w4.setCell ⟨w.heap.size,1,none⟩ (.slice a4 (k+1) c4)) [.bool false] 4 w4.heap.size (by simp [World.setCell]))
        have ij:=hQ (((eR.af.alloc _).eH mD).setCell ⟨w.heap.size,1,none⟩ (.slice a4 (k+1) c4))
        clear fp mD s4 B1)
     | (at_builtin
        refine eu rfl _ _ _ rfl 4 j0 (.bool false) 1 1 Tryz.underlying93 hj hy0 hy1 Cw rfl _ _ _ rfl A2.af ⟨w4.heap.size,0,none⟩ 1 1 [.bool false] rfl rfl Cs.af (by simp [Value.oneCell']) (by simp only [maxLen];omega) (by omega) ?_
        intro v5 w5 gu Z2 _
        obtain⟨a5,c5,e5,_,_⟩:=Row.read gu
        subst e5
        obtain⟨q1,q2,q3,⟨f1,f2,f3⟩,z5⟩:=DI gu.right
        have s5:=(gu.perm (Pr.eD _ _ _)).setCell (i:=2) (.slice a5 (k+1) c5)
        have B2:Sat ((Row 83 5 (.slice a3 k c3) k (((List.replicate k BM).zip (List.replicate k lj)).flatMap lx)).star ((Pr.pts w.heap.size (mg refs (.slice a4 (k+1) c4) (.slice a5 (k+1) c5) (.slice a3 k c3) (fM false))).star ((Row 3 1 (.slice a4 (k+1) c4) (k+1) (List.replicate k (.int .i64 0)++ [.int .i64 0])).star ((Row 4 1 (.slice a5 (k+1) c5) (k+1) (List.replicate k (.bool false)++ [.bool false])).star F)))) (w5.setCell ⟨w.heap.size,2,none⟩ (.slice a5 (k+1) c5)):=(show Sat ((Pr.pts w.heap.size (mg refs (.slice a4 (k+1) c4) (.slice a5 (k+1) c5) (.slice a3 k c3) (fM false))).star ((Row 4 1 (.slice a5 (k+1) c5) (k+1) (List.replicate k (.bool false)++ [.bool false])).star ((Row 3 1 (.slice a4 (k+1) c4) (k+1) (List.replicate k (.int .i64 0)++ [.int .i64 0])).star ((Row 83 5 (.slice a3 k c3) k (((List.replicate k BM).zip (List.replicate k lj)).flatMap lx)).star F)))) _ from s5).perm (by ac_rfl)
        have A3:=hQ (B2.alloc (.cells [.int .i64 0,.int .i64 0,.slice none 0 0,.slice none 0 0,.int .i64 0].toArray 83)).right
        have TT:=hQ (eW (w5.setCell ⟨w.heap.size,2,none⟩ (.slice a5 (k+1) c5)) [.int .i64 0,.int .i64 0,.slice none 0 0,.slice none 0 0,.int .i64 0] 83 w5.heap.size (by simp [World.setCell]))
        have iM:=hQ (((ij.af.alloc (.cells #[.bool false] 4)).eH Z2).setCell ⟨w.heap.size,2,none⟩ (.slice a5 (k+1) c5))
        clear gu Z2 s5 B2 A2)
     | (at_builtin
        refine eu rfl _ _ _ rfl 83 k0 (.agg #[.int .i64 0,.int .i64 0,.slice none 0 0,.slice none 0 0,.int .i64 0]) 5 72 Tryz.underlying109 hk hx0 hx1 hx2 rfl _ _ _ rfl A3.af ⟨w5.heap.size,0,none⟩ 1 1 [.int .i64 0,.int .i64 0,.slice none 0 0,.slice none 0 0,.int .i64 0] rfl rfl TT.af (by simp [Value.oneCell']) (by simp only [maxLen];omega) (by omega) ?_
        intro v6 w6 gQ Z4 _
        obtain⟨a6,c6,e6,_,_⟩:=Row.read gQ
        subst e6
        obtain⟨q1,q2,q3,⟨f1,f2,f3⟩,z6⟩:=DI gQ.right
        have l9:=hQ ((iM.af.alloc (.cells [.int .i64 0,.int .i64 0,.slice none 0 0,.slice none 0 0,.int .i64 0].toArray 83)).eH Z4)
        have mY:=hQ gQ
        clear gQ Z4 A3))
    go_roundw
    case rel=>
     have s7:=(mY.af.perm (Pr.eD _ _ _)).setCell (i:=3) (.slice a6 (k+1) c6);refine⟨k+1,.slice a4 (k+1) c4,.slice a5 (k+1) c5,.slice a6 (k+1) c6,by omega,congrArg (Value.int .i64) (by omega),l9.af.setCell _ _,?_⟩;unfold NewAt;rw [← yo, ← yo, ← ON]
     exact(show Sat ((Pr.pts w.heap.size (mg refs (.slice a4 (k+1) c4) (.slice a5 (k+1) c5) (.slice a6 (k+1) c6) (fM false))).star ((Row 83 5 (.slice a6 (k+1) c6) (k+1) (((List.replicate k BM).zip (List.replicate k lj)).flatMap lx++ [.int .i64 0,.int .i64 0,.slice none 0 0,.slice none 0 0,.int .i64 0])).star ((Row 3 1 (.slice a4 (k+1) c4) (k+1) (List.replicate k (.int .i64 0)++ [.int .i64 0])).star ((Row 4 1 (.slice a5 (k+1) c5) (k+1) (List.replicate k (.bool false)++ [.bool false])).star F)))) _ from s7).perm (by ac_rfl)
    case measure=>simp [intOf];omega
  · have QQ:k=n:=by omega
    subst QQ;have HS:=hQ hs;clear hs;go_wp2;go_ret2;refine⟨hst,w.heap.size,rfl,iw.2 ⟨⟨cv,lv,pv,List.replicate k BM,Hp.nil⟩,?_,?_⟩⟩
    · refine⟨⟨by simp,fun i hx hl=> ?_⟩,by simp,by simp,by simpa using hn,fun c hc=> ?_,fun g hg=> ?_⟩
      · simp only [List.getElem_replicate]
        exact⟨tN (aG _),gj.nil _ _⟩
      · rw [List.eq_of_mem_replicate hc];exact aY _
      · rw [List.eq_of_mem_replicate hg]
        exact⟨by simp,by simp,fun x hx=>by cases hx⟩
    · refine HS.af.perm ?_
      unfold NewAt eE kN dX eK;rw [oS,Pr.ei];simp only [List.length_replicate,cZ]
end Go.Proofs.YtiegeadmgpanoaaGreatDoor.D2
namespace Go.Sl
theorem Ai {α:Type}(f:α→List Value)(hf:∀x,(f x).length=5)(v0 v1 v2 v3 v4:Value)(y:α)(hy:f y= [v0,v1,v2,v3,v4]):∀(l:List α) (i:Nat),i<l.length→
 (((((l.flatMap f).set (i*5) v0).set (i*5+1) v1).set (i*5+2) v2).set (i*5+3) v3).set (i*5+4) v4=(l.set i y).flatMap f
 | [],i,hi=>absurd hi (by simp)
 | x :: l,0,_=>by
   have hx:=hf x;match hfx:f x,hx with
   | [a,b,c,d,e],_=>simp [hfx,hy]
 | x :: l,i+1,hi=>by
   have hx:=hf x;have ih:=Ai f hf v0 v1 v2 v3 v4 y hy l i (by simpa using hi);simp only [aX,List.set_cons_succ]
   rw [bY _ _ (by rw [hx];omega),bY _ _ (by rw [hx];omega),bY _ _ (by rw [hx];omega),bY _ _ (by rw [hx];omega),bY _ _ (by rw [hx];omega),hx,
    show (i+1)*5-5=i*5 by omega,show (i+1)*5+1-5=i*5+1 by omega,show (i+1)*5+2-5=i*5+2 by omega,show (i+1)*5+3-5=i*5+3 by omega,show (i+1)*5+4-5=i*5+4 by omega,ih]
end Go.Sl
namespace Go.Proofs.YtiegeadmgpanoaaGreatDoor.D2
open ChangeShapes WideShapes ChangeAt RowKit Sl fB L3 Z3 E4 X6
theorem uq {α β:Type}:∀(xs:List α) (l:List β) (k:Nat) (v:α) (y:β),(xs.zip l).set k (v,y)=(xs.set k v).zip (l.set k y)
 | [],l,k,v,y=>by simp
 | x :: xs,[],k,v,y=>by cases k<;>simp
 | x :: xs,z :: l,0,v,y=>by simp
 | x :: xs,z :: l,k+1,v,y=>by
   have:=uq xs l k v y
   simp only [List.zip_cons_cons,List.set_cons_succ,this]
theorem BP {r:Nat}{s:ef}{gs:List dR}{hush:iJ}{x:RX}{F:Pr}{w:World}(h:Sat ((eE r s gs hush x).star F) w){j:Nat}(hj:j<s.counts.length):
 ∃b c,x.cv= .slice (some ⟨b,0,none⟩) s.counts.length c∧w.cell? ⟨b,j,none⟩=some (.int .i64 (s.counts.getD j 0))∧w.frozen? ⟨b,j,none⟩=false∧
  ∀v:Int,Sat ((eE r { s with counts:=s.counts.set j v } gs hush x).star F) (w.setCell ⟨b,j,none⟩ (.int .i64 v)):=by
 have h1:Sat ((dX x.cv s.counts).star ((Pr.pts r (mg s.refs x.cv x.lv x.pv hush)).star ((eK x.lv s.last).star ((kN x.pv x.xs gs).star ((Pr.own x.h).star F))))) w:=h.perm (by unfold eE;ac_rfl);obtain⟨a,c,e,_,hc⟩:=Row.read h1;obtain⟨b,eb,hd⟩:=hc (by omega);subst eb;clear hc;refine⟨b,c,e,?_,(hd j (by omega)).2,fun v=> ?_⟩
 · rw [(hd j (by omega)).1];simp [hj]
 · have h2:=h1
   rw [e] at h2;have h3:=Row.set h2 j (by simpa using hj) (.int .i64 v)
   have h4:Sat ((dX x.cv (s.counts.set j v)).star ((Pr.pts r (mg s.refs x.cv x.lv x.pv hush)).star ((eK x.lv s.last).star ((kN x.pv x.xs gs).star ((Pr.own x.h).star F))))) (w.setCell ⟨b,j,none⟩ (.int .i64 v)):=by
    unfold dX;rw [aU,bN,e];exact h3
   exact h4.perm (by unfold eE;ac_rfl)
theorem DJ {r:Nat}{s:ef}{gs:List dR}{hush:iJ}{x:RX}{F:Pr}{w:World}(h:Sat ((eE r s gs hush x).star F) w){j:Nat}(hj:j<s.last.length):
 ∃b c,x.lv= .slice (some ⟨b,0,none⟩) s.last.length c∧w.cell? ⟨b,j,none⟩=some (.bool (s.last.getD j false))∧w.frozen? ⟨b,j,none⟩=false∧
  ∀v:Bool,Sat ((eE r { s with last:=s.last.set j v } gs hush x).star F) (w.setCell ⟨b,j,none⟩ (.bool v)):=by
 have h1:Sat ((eK x.lv s.last).star ((Pr.pts r (mg s.refs x.cv x.lv x.pv hush)).star ((dX x.cv s.counts).star ((kN x.pv x.xs gs).star ((Pr.own x.h).star F))))) w:=h.perm (by unfold eE;ac_rfl);obtain⟨a,c,e,_,hc⟩:=Row.read h1;obtain⟨b,eb,hd⟩:=hc (by omega);subst eb;clear hc;refine⟨b,c,e,?_,(hd j (by omega)).2,fun v=> ?_⟩
 · rw [(hd j (by omega)).1];simp [hj]
 · have h2:=h1
   rw [e] at h2;have h3:=Row.set h2 j (by simpa using hj) (.bool v)
   have h4:Sat ((eK x.lv (s.last.set j v)).star ((Pr.pts r (mg s.refs x.cv x.lv x.pv hush)).star ((dX x.cv s.counts).star ((kN x.pv x.xs gs).star ((Pr.own x.h).star F))))) (w.setCell ⟨b,j,none⟩ (.bool v)):=by
    unfold eK;rw [aU,bN,e];exact h3
   exact h4.perm (by unfold eE;ac_rfl)
theorem vR {r:Nat}{s:ef}{gs:List dR}{hush:iJ}{x:RX}{F:Pr}{w:World}(hx:x.xs.length=gs.length)(h:Sat ((eE r s gs hush x).star F) w){j:Nat}(hj:j<gs.length):
 ∃b c,x.pv= .slice (some ⟨b,0,none⟩) gs.length c∧(∀i,i<5→w.frozen? ⟨b,j*5+i,none⟩=false∧∃v,w.cell? ⟨b,j*5+i,none⟩=some v)∧
  ∀(g:dR) (vi vd:Value),Sat ((eE r s (gs.set j g) hush { x with xs:=x.xs.set j (vi,vd) }).star F) (((((w.setCell ⟨b,j*5,none⟩ (.int .i64 g.kind)).setCell ⟨b,j*5+1,none⟩ (.int .i64 g.level)).setCell ⟨b,j*5+2,none⟩ vi).setCell ⟨b,j*5+3,none⟩ vd).setCell ⟨b,j*5+4,none⟩ (.int .i64 g.next)):=by
 have h1:Sat ((kN x.pv x.xs gs).star ((Pr.pts r (mg s.refs x.cv x.lv x.pv hush)).star ((dX x.cv s.counts).star ((eK x.lv s.last).star ((Pr.own x.h).star F))))) w:=h.perm (by unfold eE;ac_rfl);obtain⟨a,c,e,hlen,hc⟩:=Row.read h1;obtain⟨b,eb,hd⟩:=hc (by omega);subst eb;clear hc;refine⟨b,c,e,fun i hi=>⟨(hd (j*5+i) (by omega)).2,?_⟩,fun g vi vd=> ?_⟩
 · have h5:=(hd (j*5+i) (by omega)).1
   rw [ag (by omega)] at h5;exact⟨_,h5⟩
 · have h2:=h1
   rw [e] at h2;have h3:=Row.set (Row.set (Row.set (Row.set (Row.set h2 (j*5) (by omega) (.int .i64 g.kind)) (j*5+1) (by simp only [aU];omega) (.int .i64 g.level)) (j*5+2) (by simp only [aU];omega) vi) (j*5+3) (by simp only [aU];omega) vd) (j*5+4) (by simp only [aU];omega) (.int .i64 g.next)
   rw [Ai lx (fun _=>rfl) _ _ _ _ _ ((vi,vd),g) rfl (x.xs.zip gs) j (by simp;omega),uq] at h3
   have h4:Sat ((kN x.pv (x.xs.set j (vi,vd)) (gs.set j g)).star ((Pr.pts r (mg s.refs x.cv x.lv x.pv hush)).star ((dX x.cv s.counts).star ((eK x.lv s.last).star ((Pr.own x.h).star F))))) (((((w.setCell ⟨b,j*5,none⟩ (.int .i64 g.kind)).setCell ⟨b,j*5+1,none⟩ (.int .i64 g.level)).setCell ⟨b,j*5+2,none⟩ vi).setCell ⟨b,j*5+3,none⟩ vd).setCell ⟨b,j*5+4,none⟩ (.int .i64 g.next)):=by
    unfold kN;rw [aU,e];exact h3
   exact h4.perm (by unfold eE;ac_rfl)
end Go.Proofs.YtiegeadmgpanoaaGreatDoor.D2
namespace Go.Proofs.YtiegeadmgpanoaaGreatDoor.C7
open ChangeShapes WideShapes ChangeAt RowKit Sl fB D2 L3 Z3 E4 X6
end Go.Proofs.YtiegeadmgpanoaaGreatDoor.C7
namespace Go.Proofs.YtiegeadmgpanoaaGreatDoor.D2
open ChangeShapes WideShapes ChangeAt RowKit Sl fB L3 Q3 Z3 E4 X6
def jK(n:Nat)(on:Int→Option dR):List dR:=(List.range n).map fun i:Nat=>(on ((i:Int)+1)).getD lj
def iY(n:Nat)(on:Int→Option dR):List Bool:=(List.range n).map fun i:Nat=>(on ((i:Int)+1)).isSome
theorem JB {n:Nat}{on:Int→Option dR}{j:Nat}(g:dR):(jK n on).set j g=jK n fun m=>if m=(j:Int)+1 then some g else on m:=by
 unfold jK;refine cq (by simp) fun i h1 h2=> ?_
 rw [List.getElem_set];simp only [bQ,dA];by_cases h:j=i
 · subst h;simp
 · rw [if_neg h,if_neg (by omega)]
theorem Ge {n:Nat}{on:Int→Option dR}{j:Nat}(g:dR):(iY n on).set j true=iY n fun m=>if m=(j:Int)+1 then some g else on m:=by
 unfold iY;refine cq (by simp) fun i h1 h2=> ?_
 rw [List.getElem_set];simp only [bQ,dA];by_cases h:j=i
 · subst h;simp
 · rw [if_neg h,if_neg (by omega)]
theorem Aj {n:Nat}{on:Int→Option dR}{j:Nat}(hj:j<n):(iY n on).getD j false=(on ((j:Int)+1)).isSome:=by
 unfold iY;simp [hj]
theorem Gf(n:Nat):jK n (fun _=>none)=List.replicate n lj:=by
 unfold jK;refine cq (by simp) fun i h1 h2=> ?_
 simp
theorem DK(n:Nat):iY n (fun _=>none)=List.replicate n false:=by
 unfold iY;refine cq (by simp) fun i h1 h2=> ?_
 simp
abbrev uu(v:Value)(l:List Bool):Pr:=Row 4 1 v l.length (l.map Value.bool)
theorem filled {α:Type}{us cs:List α}(hl:us.length=cs.length)(h:∀i,i<cs.length→us[i]? =cs[i]?):us=cs:=
 List.ext_getElem? fun i=>by
  rcases aB i cs.length with hi | hi
  · exact h i hi
  · rw [c_ (by omega),c_ hi]
theorem nZ {α:Type}{us cs:List α}{k:Nat}(hl:us.length=cs.length)(hk:k<cs.length)(h:∀i,i<k→us[i]? =cs[i]?):∀i,i<k+1→(us.set k cs[k])[i]? =cs[i]? :=by
 intro i hi;by_cases he:i=k
 · subst he
   rw [cK (by omega),ag hk]
 · rw [cn (by omega)]
   exact h i (by omega)
abbrev JC(refs:Int)(us:List Int)(bs:List Bool):ef:= { refs:=refs,counts:=us,last:=bs,acts:= [],floor:=0 }
theorem OO {r:Nat}{s:ef}{gs:List dR}{hush:iJ}{x:RX}{F:Pr}{w:World}{h':Hp}{vi vd:Value}{g:dR}{j:Nat}(ok:yk s gs x)(hg:fV h' (fX g.kind g.level vi vd g.next) g)(hf:Fit g)
 (h:Sat ((eE r s (gs.set j g) hush { x with xs:=x.xs.set j (vi,vd) }).star ((Pr.own h').star F)) w):Sat ((kJ r s (gs.set j g) hush).star F) w:=by
 have h1:Sat ((Pr.own x.h).star ((Pr.own h').star ((Pr.pts r (mg s.refs x.cv x.lv x.pv hush)).star ((dX x.cv s.counts).star ((eK x.lv s.last).star ((kN x.pv (x.xs.set j (vi,vd)) (gs.set j g)).star F)))))) w:=h.perm (by unfold eE;dsimp only;ac_rfl);obtain⟨hd,h2⟩:=h1.jT;obtain⟨_,_,e,y1,y2⟩:=hg
 simp only [fX,Value.agg.injEq,Array.mk.injEq,List.cons.injEq,and_true,true_and] at e;obtain⟨rfl,rfl⟩:=e;refine iw.2 ⟨{ x with xs:=x.xs.set j (vi,vd),h:=x.h.un h' },⟨⟨?_,fun i hx hl=> ?_⟩,ok.ll,?_,ok.n2,ok.c0,fun g2 hg2=> ?_⟩,h2.perm (by unfold eE;dsimp only;ac_rfl)⟩
 · simp only [aU];exact ok.P0.len
 · dsimp only
   simp only [aU] at hx hl;by_cases he:j=i
   · subst he
     simp only [de];exact⟨y1.sub (Hp.fZ hd),y2.sub (Hp.fZ hd)⟩
   · simp only [List.getElem_set_ne he]
     obtain⟨p1,p2⟩:=ok.P0.at' i hx hl;exact⟨p1.sub (Hp.fE _ _),p2.sub (Hp.fE _ _)⟩
 · rw [aU];exact ok.gl
 · rcases cC hg2 with h3 | h3
   · exact ok.fit g2 h3
   · rw [h3];exact hf
theorem JD(refs:Int)(h:Hp)(vc vl:Value)(cs:List Int)(l:List mG)(hx:r_ h vc cs)(hl:o6 h vl l)(hn:l.length≤9223372036854775807)(F:Pr)(w:World)(hF:Sat ((Pr.own h).star F) w):
 Calls Tryz.prog 74 #[.int .i64 refs,vc,vl] w fun e w'=>dN w w'∧
  (((jw refs cs l).1≠0∧e= .returned (.tuple #[.pointer none,.int .i64 (jw refs cs l).1])∧Sat ((Pr.own h).star F) w')∨
   ((jw refs cs l).1=0∧∃r,e= .returned (.tuple #[.pointer (some ⟨r,0,none⟩),.int .i64 0])∧Sat ((kJ r (fA refs cs 0) (jK cs.length (jw refs cs l).2) (fM false)).star ((Pr.own h).star F)) w')):=by
 obtain⟨al,cl,rfl,rd⟩:=t_ hl;obtain⟨ac,cc,rfl,rc⟩:=oW hx;have RD:=hQ rd;have RC:=hQ rc;have hn0:(l.length:Int)≤9223372036854775807:=by omega
 clear rd rc hl hx;cases hr:i7 cs.length refs with
 | false=>
   have NB:=fun wx=>hQ (L' cs.length refs hr wx)
   have HR:=hQ hr;clear hr;go_enter Tryz.func74,Tryz.ntmps74
   go_wp2_with fail
   refine(NB _).af.mono ?_;rintro e w1 ⟨rfl,rfl⟩;go_wp2;go_ret2;refine⟨dN.refl _,.inl ?_⟩;rw [vP HR.af];exact⟨by decide,rfl,hF⟩
 | true=>
   have hnc:cs.length≤65536:=by have:=l7.1 hr;omega
   have aap:(cs.length:Int)≤65536:=by omega
   have NW:=hQ (Mb cs.length refs hr _ w hF);have HR:=hQ hr;clear hr hF;go_enter Tryz.func74,Tryz.ntmps74
   go_wp2_with fail
   refine NW.af.mono ?_;rintro e w1 ⟨wu,r,rfl,hs1⟩;obtain⟨x,ok,hs2⟩:=iw.1 hs1;have OK:=hQ ok;have lK:=hQ hs2;have eQ:=hQ wu;clear hs1 hs2 ok wu NW;go_wp2_with fail
   go_loopw [10,11] (fun lw i wr=> ∃(k:Nat) (us:List Int) (bs:List Bool),k≤cs.length∧i= .int .i64 k∧dN w wr∧us.length=cs.length∧bs.length=cs.length∧Hid (∀i,i<k→us[i]? =cs[i]?)∧Hid (∀i,i<k→bs[i]? =(fy cs)[i]?)∧Hid (∀i,i<k→0≤cs.getD i 0∧cs.getD i 0≤refs)∧
    Sat ((eE r (JC refs us bs) (List.replicate cs.length lj) (fM false) x).star ((Row 4 1 lw k (List.replicate k (.bool false))).star ((Pr.own h).star F))) wr) (fun _ i _=>cs.length-(intOf i).toNat)
   case atStart=>
    refine⟨0,List.replicate cs.length 0,List.replicate cs.length false,aG _,rfl,eQ.af,by simp,by simp,hQ (fun i hi=>absurd hi (by omega)),hQ (fun i hi=>absurd hi (by omega)),hQ (fun i hi=>absurd hi (by omega)),?_⟩;show Sat ((eE r _ _ (fM false) x).star ((Row 4 1 (.slice none 0 0) 0 []).star ((Pr.own h).star F))) _
    rw [Row.nil,Pr.fK];exact lK.af
   case round=>
    obtain⟨k,us,bs,hkl,rfl,hst,yJ,hbl,X7,hbs,yY,hs⟩:=hrel;obtain⟨aw,dw,rfl,_,_⟩:=Row.read hs.right;rcases aB k cs.length with hlt | hge
    · obtain⟨b,off,rfl,c1⟩:=RC.af k hlt
      have q0:=c1 wr hs.right.right.own;have hcm:cs.getD k 0∈cs:=by simp [hlt]
      have Sm:cs.getD k 0=cs[k]:=by simp [hlt]
      have Z5:=hQ hcm;have X8:=hQ Sm;have Sf:=hQ c1;have Nk:=hQ yJ;have JE:=hQ hbl;clear c1 hcm Sm yJ hbl;generalize cs.getD k 0=c at*;by_cases hc0:c<0
      · have Kk:=hQ hc0
        have HS:=hQ hs;clear hs;go_wp2;go_ret2;refine⟨hst,.inl ?_⟩;rw [vh HR.af (Dk ⟨c,Z5.af,Kk.af⟩)];exact⟨(show (13:Int)≠0 by decide),rfl,HS.af.right.right⟩
      by_cases hc1:refs<c
      · have Kk:=hQ hc1
        have HS:=hQ hs;clear hs;go_wp2;go_ret2;refine⟨hst,.inl ?_⟩;rw [vh HR.af (Dl ⟨c,Z5.af,Kk.af⟩)];exact⟨(show (13:Int)≠0 by decide),rfl,HS.af.right.right⟩
      have Kk:=hQ (show 0≤c∧c≤refs by omega);have NJ:=hs;have hk1:k<(JC refs us bs).counts.length:=by show k<us.length;rw [Nk.af];exact hlt
      obtain⟨b1,d1,P1,k0,kf,Z6⟩:=BP NJ hk1;have X9:=DI (hs.perm (B:=(Pr.pts r (mg refs x.cv x.lv x.pv (fM false))).star ((dX x.cv us).star ((eK x.lv bs).star ((kN x.pv x.xs (List.replicate cs.length lj)).star ((Pr.own x.h).star ((Row 4 1 (.slice aw k dw) k (List.replicate k (.bool false))).star ((Pr.own h).star F))))))) (by unfold eE;ac_rfl))
      obtain⟨q1,q2,q3,_,z,_⟩:=X9;rw [P1] at q1;have Z7:(JC refs us bs).counts.length=cs.length:=Nk.af;rw [Z7] at q1 P1;have W1:=(Z6 c).drew;have aaq:=hQ P1;have eR:=hQ hst;clear hs NJ Z6 hst hk1 Z7 P1;go_wp2_with fail
      refine wS 134 [0,1,2,3,4,5,6,7,8,9] [(10,[],[])] ?_;refine dY _ rfl rfl ?_;simp only [pick,pQ];iterate 10 (go_big_quiet_step (fail))
      refine wpQuiet_nil ?_;refine dK rfl ?_;go_wp2;refine dQ (dU ⟨eM,dW ?_⟩);have jq:=(eR.af.setCell ⟨b1,k,none⟩ (.int .i64 c)).drew;generalize (wr.setCell ⟨b1,k,none⟩ (.int .i64 c)).drew=w5 at*;have q05:=Sf.af w5 W1.right.right.own;have hk2:k<(JC refs (us.set k c) bs).last.length:=by show k<bs.length;rw [JE.af];exact hlt
      obtain⟨b2,d2,R_,m0,mf,Z8⟩:=DJ (s:=JC refs (us.set k c) bs) W1 hk2
      have X9:=DI (W1.perm (B:=(Pr.pts r (mg refs x.cv x.lv x.pv (fM false))).star ((dX x.cv (us.set k c)).star ((eK x.lv bs).star ((kN x.pv x.xs (List.replicate cs.length lj)).star ((Pr.own x.h).star ((Row 4 1 (.slice aw k dw) k (List.replicate k (.bool false))).star ((Pr.own h).star F))))))) (by unfold eE;ac_rfl));clear q1 q2 q3 z;obtain⟨q1,q2,q3,_,z,_⟩:=X9
      rw [R_] at q2;have Z9:(JC refs (us.set k c) bs).last.length=cs.length:=JE.af;rw [Z9] at q2 R_;have W2:=(Z8 (decide (0<c))).drew;have fa:=hQ jq;clear W1 Z8 jq hk2 Z9 R_ q0 k0 kf;go_wp2_with fail
      refine wS 134 [0,1,2,3,4,5,6,7,8,9,10] [(11,[],[])] ?_;refine dY _ rfl rfl ?_;simp only [pick,pQ];iterate 11 (go_big_quiet_step (fail))
      refine wpQuiet_nil ?_;refine dK rfl ?_;go_wp2;refine dQ (dU ⟨eM,dW ?_⟩);have mP:=(fa.af.setCell ⟨b2,k,none⟩ (.bool (decide (0<c)))).drew;generalize (w5.setCell ⟨b2,k,none⟩ (.bool (decide (0<c)))).drew=w6 at*;obtain⟨j0,hj,hy0,hy1,Cw⟩:=info_parts tK;have A2:=hQ ((W2.perm (Pr.eD _ _ _)).alloc (.cells #[.bool false] 4)).right
      have Cs:=hQ (eW w6 [.bool false] 4 w6.heap.size rfl);have gg:=hQ mP;clear W2 mP q05 q1 q2 q3 z m0 mf
      go_wp2_with (
       at_builtin
       refine eu rfl _ _ _ rfl 4 j0 (.bool false) 1 1 Tryz.underlying93 hj hy0 hy1 Cw rfl _ _ _ rfl A2.af ⟨w6.heap.size,0,none⟩ 1 1 [.bool false] rfl rfl Cs.af (by simp [Value.oneCell']) (by simp only [maxLen];omega) (by omega) ?_
       intro v7 w7 gZ lC _
       obtain⟨Ke,Kf,xJ,_,_⟩:=Row.read gZ
       subst xJ
       have rQ:=hQ gZ
       have HG7:=hQ lC
       clear gZ lC)
      refine⟨⟨k+1,us.set k c,bs.set k (decide (0<c)),by omega,congrArg (Value.int .i64) (by omega),(gg.af.alloc _).eH HG7.af,by rw [aU];exact Nk.af,by rw [aU];exact JE.af,hQ ?_,hQ ?_,hQ ?_,?_⟩,by simp [intOf];omega⟩
      · rw [X8.af];exact nZ Nk.af hlt X7.af
      · have hl2:k<(fy cs).length:=by simpa [fy] using hlt
        have e2:decide (0<c)=(fy cs)[k]:=by rw [X8.af];simp [fy]
        rw [e2];exact nZ (by rw [JE.af];simp [fy]) hl2 hbs.af
      · intro i hi
        by_cases he:i=k
        · subst he
          have:cs.getD i 0=c:=by rw [X8.af];simp [hlt]
          rw [this];exact Kk.af
        · exact yY.af i (by omega)
      · rw [← yo]
        exact rQ.af.perm (Pr.eD _ _ _)
    · have QQ:k=cs.length:=by omega
      subst QQ;have e1:us=cs:=filled yJ X7.af;have e2:bs=fy cs:=filled (by rw [hbl];simp [fy]) (by intro i hi;exact hbs.af i (by simpa [fy] using hi));subst e1 e2
      have vj:wh refs us=false:=by
       refine List.any_eq_false.2 fun c hc=> ?_
       obtain⟨i,hi,rfl⟩:=bF hc;have:=yY.af i hi
       simp only [az,ag hi,Option.getD_some] at this;simp only [decide_eq_true_eq];omega
      have vC:=hQ (Ae (l:=l) HR.af vj);have hpos:∀c∈us,0≤c:=fun c hc=>(yb vj c hc).1
      have Z_:Sat ((kJ r (fA refs us 0) (jK us.length fun _=>none) (fM false)).star ((uu (.slice aw us.length dw) (iY us.length fun _=>none)).star ((Pr.own h).star F))) wr:=by
       rw [Gf,DK];refine iw.2 ⟨x,⟨OK.af.P0,by simp [fy],by simp,hnc,hpos,OK.af.fit⟩,?_⟩;unfold uu;rw [List.length_replicate,cZ];exact hs
      have HRA:=hQ Z_;have eR:=hQ hst;have Jb:=hQ hpos;clear hs Z_ hst hpos vj X7 hbs yY yJ hbl lK OK eQ;go_wp2_with fail
      go_loopw [12] (fun i wr=> ∃(k:Nat) (on:Int→Option dR),k≤l.length∧i= .int .i64 k∧dN w wr∧Hid (lay us (l.drop k) on=lay us l fun _=>none)∧Hid (tO us on)∧
       Sat ((kJ r (fA refs us 0) (jK us.length on) (fM false)).star ((uu (.slice aw us.length dw) (iY us.length on)).star ((Pr.own h).star F))) wr) (fun i _=>l.length-(intOf i).toNat)
      case atStart=>exact⟨0,fun _=>none,aG _,rfl,eR.af,hQ rfl,hQ (tO.none us),HRA.af⟩
      case round=>
       obtain⟨k,on,hkl,rfl,hst,BD,sQ,hs⟩:=hrel;rcases aB k l.length with hlt | hge
       · obtain⟨b,off,ai,ci,ad,cd,rfl,oK,hcell⟩:=RD.af k hlt
         obtain⟨c0,_⟩:=hcell wr hs.right.right.own;have oG:=BD.af;rw [aQ hlt] at oG;have sS:=hQ oG;have Mc:=hQ hcell;clear BD oG hcell;generalize l[k]=x at*;have RT:=hQ (mS r (fA refs us 0) _ (fM false) x.no _ wr hs);rw [show (fA refs us 0).count x.no=jH us x.no from lr refs us x.no] at RT;by_cases hc0:jH us x.no=0
         · rw [hc0] at RT
           have Kk:=hQ hc0;have HS:=hQ hs;clear hs;go_wp2_with fail
           refine RT.af.mono ?_;rintro e w4 ⟨rfl,rfl⟩;go_wp2;go_ret2;refine⟨hst,.inl ?_⟩;have e:lay us l (fun _=>none)=(15,on):=by rw [← sS.af];unfold lay;rw [if_pos Kk.af]
           rw [vC.af,e,if_pos (show (15:Int)≠0 by decide)];exact⟨(show (15:Int)≠0 by decide),rfl,HS.af.right.right⟩
         obtain⟨hb1,hb2⟩:=pY hc0;obtain⟨j,hno,hj⟩:∃j:Nat,x.no=(j:Int)+1∧j<us.length:=⟨x.no.toNat-1,by omega,by omega⟩
         have nH:0<jH us x.no:=by
          have hm:us.getD j 0∈us:=by simp [hj]
          have h1:jH us x.no=us.getD j 0:=by unfold jH;rw [if_pos ⟨hb1,hb2⟩,show x.no.toNat-1=j by omega]
          have:=Jb.af _ hm
          omega
         rw [decide_eq_true nH,hno] at RT;rw [hno] at c0;have Kk:=hQ hc0;have tQ:=hQ hno;have HJ:=hQ hj;have hjl:j<(iY us.length on).length:=by unfold iY;simpa using hj
         obtain⟨Wv,Ww,P2,_,hrl⟩:=Row.read hs.right;obtain⟨bw,TU,yZ⟩:=hrl (by omega);rw [show (iY us.length on).length=us.length by simp [iY]] at P2;cases P2;subst TU
         have hlc:wr.cell? ⟨bw,j,none⟩=some (.bool (on ((j:Int)+1)).isSome):=by
          rw [(yZ j (by omega)).1];have:=Aj (on:=on) hj
          rw [az,ag hjl] at this;rw [aO,ag hjl];simpa using this
         have hlf:=(yZ j (by omega)).2;clear hrl yZ nH hc0 hb1 hb2 hno;cases BE:on ((j:Int)+1) with
         | some g=>
           rw [BE] at hlc;have HS:=hQ hs;clear hs;go_wp2_with fail
           refine RT.af.mono ?_;rintro e w4 ⟨rfl,rfl⟩;go_wp2;go_ret2;refine⟨hst,.inl ?_⟩;have e:lay us l (fun _=>none)=(10,on):=by rw [← sS.af];unfold lay;rw [if_neg Kk.af,if_pos (by rw [tQ.af,BE];rfl)]
           rw [vC.af,e,if_pos (show (10:Int)≠0 by decide)];exact⟨(show (10:Int)≠0 by decide),rfl,HS.af.right.right⟩
         | none=>
         rw [BE] at hlc;obtain⟨_,c1,c2,c3,c4,c5⟩:=Mc.af wr hs.right.right.own;have RK:=fun wx hx=>hQ (sM x.page h _ oK wx hx)
         have HS:=hQ hs;have fa:=hQ hst;clear hs hst;go_wp2_with fail
         refine RT.af.mono ?_;rintro e w4 ⟨rfl,rfl⟩;go_wp2_with fail
         refine(RK _ HS.af.right.right.own).af.mono ?_;rintro e w5 ⟨rfl,La⟩;have gu:=HS.af.only La;have xC:=fa.af.trans La.st;clear c0 c1 c2 c3 c4 c5 hlc hlf HS fa RK La;by_cases nH:iU x.page=0
         · have hcn:(iU x.page != 0)=false:=by rw [bne_eq_false_iff_eq];exact nH
           have DF:=hQ nH;have hfit:=fU nH;have yW:=hQ hfit;obtain⟨Wv,Ww,P2,_,hrl⟩:=Row.read gu.right;obtain⟨bw2,TU,yZ⟩:=hrl (by omega);rw [show (iY us.length on).length=us.length by simp [iY]] at P2;cases P2;cases TU;have hlc:∃u,w5.cell? ⟨bw,j,none⟩=some u:=⟨_,(yZ j (by omega)).1.trans (by rw [aO,ag hjl];rfl)⟩
           obtain⟨u0,hlc⟩:=hlc;have hlf:=(yZ j (by omega)).2;have hL:=gu.perm (Pr.eD _ _ _)
           have Z':Sat ((Row 4 1 (.slice (some ⟨bw,0,none⟩) us.length dw) us.length ((iY us.length on).map Value.bool)).star ((kJ r (fA refs us 0) (jK us.length on) (fM false)).star ((Pr.own h).star F))) w5:=by
            have e:=show (iY us.length on).length=us.length by simp [iY]
            unfold uu at hL;rw [e] at hL;exact hL
           have hL3:=Row.set Z' j (by simpa [iY] using hj) (.bool true);have hz5:bw<w5.heap.size:=ay _ _ hlc;have Dn:=xC.setCell ⟨bw,j,none⟩ (.bool true);have HL3:=hQ hL3;have l9:=hQ Dn;clear hrl yZ hL Z' hL3 gu xC Dn nH hfit;go_wp2_with fail
           generalize w5.setCell ⟨bw,j,none⟩ (.bool true)=w6 at*;clear hlc hlf hz5;obtain⟨x2,tJ,TV⟩:=iw.1 (HL3.af.perm (Pr.eD _ _ _));have SU:j<(jK us.length on).length:=by simpa [jK] using hj
           obtain⟨b8,d8,qy,_,_⟩:=vR tJ.P0.len TV SU
           obtain⟨_,_,q3,_,z,_⟩:=DI (TV.perm (B:=(Pr.pts r (mg refs x2.cv x2.lv x2.pv (fM false))).star ((dX x2.cv us).star ((eK x2.lv (fy us)).star ((kN x2.pv x2.xs (jK us.length on)).star ((Pr.own x2.h).star ((Row 4 1 (.slice (some ⟨bw,0,none⟩) us.length dw) us.length (((iY us.length on).map Value.bool).set j (.bool true))).star ((Pr.own h).star F))))))) (by unfold eE;ac_rfl))
           rw [qy,show (jK us.length on).length=us.length by simp [jK]] at q3;have EPV:=hQ qy;obtain⟨_,c1,c2,c3,c4,c5⟩:=Mc.af w6 TV.right.right.own
           have CP:=hQ (qd h _ x.page oK (by have:=yW.af.n;omega) (fun y hy=>by have:=fit_keys yW.af y hy;omega) (by have:=yW.af.d;omega) _ w6.drew ((TV.drew).perm (B:=(Pr.own h).star ((eE r (fA refs us 0) (jK us.length on) (fM false) x2).star ((Row 4 1 (.slice (some ⟨bw,0,none⟩) us.length dw) us.length (((iY us.length on).map Value.bool).set j (.bool true))).star F))) (by ac_rfl)))
           have OK2:=hQ tJ;clear TV tJ HL3 qy;go_wp2_with fail
           refine wS 134 [0,1,2,3,4,5,6,7,8,9,10] [(11,[12],[0,1,2,3,4,5,6,7,8,9]),(13,[],[])] ?_;refine dY _ rfl rfl ?_;simp only [pick,pQ];iterate 11 (go_big_quiet_step (fail))
           refine wpQuiet_nil ?_;refine dK rfl ?_;go_wp2_with fail
           refine CP.af.mono ?_;rintro e w7 ⟨pv,h',rfl,xQ,gZ,zJ⟩;obtain⟨vi,vd,rfl,hit,hby⟩:=id xQ;obtain⟨a8,c8,rfl,_,_⟩:=fL hit;obtain⟨a9,c9,rfl⟩:=eB hby
           have H7:Sat ((eE r (fA refs us 0) (jK us.length on) (fM false) x2).star ((Pr.own h').star ((Row 4 1 (.slice (some ⟨bw,0,none⟩) us.length dw) us.length (((iY us.length on).map Value.bool).set j (.bool true))).star ((Pr.own h).star F)))) w7:=gZ.perm (by ac_rfl);obtain⟨b9,d9,qy,hcl,wr8⟩:=vR OK2.af.P0.len H7 SU;rw [EPV.af] at qy;cases qy
           obtain⟨g0,u0,k0⟩:=hcl 0 (by omega);obtain⟨g1,u1,k1⟩:=hcl 1 (by omega);obtain⟨g2,u2,k2⟩:=hcl 2 (by omega);obtain⟨g3,u3,k3⟩:=hcl 3 (by omega);obtain⟨g4,u4,k4⟩:=hcl 4 (by omega);rw [Nat.add_zero] at g0 k0;have W8:=hQ (wr8 x.page (.slice a8 x.page.items.length c8) (.slice a9 x.page.data.length c9));have iN:=hQ (l9.af.drew.trans zJ)
           have q37:w7.cell? ⟨r,3,none⟩=some (.slice (some ⟨b8,0,none⟩) us.length d8):=by
            have:=(DI (H7.perm (B:=(Pr.pts r (mg refs x2.cv x2.lv x2.pv (fM false))).star ((dX x2.cv us).star ((eK x2.lv (fy us)).star ((kN x2.pv x2.xs (jK us.length on)).star ((Pr.own x2.h).star ((Pr.own h').star ((Row 4 1 (.slice (some ⟨bw,0,none⟩) us.length dw) us.length (((iY us.length on).map Value.bool).set j (.bool true))).star ((Pr.own h).star F)))))))) (by unfold eE;ac_rfl))).2.2.1
            rw [EPV.af,show (jK us.length on).length=us.length by simp [jK]] at this;exact this
           have zk:=ay _ _ k0;have zr:=ay _ _ q37;clear q3 z c1 c2 c3 c4 c5;obtain⟨_,c1,c2,c3,c4,c5⟩:=Mc.af w7 H7.right.right.right.own;have HPV:=hQ xQ;clear gZ zJ H7 hcl wr8 hit hby CP xQ;go_wp2;refine dQ ?_;refine dY _ rfl rfl ?_;simp only [pick,pQ];iterate 1 (go_big_quiet_step (fail))
           refine wpQuiet_nil ⟨?_,?_⟩
           · exact cQ
           refine dK rfl ?_;go_wp2;refine dQ (dU ⟨eM,dW ?_⟩);have W9:=W8.af;have T9:=((((iN.af.setCell ⟨b8,j*5,none⟩ (.int .i64 x.page.kind)).setCell ⟨b8,j*5+1,none⟩ (.int .i64 x.page.level)).setCell ⟨b8,j*5+2,none⟩ (.slice a8 x.page.items.length c8)).setCell ⟨b8,j*5+3,none⟩ (.slice a9 x.page.data.length c9)).setCell ⟨b8,j*5+4,none⟩ (.int .i64 x.page.next)
           generalize (((((w7.setCell ⟨b8,j*5,none⟩ (.int .i64 x.page.kind)).setCell ⟨b8,j*5+1,none⟩ (.int .i64 x.page.level)).setCell ⟨b8,j*5+2,none⟩ (.slice a8 x.page.items.length c8)).setCell ⟨b8,j*5+3,none⟩ (.slice a9 x.page.data.length c9)).setCell ⟨b8,j*5+4,none⟩ (.int .i64 x.page.next))=w8 at*;clear g0 g1 g2 g3 g4 k0 k1 k2 k3 k4 c1 c2 c3 c4 c5 q37 zk zr W8;go_wp2;go_roundw
           case rel=>
            have h10:=OO OK2.af HPV.af yW.af W9;rw [JB] at h10;refine⟨k+1,fun m=>if m=(j:Int)+1 then some x.page else on m,by omega,congrArg (Value.int .i64) (by omega),T9,hQ ?_,hQ ?_,?_⟩
            · rw [← sS.af]
              conv=>rhs;unfold lay
              rw [if_neg Kk.af,if_neg (by rw [tQ.af,BE];decide),if_neg (by rw [DF.af];decide),tQ.af]
            · have:=sQ.af.put Kk.af DF.af
              rw [tQ.af] at this;exact this
            · have e7:=Ge (n:=us.length) (on:=on) (j:=j) x.page
              unfold uu;rw [← e7,aU,show (iY us.length on).length=us.length by simp [iY],bN];exact h10
           case measure=>simp [intOf];omega
         · have hcn:(iU x.page != 0)=true:=by rw [bne_iff_ne];exact nH
           have DF:=hQ nH;have HS:=hQ gu;clear gu nH;go_wp2;go_ret2;refine⟨xC,.inl ?_⟩;have e:lay us l (fun _=>none)=(iU x.page,on):=by rw [← sS.af];unfold lay;rw [if_neg Kk.af,if_neg (by rw [tQ.af,BE];decide),if_pos DF.af]
           rw [vC.af,e,if_pos DF.af];exact⟨DF.af,rfl,HS.af.right.right⟩
       · have u_:k=l.length:=by omega
         subst u_;have oG:=BD.af;rw [bP] at oG;have sS:=hQ (show lay us l (fun _=>none)=(0,on) from oG.symm);have HS:=hQ hs;have fa:=hQ hst;have NR:(iY us.length on).length=us.length:=by simp [iY]
         have Wx:=hQ NR;clear BD oG hs hst NR;go_wp2_with fail
         go_loopw [15] (fun i wz=> ∃k:Nat,k≤us.length∧i= .int .i64 k∧wz=wr∧Hid (∀i,i<k→us.getD i 0≠0→on ((i:Int)+1)≠none)) (fun i _=>us.length-(intOf i).toNat)
         case atStart=>exact⟨0,aG _,rfl,rfl,hQ (fun i hi=>absurd hi (by omega))⟩
         case round=>
          obtain⟨k,hk3,rfl,rfl,hall⟩:=hrel;rcases aB k us.length with hlt | hge
          · obtain⟨b,off,rfl,c1⟩:=RC.af k hlt
            have q0:=c1 wr HS.af.right.right.own;have hm:us.getD k 0∈us:=by simp [hlt]
            have hc0:=Jb.af _ hm;obtain⟨Wv,Ww,P2,_,hrl⟩:=Row.read HS.af.right;obtain⟨bw,TU,yZ⟩:=hrl (by rw [Wx.af];omega);rw [Wx.af] at P2;cases P2;subst TU
            have hlc:wr.cell? ⟨bw,k,none⟩=some (.bool (on ((k:Int)+1)).isSome):=by
             rw [(yZ k (by rw [Wx.af];omega)).1];have:=Aj (on:=on) hlt
             have hjl:k<(iY us.length on).length:=by rw [Wx.af];exact hlt
             rw [az,ag hjl] at this;rw [aO,ag hjl];simpa using this
            have HD:=hQ (show us.getD k 0=us.getD k 0 from rfl);obtain⟨c,hc⟩:∃c,c=us.getD k 0:=⟨_,rfl⟩;rw [← hc] at q0 hc0;have HC:=hQ hc;clear c1 hm hrl yZ HD hc;by_cases hz:c=0
            · subst hz
              go_wp2;go_roundw
              case rel=>
               refine⟨k+1,by omega,congrArg (Value.int .i64) (by omega),trivial,hQ fun i hi hne=> ?_⟩;by_cases he:i=k
               · subst he;exact absurd HC.af.symm hne
               · exact hall.af i (by omega) hne
              case measure=>simp [intOf];omega
            · have hp:0<c:=by omega
              cases BE:on ((k:Int)+1) with
              | none=>
                rw [BE] at hlc;go_wp2;go_ret2;refine⟨fa.af,.inl ?_⟩
                have hlk:lacks us on=true:=rM.2 ⟨(k:Int)+1,pB.2 (by
                 unfold jH
                 rw [if_pos (by omega),show ((k:Int)+1).toNat-1=k by omega, ← HC.af]
                 exact hz),BE⟩
                rw [vC.af,sS.af,if_neg (show ¬(0:Int)≠0 by decide),if_pos hlk];exact⟨(show (9:Int)≠0 by decide),rfl,HS.af.right.right⟩
              | some g=>
                rw [BE] at hlc;go_wp2;go_roundw
                case rel=>
                 refine⟨k+1,by omega,congrArg (Value.int .i64) (by omega),trivial,hQ fun i hi hne=> ?_⟩;by_cases he:i=k
                 · subst he;rw [BE];exact fun h=>by cases h
                 · exact hall.af i (by omega) hne
                case measure=>simp [intOf];omega
          · have X_:k=us.length:=by omega
            subst X_;have X':=hQ hall.af;clear hall;go_wp2;go_ret2;refine⟨fa.af,.inr ?_⟩
            have hlk:lacks us on=false:=by
             cases hq:lacks us on with
             | false=>rfl
             | true=>
               obtain⟨y,hy,So⟩:=rM.1 hq;have Wy:=pB.1 hy;obtain⟨y1,y2⟩:=pY Wy;unfold jH at Wy;rw [if_pos ⟨y1,y2⟩] at Wy;have:=X'.af (y.toNat-1) (by omega) Wy
               rw [show (((y.toNat-1:Nat):Int))+1=y by omega] at this;exact absurd So this
            rw [vC.af,sS.af,if_neg (show ¬(0:Int)≠0 by decide),if_neg (by rw [hlk];decide)];exact⟨rfl,r,rfl,(HS.af.perm (Pr.eD _ _ _)).right⟩
end Go.Proofs.YtiegeadmgpanoaaGreatDoor.D2
namespace Go.Proofs.YtiegeadmgpanoaaGreatDoor.D2
open ChangeShapes WideShapes ChangeAt RowKit Sl fB L3 Z3 E4 X6 C7
theorem ff {P:Program}{F:Pr}{w:World}{ops:Array Oper}{rest:List Oper}{o:Oper}{a:Act}{Q:Exit→Act→World→Prop}(hgd:o.guard=none)(s x:Operand)(t:TypeId)
 (ho:o.op= .call { callee:= .builtin .append,args:= #[s,x],argTypes:= #[t,t] })
 (e:TypeId) (i:TypeInfo) (z:Value) (size bytes:Nat) (ht:P.underlying t=some (.slice e)) (hi:P.info? e=some i) (hz:i.zero=some z)
 (hsize:i.size=size) (hby:i.bytes=bytes) (hzs:z.cells.size=size)
 (v:Value) (n:Nat) (xs:List Value) (hs:a.eval s=v) (hown:Sat ((Row e size v n xs).star F) w)
 (ad:Addr) (m c:Nat) (news:List Value) (hx:a.eval x= .slice (some ad) m c) (hl:news.length=m*size) (hnews:∀j u,news[j]? =some u→w.cell? (ad.add j)=some u) (h1:∀u∈news,u.oneCell'=true)
 (h63:n+m≤maxLen) (hbytes:(n+m)*bytes≤140737488355328)
 (h:∀v' w',Sat ((Row e size v' (n+m) (xs++news)).star F) w'→w.grownBy w' v.ownBlock→∀K:Act→Prop,(∀a',wpList P ops Q rest a' w'→K a')→K (a.put o.dst v')):wpList P ops Q (o :: rest) a w:=
 eu hgd s x t ho e i z size bytes ht hi hz hsize hby hzs v n xs hs hown ad m c news hx hl hnews h1 h63 hbytes fun v' w' h2 h3 _=>h v' w' h2 h3 _ fun _ h=>h
end Go.Proofs.YtiegeadmgpanoaaGreatDoor.D2
