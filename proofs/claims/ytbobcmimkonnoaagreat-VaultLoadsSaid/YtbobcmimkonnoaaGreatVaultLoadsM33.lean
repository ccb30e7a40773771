/- The document's Settle, Tally, lowest; the conditions stand as hypotheses. -/
import Derived.Test.YtbobcmimkonnoaaGreatVaultLoadsM31
import Derived.Test.YtbobcmimkonnoaaGreatVaultLoadsM30
import Derived.Test.YtbobcmimkonnoaaGreatVaultLoadsM15
import Derived.Test.YtbobcmimkonnoaaGreatVaultLoadsM05
import Derived.Test.YtbobcmimkonnoaaGreatVaultLoadsM22
import Derived.Test.YtbobcmimkonnoaaGreatVaultLoadsM01
set_option maxRecDepth 100000
set_option maxHeartbeats 16000000
namespace Go.Proofs.YtbobcmimkonnoaaGreat.B9
open ChangeShapes WideShapes ChangeAt RowKit Sl Cop D2 M3 Q3 U3 D4 M2 N2 E4 G4 E6 J4 L6 M7 Q7 U7 X7 Y7 W7 Z7 J8
theorem ref_all {r:Nat}{s:PoolS}{gs:List PageV}{hush:RTail}{x:RX}{F:Pr}{w:World}(ok:ROk s gs x)(h:Sat ((RefAt r s gs hush x).star F) w){j:Nat}(hj:j<s.counts.length):
 ∃b c b2 c2 b3 c3,(x.cv= .slice (some ⟨b,0,none⟩) s.counts.length c∧x.lv= .slice (some ⟨b2,0,none⟩) s.counts.length c2∧x.pv= .slice (some ⟨b3,0,none⟩) s.counts.length c3)∧
  (w.cell? ⟨r,1,none⟩=some (.slice (some ⟨b,0,none⟩) s.counts.length c)∧w.cell? ⟨r,2,none⟩=some (.slice (some ⟨b2,0,none⟩) s.counts.length c2)∧w.cell? ⟨r,3,none⟩=some (.slice (some ⟨b3,0,none⟩) s.counts.length c3))∧
  (w.cell? ⟨b,j,none⟩=some (.int .i64 (s.counts.getD j 0))∧w.frozen? ⟨b,j,none⟩=false)∧(w.cell? ⟨b2,j,none⟩=some (.bool (s.last.getD j false))∧w.frozen? ⟨b2,j,none⟩=false)∧
  (∀i,i<5→w.frozen? ⟨b3,j*5+i,none⟩=false∧∃v,w.cell? ⟨b3,j*5+i,none⟩=some v)∧
  (r≠b∧r≠b2∧r≠b3∧b≠b2∧b≠b3∧b2≠b3)∧(r<w.heap.size∧b<w.heap.size∧b2<w.heap.size∧b3<w.heap.size):=by
 obtain⟨b,c,e1,k1,f1,_⟩:=ref_wr_count h hj;obtain⟨b2,c2,e2,k2,f2,_⟩:=ref_wr_last h (j:=j) (by rw [ok.ll];exact hj);obtain⟨b3,c3,e3,hcl,_⟩:=ref_wr_page ok.pgs.len h (j:=j) (by rw [ok.gl];exact hj);rw [ok.ll] at e2;rw [ok.gl] at e3
 have h1:Sat ((Pr.pts r (refC s.refs x.cv x.lv x.pv hush)).star ((IntsRow x.cv s.counts).star ((BoolsRow x.lv s.last).star ((PgRow x.pv x.xs gs).star ((Pr.own x.h).star F))))) w:=h.perm (by unfold RefAt;ac_rfl)
 have g1:Sat ((Row 3 1 x.cv s.counts.length (s.counts.map (Value.int .i64))).star ((Pr.pts r (refC s.refs x.cv x.lv x.pv hush)).star ((Row 4 1 x.lv s.last.length (s.last.map Value.bool)).star ((Row 31 5 x.pv gs.length ((x.xs.zip gs).flatMap pgCells)).star ((Pr.own x.h).star F))))) w:=h1.perm (by unfold IntsRow BoolsRow PgRow;ac_rfl)
 have q1:w.cell? ⟨r,1,none⟩=some x.cv:=by rw [cell_of_heap h1.pts_heap];rfl
 have q2:w.cell? ⟨r,2,none⟩=some x.lv:=by rw [cell_of_heap h1.pts_heap];rfl
 have q3:w.cell? ⟨r,3,none⟩=some x.pv:=by rw [cell_of_heap h1.pts_heap];rfl
 have ll:=ok.ll;have gl:=ok.gl;obtain⟨v0,kk⟩:=(hcl 0 (by omega)).2;have z3:=World.block_lt_of_cell? _ _ kk;have z1:=World.block_lt_of_cell? _ _ k1;have z2:=World.block_lt_of_cell? _ _ k2;rw [ll,gl] at g1;rw [e1] at q1 g1;rw [e2] at q2 g1;rw [e3] at q3 g1;refine⟨b,c,b2,c2,b3,c3,⟨e1,e2,e3⟩,⟨q1,q2,q3⟩,⟨k1,f1⟩,⟨k2,f2⟩,hcl,⟨pts_row_ne g1,?_,?_,?_,?_,?_⟩,h1.lt,z1,z2,z3⟩
 · exact pts_row_ne (k:=1) (T:=4) (g1.perm (B:=(Row 4 1 (.slice (some ⟨b2,0,none⟩) s.counts.length c2) s.counts.length (s.last.map Value.bool)).star ((Pr.pts r (refC s.refs (.slice (some ⟨b,0,none⟩) s.counts.length c) (.slice (some ⟨b2,0,none⟩) s.counts.length c2) (.slice (some ⟨b3,0,none⟩) s.counts.length c3) hush)).star ((Row 3 1 (.slice (some ⟨b,0,none⟩) s.counts.length c) s.counts.length (s.counts.map (Value.int .i64))).star ((Row 31 5 (.slice (some ⟨b3,0,none⟩) s.counts.length c3) s.counts.length ((x.xs.zip gs).flatMap pgCells)).star ((Pr.own x.h).star F))))) (by ac_rfl))
 · exact pts_row_ne (k:=5) (T:=31) (g1.perm (B:=(Row 31 5 (.slice (some ⟨b3,0,none⟩) s.counts.length c3) s.counts.length ((x.xs.zip gs).flatMap pgCells)).star ((Pr.pts r (refC s.refs (.slice (some ⟨b,0,none⟩) s.counts.length c) (.slice (some ⟨b2,0,none⟩) s.counts.length c2) (.slice (some ⟨b3,0,none⟩) s.counts.length c3) hush)).star ((Row 3 1 (.slice (some ⟨b,0,none⟩) s.counts.length c) s.counts.length (s.counts.map (Value.int .i64))).star ((Row 4 1 (.slice (some ⟨b2,0,none⟩) s.counts.length c2) s.counts.length (s.last.map Value.bool)).star ((Pr.own x.h).star F))))) (by ac_rfl))
 · exact row_row_ne (T:=3) (T2:=4) (k:=1) (k2:=1) (g1.perm (B:=(Row 3 1 (.slice (some ⟨b,0,none⟩) s.counts.length c) s.counts.length (s.counts.map (Value.int .i64))).star ((Row 4 1 (.slice (some ⟨b2,0,none⟩) s.counts.length c2) s.counts.length (s.last.map Value.bool)).star ((Pr.pts r (refC s.refs (.slice (some ⟨b,0,none⟩) s.counts.length c) (.slice (some ⟨b2,0,none⟩) s.counts.length c2) (.slice (some ⟨b3,0,none⟩) s.counts.length c3) hush)).star ((Row 31 5 (.slice (some ⟨b3,0,none⟩) s.counts.length c3) s.counts.length ((x.xs.zip gs).flatMap pgCells)).star ((Pr.own x.h).star F))))) (by ac_rfl))
 · exact row_row_ne (T:=3) (T2:=31) (k:=1) (k2:=5) (g1.perm (B:=(Row 3 1 (.slice (some ⟨b,0,none⟩) s.counts.length c) s.counts.length (s.counts.map (Value.int .i64))).star ((Row 31 5 (.slice (some ⟨b3,0,none⟩) s.counts.length c3) s.counts.length ((x.xs.zip gs).flatMap pgCells)).star ((Pr.pts r (refC s.refs (.slice (some ⟨b,0,none⟩) s.counts.length c) (.slice (some ⟨b2,0,none⟩) s.counts.length c2) (.slice (some ⟨b3,0,none⟩) s.counts.length c3) hush)).star ((Row 4 1 (.slice (some ⟨b2,0,none⟩) s.counts.length c2) s.counts.length (s.last.map Value.bool)).star ((Pr.own x.h).star F))))) (by ac_rfl))
 · exact row_row_ne (T:=4) (T2:=31) (k:=1) (k2:=5) (g1.perm (B:=(Row 4 1 (.slice (some ⟨b2,0,none⟩) s.counts.length c2) s.counts.length (s.last.map Value.bool)).star ((Row 31 5 (.slice (some ⟨b3,0,none⟩) s.counts.length c3) s.counts.length ((x.xs.zip gs).flatMap pgCells)).star ((Pr.pts r (refC s.refs (.slice (some ⟨b,0,none⟩) s.counts.length c) (.slice (some ⟨b2,0,none⟩) s.counts.length c2) (.slice (some ⟨b3,0,none⟩) s.counts.length c3) hush)).star ((Row 3 1 (.slice (some ⟨b,0,none⟩) s.counts.length c) s.counts.length (s.counts.map (Value.int .i64))).star ((Pr.own x.h).star F))))) (by ac_rfl))
def tallyTo(s:PoolS)(k:Int)(m:Nat):Nat:=((List.range m).filter fun i:Nat=>s.state ((i:Int)+1) == k).length
theorem tallyTo_le(s:PoolS)(k:Int)(m:Nat):tallyTo s k m≤m:=by
 unfold tallyTo;exact Nat.le_trans (List.length_filter_le _ _) (by rw [List.length_range];exact Nat.le_refl _)
theorem tallyTo_yes {s:PoolS}{k:Int}{m:Nat}(h:s.state ((m:Int)+1)=k):tallyTo s k (m+1)=tallyTo s k m+1:=by
 unfold tallyTo;rw [List.range_succ,List.filter_append,List.length_append];simp [h]
theorem tallyTo_no {s:PoolS}{k:Int}{m:Nat}(h:s.state ((m:Int)+1)≠k):tallyTo s k (m+1)=tallyTo s k m:=by
 unfold tallyTo;rw [List.range_succ,List.filter_append,List.length_append];simp [h]
theorem rtally_any(r:Nat)(s:PoolS)(gs:List PageV)(hush:RTail)(k:Int)(F:Pr)(w:World)(hF:Sat ((RefA r s gs hush).star F) w):
 Calls Tryz.prog 50 #[.pointer (some ⟨r,0,none⟩),.int .i64 k] w fun e w'=>e= .returned (.int .i64 (tallyTo s k s.counts.length:Nat))∧w=w':=by
 obtain⟨x,ok,h⟩:=refA_iff.1 hF;have ST:=fun n:Int=>hQ (rstate_any r s gs hush n F w hF)
 have q1:∃a c,w.cell? ⟨r,1,none⟩=some (.slice a s.counts.length c):=by
  obtain⟨ac,cc,al,cl,ap,cp,⟨q1,_⟩,_⟩:=ref_rd ok h;exact⟨_,_,q1⟩
 obtain⟨a1,d1,q1⟩:=q1;have hn2:=ok.n2;have hn3:(s.counts.length:Int)≤65536:=by omega
 clear h ok hF;go_enter Tryz.func50,Tryz.ntmps50
 go_wp2;go_loopw [5,6] (fun t i wr=> ∃m:Nat,m≤s.counts.length∧t= .int .i64 (tallyTo s k m:Nat)∧i= .int .i64 ((m:Int)+1)∧wr=w) (fun _ i _=>s.counts.length+1-(intOf i).toNat)
 case atStart=>exact⟨0,Nat.zero_le _,rfl,rfl,rfl⟩
 case round=>
  obtain⟨m,hm,rfl,rfl,rfl⟩:=hrel;have htm:=tallyTo_le s k m;have HYES:=hQ (fun h=>tallyTo_yes (s:=s) (k:=k) (m:=m) h);have HNO:=hQ (fun h=>tallyTo_no (s:=s) (k:=k) (m:=m) h);rcases Nat.lt_or_ge m s.counts.length with hlt | hge
  · have ST1:=ST ((m:Int)+1)
    clear ST;by_cases hk:s.state ((m:Int)+1)=k
    · have hb:(s.state ((m:Int)+1) == k)=true:=beq_iff_eq.2 hk
      have HK:=hQ hk;clear hk;generalize s.state ((m:Int)+1)=sm at*;generalize htt:tallyTo s k m=tm at*;have HTT:=hQ htt;clear htt;go_wp2_with fail
      refine ST1.out.mono ?_;rintro e w1 ⟨rfl,rfl⟩;go_wp2;go_roundw
      case rel=>exact⟨m+1,by omega,congrArg (Value.int .i64) (by rw [HYES.out HK.out];omega),congrArg (Value.int .i64) (by omega),trivial⟩
      case measure=>simp [intOf];omega
    · have hb:(s.state ((m:Int)+1) == k)=false:=beq_eq_false_iff_ne.2 hk
      have HK:=hQ hk;clear hk;generalize s.state ((m:Int)+1)=sm at*;generalize htt:tallyTo s k m=tm at*;have HTT:=hQ htt;clear htt;go_wp2_with fail
      refine ST1.out.mono ?_;rintro e w1 ⟨rfl,rfl⟩;go_wp2;go_roundw
      case rel=>exact⟨m+1,by omega,congrArg (Value.int .i64) (by rw [HNO.out HK.out]),congrArg (Value.int .i64) (by omega),trivial⟩
      case measure=>simp [intOf];omega
  · have hme:m=s.counts.length:=by omega
    subst hme;clear ST HYES HNO;go_wp2;go_ret;exact⟨rfl,rfl⟩
theorem rlowest_any(r:Nat)(s:PoolS)(gs:List PageV)(hush:RTail)(F:Pr)(w:World)(hF:Sat ((RefA r s gs hush).star F) w):
 Calls Tryz.prog 104 #[.pointer (some ⟨r,0,none⟩)] w fun e w'=>w=w'∧∃m:Int,e= .returned (.int .i64 m)∧
  ((m=0∧∀n,s.state n≠1)∨(s.state m=1∧∀n,s.state n=1→m≤n)):=by
 obtain⟨x,ok,h⟩:=refA_iff.1 hF
 have q1:∃a c,w.cell? ⟨r,1,none⟩=some (.slice a s.counts.length c):=by
  obtain⟨ac,cc,al,cl,ap,cp,⟨q1,_⟩,_⟩:=ref_rd ok h;exact⟨_,_,q1⟩
 obtain⟨a1,d1,q1⟩:=q1;have hn2:=ok.n2;have hn3:(s.counts.length:Int)≤65536:=by omega
 have HX:=hQ (And.intro ok h);clear h ok hF;go_enter Tryz.func104,Tryz.ntmps104
 go_wp2;go_loopw [3] (fun i wr=> ∃m:Nat,m≤s.counts.length∧i= .int .i64 ((m:Int)+1)∧wr=w∧Hid (∀n,s.state n=1→(m:Int)+1≤n)) (fun i _=>s.counts.length+1-(intOf i).toNat)
 case atStart=>exact⟨0,Nat.zero_le _,rfl,rfl,hQ (fun n hn=>by have:=there_of_state (by omega:s.state n≠0);have:=this.1;omega)⟩
 case round=>
  obtain⟨m,hm,rfl,rfl,hlow⟩:=hrel;rcases Nat.lt_or_ge m s.counts.length with hlt | hge
  · obtain⟨ok,h⟩:=HX.out
    obtain⟨b,c,b2,c2,b3,c3,_,⟨w1,w2,_⟩,⟨k1,_⟩,⟨k2,_⟩,_⟩:=ref_all ok h hlt;rw [q1] at w1;cases w1
    have hst:s.state ((m:Int)+1)=stateOf (s.counts.getD m 0) (s.last.getD m false):=by
     have ht:s.there ((m:Int)+1):=⟨by omega,by omega⟩;rw [state_there ht,count_idx hlt,lasts_idx]
    have hc0:0≤s.counts.getD m 0:=by
     have:=ok.c0 s.counts[m] (List.getElem_mem hlt)
     simpa [hlt] using this
    have HST:=hQ hst;clear ok h hst;generalize s.counts.getD m 0=cv at*;generalize s.last.getD m false=lv at*;by_cases hcz:cv=0
    · have hb:(cv == 0)=true:=beq_iff_eq.2 hcz
      cases lv with
      | false=>
        have hs1:s.state ((m:Int)+1)=1:=by rw [HST.out,hcz];rfl
        have HS1:=hQ hs1;clear hcz hs1 HST;go_wp2;go_ret;exact⟨rfl,(m:Int)+1,rfl,.inr ⟨HS1.out,hlow.out⟩⟩
      | true=>
        have hs1:s.state ((m:Int)+1)≠1:=by rw [HST.out,hcz];decide
        have HS1:=hQ hs1;clear hcz hs1 HST;go_wp2;go_roundw
        case rel=>
         refine⟨m+1,by omega,congrArg (Value.int .i64) (by omega),trivial,hQ (fun n hn=> ?_)⟩;have h1:=hlow.out n hn;have h2:n≠(m:Int)+1:=fun e=>HS1.out (e ▸ hn)
         omega
        case measure=>simp [intOf];omega
    · have hb:(cv == 0)=false:=beq_eq_false_iff_ne.2 hcz
      have hs1:s.state ((m:Int)+1)≠1:=by
       rw [HST.out];unfold stateOf;rw [if_pos (by omega)];split<;>omega
      have HS1:=hQ hs1;clear hcz hs1 HST;go_wp2;go_roundw
      case rel=>
       refine⟨m+1,by omega,congrArg (Value.int .i64) (by omega),trivial,hQ (fun n hn=> ?_)⟩;have h1:=hlow.out n hn;have h2:n≠(m:Int)+1:=fun e=>HS1.out (e ▸ hn)
       omega
      case measure=>simp [intOf];omega
  · have hme:m=s.counts.length:=by omega
    subst hme;clear HX;go_wp2;go_ret;refine⟨rfl,0,rfl,.inl ⟨rfl,fun n hn=> ?_⟩⟩;have h1:=hlow.out n hn;have h2:=(there_of_state (by omega:s.state n≠0)).2;omega
def lastK(s:PoolS):Nat→List Bool
 | 0=>s.last
 | k+1=>(lastK s k).set k (decide (0<s.counts.getD k 0))
def gsK(s:PoolS)(gs:List PageV):Nat→List PageV
 | 0=>gs
 | k+1=>if s.counts.getD k 0=0 then(gsK s gs k).set k zeroP else gsK s gs k
theorem lastK_len(s:PoolS)(k:Nat):(lastK s k).length=s.last.length:=by
 induction k with
 | zero=>rfl
 | succ k ih=>show ((lastK s k).set k _).length=_;rw [List.length_set,ih]
theorem gsK_len(s:PoolS)(gs:List PageV)(k:Nat):(gsK s gs k).length=gs.length:=by
 induction k with
 | zero=>rfl
 | succ k ih=>unfold gsK;split;rw [List.length_set,ih];exact ih
theorem lastK_at(s:PoolS)(k j:Nat)(hj:j<s.last.length):(lastK s k)[j]? =if j<k then some (decide (0<s.counts.getD j 0)) else s.last[j]? :=by
 induction k with
 | zero=>rfl
 | succ k ih=>
   show ((lastK s k).set k _)[j]? =_
   by_cases h:j=k
   · subst h
     rw [List.getElem?_set_self (by rw [lastK_len];exact hj),if_pos (by omega)]
   · rw [List.getElem?_set_ne (fun e=>h e.symm),ih]
     by_cases h2:j<k
     · rw [if_pos h2,if_pos (by omega)]
     · rw [if_neg h2,if_neg (by omega)]
theorem lastK_end {s:PoolS}(hl:s.last.length=s.counts.length):lastK s s.counts.length=lastsOf s.counts:=by
 apply List.ext_getElem?;intro j;rcases Nat.lt_or_ge j s.counts.length with h | h
 · rw [lastK_at s _ j (by omega),if_pos h]
   unfold lastsOf;rw [List.getElem?_map,List.getElem?_eq_getElem h];simp [h]
 · rw [List.getElem?_eq_none (by rw [lastK_len];omega),List.getElem?_eq_none (by unfold lastsOf;rw [List.length_map];omega)]
theorem gsK_at(s:PoolS)(gs:List PageV)(k j:Nat)(hj:j<gs.length):(gsK s gs k)[j]? =if j<k∧s.counts.getD j 0=0 then some zeroP else gs[j]? :=by
 induction k with
 | zero=>rfl
 | succ k ih=>
   unfold gsK;by_cases h:j=k
   · subst h
     by_cases hc:s.counts.getD j 0=0
     · rw [if_pos hc,List.getElem?_set_self (by rw [gsK_len];exact hj),if_pos ⟨by omega,hc⟩]
     · rw [if_neg hc,ih,if_neg (fun e=>hc e.2),if_neg (fun e=>hc e.2)]
   · have e:(if s.counts.getD k 0=0 then(gsK s gs k).set k zeroP else gsK s gs k)[j]? =(gsK s gs k)[j]? :=by
      split
      · exact List.getElem?_set_ne (fun e=>h e.symm)
      · rfl
     rw [e,ih];by_cases h2:j<k
     · by_cases h3:s.counts.getD j 0=0
       · rw [if_pos ⟨h2,h3⟩,if_pos ⟨by omega,h3⟩]
       · rw [if_neg (fun e=>h3 e.2),if_neg (fun e=>h3 e.2)]
     · rw [if_neg (fun e=>h2 e.1),if_neg (fun e=>by omega)]
end Go.Proofs.YtbobcmimkonnoaaGreat.B9
namespace Go.Proofs.YtbobcmimkonnoaaGreat.E9
open ChangeShapes WideShapes ChangeAt RowKit Sl Cop D2 M3 Q3 U3 D4 M2 N2 E4 G4 E6 J4 L6 M7 Q7 U7 X7 Y7 W7 Z7 J8 B9
theorem fit_zero0:Fit zeroP:=⟨by simp,by simp,fun x hx=>by cases hx⟩
theorem rmark_any(r:Nat)(s:PoolS)(gs:List PageV)(hush:RTail)(aa:Option Addr)(na ca:Nat)(hav:hush.av= .slice aa na ca)(hb: -1099511627776≤hush.fl∧hush.fl+na≤1099511627776)(F:Pr)(w:World)(hF:Sat ((RefA r s gs hush).star F) w):
 Calls Tryz.prog 55 #[.pointer (some ⟨r,0,none⟩)] w fun e w'=>e= .returned (.int .i64 (hush.fl+na))∧∃k,w'=w.drewN k:=by
 obtain⟨x,ok,h⟩:=refA_iff.1 hF;have h1:Sat ((Pr.pts r (refC s.refs x.cv x.lv x.pv hush)).star ((IntsRow x.cv s.counts).star ((BoolsRow x.lv s.last).star ((PgRow x.pv x.xs gs).star ((Pr.own x.h).star F))))) w:=h.perm (by unfold RefAt;ac_rfl);have q4:w.cell? ⟨r,4,none⟩=some (.slice aa na ca):=by rw [cell_of_heap h1.pts_heap, ← hav];rfl
 have q5:w.cell? ⟨r,5,none⟩=some (.int .i64 hush.fl):=by rw [cell_of_heap h1.pts_heap];rfl
 clear hF h h1 ok hav;generalize hush.fl=fl at*;go_enter Tryz.func55,Tryz.ntmps55
 go_wp2_with fail
 go_quiet (fail)
 go_wp2;go_ret;exact⟨rfl,_,rfl⟩
theorem rsettle_any(r:Nat)(s:PoolS)(gs:List PageV)(hush:RTail)(aa:Option Addr)(na ca:Nat)(hav:hush.av= .slice aa na ca)(hb: -1099511627776≤hush.fl∧hush.fl+na≤1099511627776)(F:Pr)(w:World)(hF:Sat ((RefA r s gs hush).star F) w):
 Calls Tryz.prog 58 #[.pointer (some ⟨r,0,none⟩)] w fun e w'=>e= .returned (.tuple #[])∧Stays w w'∧
  Sat ((RefA r { s with last:=lastsOf s.counts } (gsK s gs s.counts.length) ⟨.slice none 0 0,hush.fl+na,hush.q⟩).star F) w':=by
 have hll:s.last.length=s.counts.length:=by
  obtain⟨x,ok,h⟩:=refA_iff.1 hF;exact ok.ll
 have hn3:(s.counts.length:Int)≤65536:=by
  obtain⟨x,ok,h⟩:=refA_iff.1 hF;have:=ok.n2
  omega
 have HF:=hQ hF;have HLL:=hQ hll;clear hF hll;go_enter Tryz.func58,Tryz.ntmps58
 go_wp2;go_loopw [2] (fun i wr=> ∃k:Nat,k≤s.counts.length∧i= .int .i64 k∧Stays w wr∧Sat ((RefA r { s with last:=lastK s k } (gsK s gs k) hush).star F) wr) (fun i _=>s.counts.length-(intOf i).toNat)
 case atStart=>exact⟨0,Nat.zero_le _,rfl,Stays.refl w,HF.out⟩
 case round=>
  obtain⟨k,hk,rfl,hst,hs⟩:=hrel;clear HF
  have q1:∃a c,wr.cell? ⟨r,1,none⟩=some (.slice a s.counts.length c):=by
   obtain⟨x,ok,h⟩:=refA_iff.1 hs;obtain⟨ac,cc,al,cl,ap,cp,⟨q1,_⟩,_⟩:=ref_rd ok h;exact⟨_,_,q1⟩
  obtain⟨a1,d1,q1⟩:=q1;rcases Nat.lt_or_ge k s.counts.length with hlt | hge
  · obtain⟨x,ok,h⟩:=refA_iff.1 hs
    obtain⟨b,c,b2,c2,b3,c3,⟨e1,e2,e3⟩,⟨w1,w2,w3⟩,⟨k1,_⟩,⟨k2,f2⟩,hcl,⟨n1,n2,n3,n4,n5,n6⟩,zr,zb,zb2,zb3⟩:=ref_all ok h (j:=k) hlt;dsimp only at e1 e2 e3 w1 w2 w3 k1 k2;rw [q1] at w1;cases w1;obtain⟨b2',c2',e2',_,_,wl⟩:=ref_wr_last h (j:=k) (by show k<(lastK s k).length;rw [lastK_len,HLL.out];exact hlt);rw [e2] at e2';cases (Value.slice.inj e2').1;clear e2'
    have h5:=(wl (decide (0<s.counts.getD k 0))).drew
    have hc0:0≤s.counts.getD k 0:=by
     have:=ok.c0 s.counts[k] (List.getElem_mem hlt)
     simpa [hlt] using this
    have e6:(lastK s k).set k (decide (0<s.counts.getD k 0))=lastK s (k+1):=rfl;have e7:gsK s gs (k+1)=if s.counts.getD k 0=0 then(gsK s gs k).set k zeroP else gsK s gs k:=rfl
    dsimp only at h5;rw [e6] at h5;have ok5:ROk { s with last:=lastK s (k+1) } (gsK s gs k) x:=⟨ok.pgs,by show (lastK s (k+1)).length=_;rw [lastK_len];exact HLL.out,ok.gl,ok.n2,ok.c0,ok.fit⟩;have HE7:=hQ e7;have H5:=hQ h5;have HOK:=hQ ok5;have HSTK:=hQ (hst.setCell ⟨b2,k,none⟩ (.bool (decide (0<s.counts.getD k 0)))).drew;have HE:=hQ (And.intro e1 (And.intro e2 e3))
    clear hs h ok wl e6 e7 ok5 hcl hst e1 e2 e3 h5;generalize hcv:s.counts.getD k 0=cv at*;have HCV:=hQ hcv;clear hcv;by_cases hcz:cv=0
    · have hbz:(cv == 0)=true:=beq_iff_eq.2 hcz
      have hd:decide (0<cv)=false:=decide_eq_false (by omega);have HCZ:=hQ hcz;clear hcz;go_wp2_with fail
      refine wS 49 [0,1,2,3,4,5,6,7,8,9,10,11,12,13] [(14,[],[])] ?_;refine wpQ_all _ rfl rfl ?_;simp only [pick,pQ];iterate 14 (go_big_quiet_step (fail))
      refine wpQuiet_nil ?_;refine wpRest_act rfl ?_;go_wp2;refine onN_mk ?_;refine wpQ_nil ⟨?_,?_⟩
      · exact chk_nil
      refine wpRest_nil ?_;have T5:=H5.out;have U5:=HSTK.out;rw [hd] at T5 U5;clear H5 HSTK w2 w3 k1 k2 f2 n1 n2 n3 n4 n5 n6 zr zb zb2 zb3 q1;generalize (wr.setCell ⟨b2,k,none⟩ (.bool false)).drew=w5 at*;obtain⟨b4,c4,b5,c5,b6,c6,⟨e4,e5,e6⟩,⟨q1,q2,q3⟩,⟨k1,_⟩,_,hcl,⟨n1,n2,n3,n4,n5,n6⟩,zr,zb,zb2,zb3⟩:=ref_all HOK.out T5 (j:=k) hlt;dsimp only at e4 e5 e6 q1 q2 q3 k1
      obtain⟨b9,d9,epv,_,wr8⟩:=ref_wr_page HOK.out.pgs.len T5 (j:=k) (by rw [gsK_len];have:=HOK.out.gl;rw [gsK_len] at this;rw [this];exact hlt);rw [e6] at epv;cases (Value.slice.inj epv).1;obtain⟨g0,u0,k0⟩:=hcl 0 (by omega);obtain⟨g1,u1,k1'⟩:=hcl 1 (by omega);obtain⟨g2,u2,k2⟩:=hcl 2 (by omega);obtain⟨g3,u3,k3⟩:=hcl 3 (by omega);obtain⟨g4,u4,k4⟩:=hcl 4 (by omega);rw [Nat.add_zero] at g0 k0
      rw [HCV.out,HCZ.out] at k1;have W8:=hQ (wr8 zeroP (.slice none 0 0) (.slice none 0 0));have HST7:=hQ U5;clear hcl wr8 epv e4 e5 e6 T5 U5 HE;go_wp2;go_roundw
      case rel=>
       refine⟨k+1,by omega,congrArg (Value.int .i64) (by omega),((((HST7.out.setCell _ _).setCell _ _).setCell _ _).setCell _ _).setCell _ _,?_⟩;have h9:=ref_put (g:=zeroP) (h':=Hp.nil) (F:=F) HOK.out ⟨_,_,rfl,items_mk (Nat.zero_le _),RowIn.nil _ _⟩ fit_zero0 (by rw [own_nil,Pr.emp_star];exact W8.out);rw [HE7.out,if_pos HCZ.out];exact h9
      case measure=>simp [intOf];omega
    · have hbz:(cv == 0)=false:=beq_eq_false_iff_ne.2 hcz
      have hd:decide (0<cv)=true:=decide_eq_true (by omega);have HCZ:=hQ hcz;clear hcz;go_wp2_with fail
      refine wS 49 [0,1,2,3,4,5,6,7,8,9,10,11,12,13] [(14,[],[])] ?_;refine wpQ_all _ rfl rfl ?_;simp only [pick,pQ];iterate 14 (go_big_quiet_step (fail))
      refine wpQuiet_nil ?_;refine wpRest_act rfl ?_;go_wp2;refine onN_mk ?_;refine wpQ_nil ⟨?_,?_⟩
      · exact chk_nil
      refine wpRest_nil ?_;have T5:=H5.out;have U5:=HSTK.out;rw [hd] at T5 U5;clear H5 HSTK w2 w3 k1 k2 f2 n1 n2 n3 n4 n5 n6 zr zb zb2 zb3 q1;generalize (wr.setCell ⟨b2,k,none⟩ (.bool true)).drew=w5 at*;obtain⟨b4,c4,b5,c5,b6,c6,⟨e4,e5,e6⟩,⟨q1,q2,q3⟩,⟨k1,_⟩,_,hcl,⟨n1,n2,n3,n4,n5,n6⟩,zr,zb,zb2,zb3⟩:=ref_all HOK.out T5 (j:=k) hlt;dsimp only at q1 k1;rw [HCV.out] at k1
      have H5:=hQ (refA_iff.2 ⟨x,HOK.out,T5⟩);have HST7:=hQ U5;clear hcl e4 e5 e6 T5 U5 HE q2 q3;go_wp2;go_roundw
      case rel=>
       refine⟨k+1,by omega,congrArg (Value.int .i64) (by omega),HST7.out,?_⟩;rw [HE7.out,if_neg HCZ.out];exact H5.out
      case measure=>simp [intOf];omega
  · have hke:k=s.counts.length:=by omega
    subst hke;have MK:=hQ (rmark_any r _ _ hush aa na ca hav hb _ _ hs);have HS:=hQ hs;clear hs;go_wp2_with fail
    refine MK.out.mono ?_;rintro e w1 ⟨rfl,kk,rfl⟩;obtain⟨x,ok,h⟩:=refA_iff.1 (HS.out.drewN kk);have h1:Sat ((Pr.pts r (refC s.refs x.cv x.lv x.pv hush)).star ((IntsRow x.cv s.counts).star ((BoolsRow x.lv (lastK s s.counts.length)).star ((PgRow x.pv x.xs (gsK s gs s.counts.length)).star ((Pr.own x.h).star F))))) _:=h.perm (by unfold RefAt;dsimp only;ac_rfl)
    have q4:(wr.drewN kk).cell? ⟨r,4,none⟩=some (.slice aa na ca):=by rw [cell_of_heap h1.pts_heap, ← hav];rfl
    have q5:(wr.drewN kk).cell? ⟨r,5,none⟩=some (.int .i64 hush.fl):=by rw [cell_of_heap h1.pts_heap];rfl
    have f4:=frozen_of_heap h1.pts_heap 4;have f5:=frozen_of_heap h1.pts_heap 5;have zr:=h1.lt
    have H2:=hQ (show Sat ((Pr.pts r (refC s.refs x.cv x.lv x.pv ⟨.slice none 0 0,hush.fl+na,hush.q⟩)).star ((IntsRow x.cv s.counts).star ((BoolsRow x.lv (lastK s s.counts.length)).star ((PgRow x.pv x.xs (gsK s gs s.counts.length)).star ((Pr.own x.h).star F))))) _ from(h1.setCell (i:=5) (.int .i64 (hush.fl+na))).setCell (i:=4) (.slice none 0 0));have HOK:=hQ ok
    have HSTK:=hQ (((hst.drewN kk).setCell ⟨r,5,none⟩ (.int .i64 (hush.fl+na))).setCell ⟨r,4,none⟩ (.slice none 0 0));clear h h1 ok hst HS MK;go_wp2;first | refine bodyPost_ret (results_none rfl _ _ _) rfl ?_ | go_end0
    refine⟨rfl,HSTK.out,?_⟩;rw [← lastK_end HLL.out];exact refA_iff.2 ⟨x,⟨HOK.out.pgs,HOK.out.ll,HOK.out.gl,HOK.out.n2,HOK.out.c0,HOK.out.fit⟩,H2.out.perm (by unfold RefAt;dsimp only;ac_rfl)⟩
end Go.Proofs.YtbobcmimkonnoaaGreat.E9
namespace Go.Proofs.YtbobcmimkonnoaaGreat.J9
open ChangeShapes WideShapes ChangeAt RowKit Sl Cop D2 M3 Q3 U3 D4 M2 N2 E4 G4 E6 J4 L6 U4 M7 Q7 U7 X7 Y7 W7 Z7 J8 B9
end Go.Proofs.YtbobcmimkonnoaaGreat.J9
namespace Go.Proofs.YtbobcmimkonnoaaGreat.K9
open ChangeShapes WideShapes ChangeAt RowKit Sl Cop D2 M3 Q3 D4 M2 N2 E4 G4 E6 J4 L6 M7 Q7 U7 X7 W7 B8 Z7
theorem infoWasR:(Tryz.prog.info? 165).map (fun i=>(i.zero,i.size,i.bytes))=some (some (.agg #[.slice none 0 0,.slice none 0 0]),2,48):=by kernel_rfl
structure WasX where
 cv:Value
 pv:Value
 xs:List (Value × Value)
 cs:List Int
 gs:List PageV
def wasCells(y:WasX):List Value:= [y.cv,y.pv]
def WasRow(y:WasX):Pr:=(IntsRow y.cv y.cs).star (PgRow y.pv y.xs y.gs)
def wasOf(a:WasX):List Int × List PageV:=(a.cs,a.gs)
structure HX where
 cv:Value
 lv:Value
 pv:Value
 av:Value
 xs:List (Value × Value)
 h:Hp
 ws:List WasX
abbrev HX.rx(y:HX):RX:=⟨y.cv,y.lv,y.pv,y.xs,y.h⟩
abbrev HX.wx(y:HX)(a:WasX):RX:=⟨a.cv,y.lv,a.pv,a.xs,y.h⟩
structure HOk(s:PoolS)(gs:List PageV)(l:List (List Int × List PageV))(y:HX):Prop where
 now:ROk s gs y.rx
 was:∀a∈y.ws,ROk { s with counts:=a.cs } a.gs (y.wx a)
 l:y.ws.map wasOf=l
theorem HOk.len {s:PoolS}{gs:List PageV}{l:List (List Int × List PageV)}{y:HX}(ok:HOk s gs l y):y.ws.length=l.length:=by rw [← ok.l,List.length_map]
abbrev refHC(refs:Int)(cv lv pv av:Value)(fl:Int):Obj:= .cells #[.int .i64 refs,cv,lv,pv,av,.int .i64 fl,.bool false] 98
abbrev HParts(r:Nat)(s:PoolS)(gs:List PageV)(fl:Int)(y:HX)(T:Pr):Pr:=
 (Pr.pts r (refHC s.refs y.cv y.lv y.pv y.av fl)).star ((IntsRow y.cv s.counts).star ((BoolsRow y.lv s.last).star ((PgRow y.pv y.xs gs).star ((Pr.own y.h).star ((Row 165 2 y.av y.ws.length (y.ws.flatMap wasCells)).star ((big WasRow y.ws).star T))))))
def RefH(r:Nat)(s:PoolS)(gs:List PageV)(fl:Int)(l:List (List Int × List PageV)):Pr:=Pr.ex fun y:HX=>(Pr.pure (HOk s gs l y)).star (HParts r s gs fl y Pr.emp)
theorem refH_iff {r:Nat}{s:PoolS}{gs:List PageV}{fl:Int}{l:List (List Int × List PageV)}{F:Pr}{w:World}:Sat ((RefH r s gs fl l).star F) w↔∃y,HOk s gs l y∧Sat (HParts r s gs fl y F) w:=by
 have e:∀y,(HParts r s gs fl y Pr.emp).star F=HParts r s gs fl y F:=fun y=>by simp only [HParts,Pr.star_assoc,Pr.emp_star]
 unfold RefH;rw [Sat.ex];constructor
 · rintro⟨y,h2⟩
   rw [Pr.star_assoc] at h2;obtain⟨h3,h4⟩:=Sat.pure.1 h2;exact⟨y,h3,h4.perm (e y)⟩
 · rintro⟨y,h1,h2⟩
   refine⟨y,?_⟩;rw [Pr.star_assoc];exact Sat.pure.2 ⟨h1,h2.perm (e y).symm⟩
theorem refH_refA {r:Nat}{s:PoolS}{gs:List PageV}{fl:Int}{l:List (List Int × List PageV)}{F:Pr}{w:World}(o:Sat ((RefH r s gs fl l).star F) w):
 ∃aa ca F',Sat ((RefA r s gs ⟨.slice aa l.length ca,fl,false⟩).star F') w:=by
 obtain⟨y,ok,o2⟩:=refH_iff.1 o;have o3:=OwnL.in7 o2;obtain⟨aa,ca,e,_⟩:=Row.read (o3.pull1 (A1:=Row 165 2 y.av y.ws.length (y.ws.flatMap wasCells)));rw [ok.len] at e;have h:=o3.pull5 (A1:=Pr.pts r (refHC s.refs y.cv y.lv y.pv y.av fl)) (A2:=IntsRow y.cv s.counts) (A3:=BoolsRow y.lv s.last) (A4:=PgRow y.pv y.xs gs) (A5:=Pr.own y.h)
 refine⟨aa,ca,starL [Row 165 2 y.av y.ws.length (y.ws.flatMap wasCells),big WasRow y.ws,F],refA_iff.2 ⟨y.rx,ok.now,h.perm ?_⟩⟩;unfold RefAt;simp only [Pr.star_assoc,e]
theorem was_open {L R:List Pr}{w:World}(a:WasX)(o:OwnL L w) [Pull (WasRow a) L R]:OwnL (IntsRow a.cv a.cs :: PgRow a.pv a.xs a.gs :: R) w:=⟨(o.pull1 (A1:=WasRow a)).perm (by unfold WasRow;rw [Pr.star_assoc];rfl)⟩
theorem was_close {L R R2:List Pr}{w:World}(a:WasX)(o:OwnL L w) [Pull (IntsRow a.cv a.cs) L R] [Pull (PgRow a.pv a.xs a.gs) R R2]:OwnL (WasRow a :: R2) w:=⟨(o.pull2 (A1:=IntsRow a.cv a.cs) (A2:=PgRow a.pv a.xs a.gs)).perm (by rw [← Pr.star_assoc];rfl)⟩
theorem was_shape {L R:List Pr}{w:World}(a:WasX)(o:OwnL L w) [Pull (WasRow a) L R]:∃a1 n1 c1 a2 n2 c2,a.cv= .slice a1 n1 c1∧a.pv= .slice a2 n2 c2:=by
 have h:=was_open a o;obtain⟨a1,c1,e1⟩:=Row.shape (h.pull1 (A1:=IntsRow a.cv a.cs));obtain⟨a2,c2,e2⟩:=Row.shape (h.pull1 (A1:=PgRow a.pv a.xs a.gs));exact⟨a1,_,c1,a2,_,c2,e1,e2⟩
section
variable(r:Nat)(s:PoolS)(gs:List PageV)(fl:Int)(l:List (List Int × List PageV))(F:Pr)(w:World)
theorem rdid_any(y:HX)(ok:HOk s gs l y)(a:WasX)(hok:ROk { s with counts:=a.cs } a.gs (y.wx a))(hl:l.length≤1048576)(hF:Sat (HParts r s gs fl y ((WasRow a).star F)) w):
 Calls Tryz.prog 108 #[.pointer (some ⟨r,0,none⟩),a.cv,a.pv] w fun e w'=>e= .returned (.tuple #[])∧Stays w w'∧Sat ((RefH r s gs fl (l++ [(a.cs,a.gs)])).star F) w':=by
 obtain⟨cv,lv,pv,av,xs,h,ws⟩:=y;obtain⟨acv,apv,axs,acs,ags⟩:=a;have hs:=OwnL.in8 hF;dsimp only at hs;clear hF;have hwl:ws.length=l.length:=ok.len;obtain⟨aa,ca,e1,_,_⟩:=Row.read (hs.row av);subst e1;obtain⟨ac1,nc1,cc1,ap1,np1,cp1,rfl,rfl⟩:∃a1 n1 c1 a2 n2 c2,acv= .slice a1 n1 c1∧apv= .slice a2 n2 c2:=was_shape ⟨acv,apv,axs,acs,ags⟩ hs;have c1:=hs.facts
 simp only [CellsAt,Nat.reduceAdd,and_true] at c1;obtain⟨i0,hi,hz0,hz1,hz2⟩:=info_parts infoWasR;have hs1:=hs.alloc (.cells [.slice ac1 nc1 cc1,.slice ap1 np1 cp1].toArray 165);have hnew:=hQ (new_cells w [.slice ac1 nc1 cc1,.slice ap1 np1 cp1] 165 _ rfl);have HA:=hQ (hs1.row (.slice aa ws.length ca));have HOK:=hQ (And.intro ok hok);have HWL:=hQ hwl;have HLL:=hQ hl;clear hs hs1 ok hok hwl hl
 go_enter Tryz.func108,Tryz.ntmps108
 go_wp2_with (
  at_builtin
  refine wpList_append_sl rfl _ _ _ rfl 165 i0 (.agg #[.slice none 0 0,.slice none 0 0]) 2 48 Tryz.underlying96 hi hz0 hz1 hz2 rfl _ _ _ rfl HA.out ⟨w.heap.size,0,none⟩ 1 1 [.slice ac1 nc1 cc1,.slice ap1 np1 cp1] rfl rfl hnew.out (by simp [Value.oneCell']) (by have:=HWL.out;have:=HLL.out;simp only [maxLen];omega) (by have:=HWL.out;have:=HLL.out;omega) ?_
  intro v7 w4 hs4 hg4 _
  obtain⟨a7',c7',e7',_,_⟩:=Row.read hs4
  subst e7'
  have HS4:=hQ hs4
  have HG4:=hQ hg4
  clear c1
  have c1:=(OwnL.of1 hs4).facts
  simp only [CellsAt,Nat.reduceAdd,and_true] at c1
  clear hs4 hg4)
 first | refine bodyPost_ret (results_none rfl _ _ _) rfl ?_ | go_end0
 refine⟨rfl,(((Stays.refl w).alloc _).of_grown HG4.out).setCell _ _,?_⟩;have h5:=(OwnL.of1 HS4.out).set r 4 (.slice a7' (ws.length+1) c7');refine refH_iff.2 ⟨⟨cv,lv,pv,.slice a7' (ws.length+1) c7',xs,h,ws++ [⟨.slice ac1 nc1 cc1,.slice ap1 np1 cp1,axs,acs,ags⟩]⟩,⟨HOK.out.1.now,?_,?_⟩,?_⟩
 · intro a ha
   rcases List.mem_append.1 ha with ha | ha
   · exact HOK.out.1.was a ha
   · rw [List.mem_singleton.1 ha];exact HOK.out.2
 · show List.map wasOf (ws++ [_])=_
   rw [List.map_append,show ws.map wasOf=l from HOK.out.1.l];rfl
 · have h6:=h5.snoc WasRow ws ⟨.slice ac1 nc1 cc1,.slice ap1 np1 cp1,axs,acs,ags⟩
   dsimp only [HParts];rw [List.length_append,List.flatMap_append,List.length_singleton,show List.flatMap wasCells [⟨.slice ac1 nc1 cc1,.slice ap1 np1 cp1,axs,acs,ags⟩]= [.slice ac1 nc1 cc1,.slice ap1 np1 cp1] from rfl];exact h6.end8 (A8:=F)
theorem rnot_any(y:HX)(ok:HOk s gs l y)(a:WasX)(hok:ROk { s with counts:=a.cs } a.gs (y.wx a))(hF:Sat (HParts r s gs fl y ((WasRow a).star F)) w):
 Calls Tryz.prog 107 #[.pointer (some ⟨r,0,none⟩),a.cv,a.pv] w fun e w'=>e= .returned (.tuple #[])∧Stays w w'∧Sat ((RefH r { s with counts:=a.cs } a.gs fl l).star F) w':=by
 obtain⟨cv,lv,pv,av,xs,h,ws⟩:=y;obtain⟨acv,apv,axs,acs,ags⟩:=a;have hs:=OwnL.in8 hF;dsimp only at hs;clear hF;obtain⟨ac1,nc1,cc1,ap1,np1,cp1,rfl,rfl⟩:∃a1 n1 c1 a2 n2 c2,acv= .slice a1 n1 c1∧apv= .slice a2 n2 c2:=was_shape ⟨acv,apv,axs,acs,ags⟩ hs;have c1:=hs.facts;simp only [CellsAt,Nat.reduceAdd,and_true] at c1;have HS:=hQ hs;have HOK:=hQ (And.intro ok hok);clear hs ok hok
 go_enter Tryz.func107,Tryz.ntmps107
 go_wp2;first | refine bodyPost_ret (results_none rfl _ _ _) rfl ?_ | go_end0
 refine⟨rfl,((Stays.refl w).setCell _ _).setCell _ _,?_⟩;have h5:=(HS.out.set r 1 (.slice ac1 nc1 cc1)).set r 3 (.slice ap1 np1 cp1);refine refH_iff.2 ⟨⟨.slice ac1 nc1 cc1,lv,.slice ap1 np1 cp1,av,axs,h,ws⟩,⟨HOK.out.2,HOK.out.1.was,HOK.out.1.l⟩,?_⟩;have h6:=was_open ⟨.slice ac1 nc1 cc1,.slice ap1 np1 cp1,axs,acs,ags⟩ h5;exact h6.end8 (A8:=F)
theorem ract_any(hl:l.length≤1048576)(hF:Sat ((RefH r s gs fl l).star F) w):
 Calls Tryz.prog 147 #[.pointer (some ⟨r,0,none⟩)] w fun e w'=>e= .returned (.tuple #[])∧Stays w w'∧Sat ((RefH r s gs fl (l++ [(s.counts,gs)])).star F) w':=by
 obtain⟨⟨cv,lv,pv,av,xs,h,ws⟩,ok,h0⟩:=refH_iff.1 hF;have hs:=OwnL.in7 h0;dsimp only at hs;clear hF h0;have hwl:ws.length=l.length:=ok.len;obtain⟨aa,ca,rfl⟩:=Row.shape (hs.row av);obtain⟨a0,c0,rfl⟩:=Row.shape (hs.pull1 (A1:=IntsRow cv s.counts));obtain⟨ap,cp,rfl⟩:=Row.shape (hs.pull1 (A1:=PgRow pv xs gs));obtain⟨a,ha,hs1⟩:=hs.arena (IntsRow (.slice a0 s.counts.length c0) s.counts)
 have c1:=hs1.facts;simp only [CellsAt,Nat.reduceAdd,and_true] at c1;have CI:=hQ (copyints_any a _ s.counts _ w.drew (hs1.drew.pull1 (A1:=Pr.own a)) (Row.rowIn ha) ok.now.n2);have HA:=hQ ha;have HOK:=hQ ok;have HWL:=hQ hwl;have HLL:=hQ hl;obtain⟨i0,hi,hz0,hz1,hz2⟩:=info_parts infoWasR;clear hs hs1 ok hwl hl ha;go_enter Tryz.func147,Tryz.ntmps147
 go_wp2_with fail
 refine wS 27 [0,1,2,3,4,5,6,7,8,10,11,12,13] [(9,[],[0,1,2,3,4,5,6,7,10,11,12,13]),(14,[15],[0,1,2,3,4,5,6,7,10,11,12]),(16,[],[0,1,2,3,4,5,6,7,10,11,12]),(17,[18,19],[0,1,2,3,5,6,7,10,11,12]),(20,[],[18])] ?_;refine wpQ_all _ rfl rfl ?_;simp only [pick,pQ];iterate 13 (go_big_quiet_step (fail))
 refine wpQuiet_nil ?_;refine wpRest_act rfl ?_;go_wp2_with fail
 refine CI.out.mono ?_;rintro e w1 ⟨v1,rfl,hs2,st1⟩;obtain⟨ac,cc,rfl⟩:=Row.shape hs2;have hs3:=(OwnL.of2 hs2).back (IntsRow (.slice a0 s.counts.length c0) s.counts) HA.out;obtain⟨a2,ha2,hs4⟩:=hs3.arena (PgRow (.slice ap gs.length cp) xs gs);clear c1;have c1:=hs4.facts;simp only [CellsAt,Nat.reduceAdd,and_true] at c1
 have CP:=hQ (copypages_any a2 _ h xs gs HOK.out.now.pgs (Row.rowIn ha2) (by have:=HOK.out.now.n2;have:=HOK.out.now.gl;omega) _ _ (hs4.pull1 (A1:=Pr.own a2)));have HA2:=hQ ha2;have HST1:=hQ ((Stays.refl w).drew.trans st1);clear hs2 hs3 hs4 st1 CI HA ha2;go_wp2;refine onN_mk ?_;refine wpQ_nil ⟨?_,?_⟩
 · exact cQ
 refine wpRest_act rfl ?_;go_wp2_with fail
 refine CP.out.mono ?_;rintro e w2 ⟨v2,rfl,hs5,st2⟩;obtain⟨aq,cq,rfl⟩:=Row.shape hs5;have hs6:=(OwnL.of2 hs5).back (PgRow (.slice ap gs.length cp) xs gs) HA2.out;clear c1;have c1:=hs6.facts;simp only [CellsAt,Nat.reduceAdd,and_true] at c1;have A1:=hQ ((hs6.alloc (.cells [.slice ac s.counts.length cc,.slice aq gs.length cq].toArray 165)).row (.slice aa ws.length ca))
 have hnew:=hQ (new_cells w2 [.slice ac s.counts.length cc,.slice aq gs.length cq] 165 _ rfl);have HST2:=hQ ((HST1.out.trans st2).alloc (.cells [.slice ac s.counts.length cc,.slice aq gs.length cq].toArray 165));clear hs5 hs6 st2 CP HA2 HST1;go_wp2;refine onN_mk ?_;refine wpQ_all _ rfl rfl ?_;simp only [pick,pQ];iterate 1 (go_big_quiet_step (fail))
 refine wpQuiet_nil ⟨?_,?_⟩
 · exact cQ
 refine wpRest_act rfl ?_;go_wp2;refine onN_mk ?_;refine wpQ_nil ⟨?_,?_⟩
 · exact cQ
 refine wpRest_act rfl ?_
 refine wpList_append_slK rfl _ _ _ rfl 165 i0 (.agg #[.slice none 0 0,.slice none 0 0]) 2 48 Tryz.underlying96 hi hz0 hz1 hz2 rfl _ _ _ rfl A1.out ⟨w2.heap.size,0,none⟩ 1 1 [.slice ac s.counts.length cc,.slice aq gs.length cq] rfl rfl hnew.out (by simp [Value.oneCell']) (by have:=HWL.out;have:=HLL.out;simp only [maxLen];omega) (by have:=HWL.out;have:=HLL.out;omega) (fun v7 w7 hs7 hg7 K hK=> ?_)
 obtain⟨a7,c7,rfl⟩:=Row.shape hs7;go_simp;refine hK _ ?_;clear hK K;have HS7:=hQ (OwnL.of1 hs7);have HST7:=hQ (HST2.out.of_grown hg7);clear hs7 hg7 A1 hnew HST2 c1;have c1:=HS7.out.facts;simp only [CellsAt,Nat.reduceAdd,and_true] at c1;refine wpList_nil ?_;refine onN_mk ?_;refine wpQ_all _ rfl rfl ?_;simp only [pick,pQ];iterate 2 (go_big_quiet_step (fail))
 refine wpQuiet_nil ⟨?_,?_⟩
 · exact cQ
 refine wpRest_act rfl ?_;go_wp2;refine onN_mk ?_;refine wpQ_nil ⟨?_,?_⟩
 · exact cQ
 refine wpRest_nil ?_;go_wp2;first | refine bodyPost_ret (results_none rfl _ _ _) rfl ?_ | go_end0
 refine⟨rfl,HST7.out.setCell _ _,?_⟩;have h5:=HS7.out.set r 4 (.slice a7 (ws.length+1) c7);have h6:=was_close ⟨.slice ac s.counts.length cc,.slice aq gs.length cq,xs,s.counts,gs⟩ h5;have h7:=h6.snoc WasRow ws ⟨.slice ac s.counts.length cc,.slice aq gs.length cq,xs,s.counts,gs⟩
 refine refH_iff.2 ⟨⟨.slice a0 s.counts.length c0,lv,.slice ap gs.length cp,.slice a7 (ws.length+1) c7,xs,h,ws++ [⟨.slice ac s.counts.length cc,.slice aq gs.length cq,xs,s.counts,gs⟩]⟩,⟨HOK.out.now,?_,?_⟩,?_⟩
 · intro a ha
   rcases List.mem_append.1 ha with ha | ha
   · exact HOK.out.was a ha
   · rw [List.mem_singleton.1 ha];exact⟨HOK.out.now.pgs,HOK.out.now.ll,HOK.out.now.gl,HOK.out.now.n2,HOK.out.now.c0,HOK.out.now.fit⟩
 · show List.map wasOf (ws++ [_])=_
   rw [List.map_append,show ws.map wasOf=l from HOK.out.l];rfl
 · dsimp only [HParts]
   rw [List.length_append,List.flatMap_append,List.length_singleton,show List.flatMap wasCells [⟨.slice ac s.counts.length cc,.slice aq gs.length cq,xs,s.counts,gs⟩]= [.slice ac s.counts.length cc,.slice aq gs.length cq] from rfl];exact h7.end8 (A8:=F)
end
end Go.Proofs.YtbobcmimkonnoaaGreat.K9
namespace Go.Cop
open Go.Proofs.YtbobcmimkonnoaaGreat.Z7 Go.Proofs.YtbobcmimkonnoaaGreat.Q7 Go.Proofs.YtbobcmimkonnoaaGreat.Q6
def PoolS.withC(s:PoolS)(cs:List Int):PoolS:= { s with counts:=cs }
def IncP(s:PoolS)(n:Int):PoolS:=if incL s.refs s.counts n=0 then s.withC (addC s.counts n 1) else s
def incsR(s:PoolS):List Int→Int × PoolS
 | []=>(0,s)
 | k :: r=>if incL s.refs s.counts k=0 then incsR (IncP s k) r else(incL s.refs s.counts k,s)
theorem incsR_one {s:PoolS}{k:Int}{r:List Int}:incsR s (k :: r)=if incL s.refs s.counts k=0 then incsR (IncP s k) r else(incL s.refs s.counts k,s):=rfl
theorem incsR_app:∀ {a b:List Int} {s t:PoolS},incsR s a=(0,t)→incsR s (a++b)=incsR t b
 | [],b,s,t,h=>by cases h;rfl
 | k :: a,b,s,t,h=>by
   rw [List.cons_append,incsR_one];rw [incsR_one] at h;by_cases h0:incL s.refs s.counts k=0
   · rw [if_pos h0] at h ⊢
     exact incsR_app h
   · rw [if_neg h0] at h
     exact absurd (congrArg Prod.fst h) h0
def leaveRR(s:PoolS)(g:PageV)(n:Int):Int × PoolS:=
 if cntL s.counts n=1 then(0,s.withC (addC s.counts n (-1))) else incsR (s.withC (addC s.counts n (-1))) (kidsOf g)
def CB(s:PoolS):Prop:=s.refs≤65536∧∀c∈s.counts,c≤s.refs
end Go.Cop
namespace Go.Proofs.YtbobcmimkonnoaaGreat.Q9
open ChangeShapes WideShapes ChangeAt RowKit Sl Cop D2 M3 Q3 D4 M2 N2 E4 G4 E6 J4 L6 M7 Q7 U7 X7 W7 Z7 U6 Q6 K9 B9
section
variable(r:Nat)(s:PoolS)(gs:List PageV)(hush:RTail)
theorem refAt_open {L R:List Pr}{w:World}(x:RX)(o:OwnL L w) [Pull (RefAt r s gs hush x) L R]:OwnL (Pr.pts r (refC s.refs x.cv x.lv x.pv hush) :: IntsRow x.cv s.counts :: BoolsRow x.lv s.last :: PgRow x.pv x.xs gs :: Pr.own x.h :: R) w:=
 ⟨(o.pull1 (A1:=RefAt r s gs hush x)).perm (by unfold RefAt;simp only [Pr.star_assoc];rfl)⟩
theorem refAt_close {F:Pr}{w:World}(x:RX)(o:Sat ((Pr.pts r (refC s.refs x.cv x.lv x.pv hush)).star ((IntsRow x.cv s.counts).star ((BoolsRow x.lv s.last).star ((PgRow x.pv x.xs gs).star ((Pr.own x.h).star F))))) w):Sat ((RefAt r s gs hush x).star F) w:=
 o.perm (by unfold RefAt;simp only [Pr.star_assoc])
theorem hparts_at(fl:Int)(y:HX)(T:Pr):HParts r s gs fl y T=(RefAt r s gs ⟨y.av,fl,false⟩ y.rx).star ((Row 165 2 y.av y.ws.length (y.ws.flatMap wasCells)).star ((big WasRow y.ws).star T)):=by
 unfold RefAt;simp only [HParts,Pr.star_assoc]
theorem cb_addC {s:PoolS}(h:CB s){n:Int}(h0:incL s.refs s.counts n=0):CB (s.withC (addC s.counts n 1)):=by
 refine⟨h.1,fun c hc=> ?_⟩;have hc':c∈addC s.counts n 1:=hc;unfold addC at hc';show c≤s.refs
 rcases List.mem_or_eq_of_mem_set hc' with h1 | h1
 · exact h.2 c h1
 · unfold incL at h0
   by_cases h2:cntL s.counts n=0
   · rw [if_pos h2] at h0;cases h0
   · rw [if_neg h2] at h0
     by_cases h3:s.refs≤cntL s.counts n
     · rw [if_pos h3] at h0;cases h0
     · omega
theorem cb_sub {s:PoolS}(h:CB s){n:Int}(hn:1≤n∧n≤s.counts.length):CB (s.withC (addC s.counts n (-1))):=by
 refine⟨h.1,fun c hc=> ?_⟩;have hc':c∈addC s.counts n (-1):=hc;unfold addC at hc';show c≤s.refs
 have hj:n.toNat-1<s.counts.length:=by omega
 rcases List.mem_or_eq_of_mem_set hc' with h1 | h1
 · exact h.2 c h1
 · have h4:=h.2 s.counts[n.toNat-1] (List.getElem_mem hj)
   have e:cntL s.counts n=s.counts[n.toNat-1]:=by
    unfold cntL;rw [if_pos hn,List.getD_eq_getElem?_getD,List.getElem?_eq_getElem hj];rfl
   omega
theorem cb_inc {s:PoolS}(h:CB s)(n:Int):CB (IncP s n):=by
 unfold IncP;by_cases h0:incL s.refs s.counts n=0
 · rw [if_pos h0];exact cb_addC h h0
 · rw [if_neg h0];exact h
theorem refAt_refA {x:RX}{F:Pr}{w:World}(ok:ROk s gs x)(h:Sat ((RefAt r s gs hush x).star F) w):Sat ((RefA r s gs hush).star F) w:=refA_iff.2 ⟨x,ok,h⟩
theorem rinc_x(x:RX)(ok:ROk s gs x)(n:Int)(hcb:CB s)(F:Pr)(w:World)(hF:Sat ((RefAt r s gs hush x).star F) w):
 Calls Tryz.prog 112 #[.pointer (some ⟨r,0,none⟩),.int .i64 n] w fun e w'=>e= .returned (.int .i64 (incL s.refs s.counts n))∧Stays w w'∧
  ROk (IncP s n) gs x∧Sat ((RefAt r (IncP s n) gs hush x).star F) w':=by
 have IS:=hQ (rthere_any r s gs hush n F w (refAt_refA r s gs hush ok hF));obtain⟨ac,cc,al,cl,ap,cp,⟨q1,q2,q3,q0⟩,z,_,rd⟩:=ref_rd ok hF;have HF:=hQ hF;rw [rcount_cnt] at IS;have hr:=hcb.2;have hrf:=hcb.1;by_cases h0:cntL s.counts n=0
 · have e1:incL s.refs s.counts n=15:=by unfold incL;rw [if_pos h0]
   have e2:IncP s n=s:=by unfold IncP;rw [e1];exact if_neg (by decide)
   rw [h0,decide_eq_false (by omega)] at IS;rw [e1,e2];have HOK:=hQ ok;clear rd ok hF hr e1 e2 hcb;go_enter Tryz.func112,Tryz.ntmps112
   go_wp2_with fail
   refine IS.out.mono ?_;rintro e w1 ⟨rfl,rfl⟩;go_wp2;go_ret;exact⟨rfl,Stays.refl _,HOK.out,HF.out⟩
 · have ht:s.there n:=by
    by_cases ht:s.there n
    · exact ht
    · exact absurd (by unfold cntL;exact if_neg ht) h0
   obtain⟨j,rfl,hj⟩:=there_idx ht
   have hc1:0<cntL s.counts ((j:Int)+1):=by
    rw [cnt_idx hj] at h0 ⊢;have:=ok.c0 s.counts[j] (List.getElem_mem hj)
    simp [hj] at h0 ⊢
    omega
   have hc2:cntL s.counts ((j:Int)+1)≤65536:=by
    rw [cnt_idx hj];have:=hr s.counts[j] (List.getElem_mem hj)
    simp [hj] at this ⊢
    omega
   rw [decide_eq_true hc1] at IS;obtain⟨⟨b,rfl,c0⟩,_⟩:=rd j hj;obtain⟨b2,cc2,e2,_,f2,wr⟩:=ref_wr_count hF hj
   have ebb:b2=b:=by
    have h1:Sat ((Pr.pts r (refC s.refs x.cv x.lv x.pv hush)).star ((IntsRow x.cv s.counts).star ((BoolsRow x.lv s.last).star ((PgRow x.pv x.xs gs).star ((Pr.own x.h).star F))))) w:=hF.perm (by unfold RefAt;ac_rfl);have h2:w.cell? ⟨r,1,none⟩=some x.cv:=by rw [cell_of_heap h1.pts_heap];rfl
    rw [q1,e2] at h2;cases h2;rfl
   subst ebb;have hn2:=ok.n2;have HOK:=hQ ok;have HWR:=hQ wr;have HADD:=hQ (addC_idx hj 1);have HNN:=hQ (addC_nn (n:=(j:Int)+1) (b:=1) ok.c0 (by omega));have zc:=World.block_lt_of_cell? _ _ c0;obtain⟨V,hV⟩:∃V,V=incL s.refs s.counts ((j:Int)+1):=⟨_,rfl⟩;obtain⟨S2,hS⟩:∃S2,S2=IncP s ((j:Int)+1):=⟨_,rfl⟩;rw [← hV, ← hS];unfold IncP incL at hS;unfold incL at hV;rw [if_neg h0] at hS hV
   rw [cnt_idx hj] at hc1 hc2 h0 hV hS;have HVS:=hQ (And.intro hV hS);clear rd ok hF wr ht e2 hr hcb hV hS;generalize s.counts.getD j 0=c at*;by_cases hg:s.refs≤c
   · have hd:decide (s.refs≤c)=true:=decide_eq_true hg
     obtain⟨hV,hS⟩:=HVS.out;rw [if_pos hg] at hV hS;rw [if_neg (by decide)] at hS;subst hV hS;go_enter Tryz.func112,Tryz.ntmps112
     go_wp2_with fail
     refine IS.out.mono ?_;rintro e w1 ⟨rfl,rfl⟩;go_wp2_with fail
     go_quiet (fail)
     go_wp2;go_ret;exact⟨rfl,(Stays.refl _).drewN _,HOK.out,HF.out.drewN _⟩
   · have hd:decide (s.refs≤c)=false:=decide_eq_false hg
     obtain⟨hV,hS⟩:=HVS.out;rw [if_neg hg] at hV hS;rw [if_pos rfl] at hS;subst hV;have HS2:=hQ hS;clear hS;go_enter Tryz.func112,Tryz.ntmps112
     go_wp2_with fail
     refine IS.out.mono ?_;rintro e w1 ⟨rfl,rfl⟩;go_wp2_with fail
     go_quiet (fail)
     go_wp2;go_ret;have h9:=HWR.out (c+1);rw [← HADD.out] at h9;rw [HS2.out];exact⟨rfl,((Stays.refl _).setCell _ _).drewN _,rok_counts HOK.out (addC_len _ _ _) HNN.out,h9.drewN _⟩
theorem rmore_x(x:RX)(ok:ROk s gs x)(pv:Value)(g:PageV)(hpg:PageIn x.h pv g)(hgl:g.items.length≤65535)(hcb:CB s)(F:Pr)(w:World)(hF:Sat ((RefAt r s gs hush x).star F) w):
 Calls Tryz.prog 157 #[.pointer (some ⟨r,0,none⟩),pv] w fun e w'=>e= .returned (.int .i64 (incsR s (kidsOf g)).1)∧Stays w w'∧
  ROk (incsR s (kidsOf g)).2 gs x∧CB (incsR s (kidsOf g)).2∧Sat ((RefAt r (incsR s (kidsOf g)).2 gs hush x).star F) w':=by
 obtain⟨vi,vd,rfl,hi,hdd⟩:=id hpg;obtain⟨ai,ci,rfl,_,_⟩:=items_rd hi;obtain⟨ad,cd,rfl⟩:=bytes_shape hdd;have hs:=((OwnL.in1 hF).alloc (pageC g.kind g.level (.slice ai g.items.length ci) (.slice ad g.data.length cd) g.next));have hs1:=refAt_open r s gs hush x hs;have KI:=hQ (rkids_any x.h _ g hpg (by omega) _ _ (hs1.pull1 (A1:=Pr.own x.h)));have c1:=hs.facts
 simp only [CellsAt,Nat.reduceAdd,and_true] at c1;have hkl0:(kidsOf g).length≤65536:=by have:=kidsOf_len g;omega
 have HST:=hQ ((Stays.refl w).alloc (pageC g.kind g.level (.slice ai g.items.length ci) (.slice ad g.data.length cd) g.next));have HOK:=hQ ok;have HCB:=hQ hcb;obtain⟨R,hR⟩:∃R,R=incsR s (kidsOf g):=⟨_,rfl⟩;rw [← hR];have HR:=hQ hR;clear hs hs1 hF hi hdd hpg ok hcb hR;go_enter Tryz.func157,Tryz.ntmps157
 go_wp2_with fail
 refine KI.out.mono ?_;rintro e w1 ⟨kv,rfl,hs2,st1⟩;obtain⟨kl,hkl⟩:∃kl,kidsOf g=kl:=⟨_,rfl⟩;rw [hkl] at hs2 hkl0;have HKL:=hQ hkl;obtain⟨ak,ck,rfl⟩:=Row.shape hs2;have hs3:=OwnL.of1 (refAt_close r s gs hush x (OwnL.of2 hs2).pull5);have HS3:=hQ hs3;have HST1:=hQ (HST.out.trans st1);have hkb:(kl.length:Int)≤65536:=by omega
 clear hs2 hs3 st1 KI HST hkl c1;go_wp2
 go_loopw [6] (fun i wr=> ∃(k:Nat) (t:PoolS),k≤kl.length∧i= .int .i64 k∧Stays w wr∧Hid (incsR s (kl.take k)=(0,t))∧Hid (CB t)∧Hid (ROk t gs x)∧
  OwnL [RefAt r t gs hush x,IntsRow (.slice ak kl.length ck) kl,F] wr) (fun i _=>kl.length-(intOf i).toNat)
 case atStart=>exact⟨0,s,Nat.zero_le _,rfl,HST1.out,hQ rfl,HCB,HOK,HS3.out.to⟩
 case round=>
  obtain⟨k,t,hk,rfl,hst,hin,hcr,hok,hs⟩:=hrel;clear HS3 HST1;rcases Nat.lt_or_ge k kl.length with hlt | hge
  · obtain⟨bk,u,rfl,hu,kc,_,kz⟩:=Row.at1 (hs.row (.slice ak kl.length ck)) k hlt
    rw [List.getElem?_map,List.getElem?_eq_getElem hlt] at hu;simp only [Option.map_some,Option.some.injEq] at hu;subst hu;have IN:=hQ (rinc_x r t gs hush x hok.out kl[k] hcr.out _ wr (hs.pull1 (A1:=RefAt r t gs hush x)));have HTK:=hQ (show kl.take (k+1)=kl.take k++ [kl[k]] from List.take_succ_eq_append_getElem hlt)
    have HDK:=hQ (show kl=kl.take k++kl[k] :: kl.drop (k+1) from by
     rw [← List.drop_eq_getElem_cons hlt,List.take_append_drop])
    have HST3:=hQ hst;clear hs hst;generalize kl[k]=kn at*;generalize hEE:incL t.refs t.counts kn=EE at*;have HEE:=hQ hEE;clear hEE;go_wp2_with fail
    refine IN.out.mono ?_;rintro e w3 ⟨rfl,st3,ok3,hs2⟩;have HS2:=hQ (OwnL.of1 hs2);have HOK3:=hQ ok3;clear hs2 ok3;by_cases hi0:EE=0
    · subst hi0
      clear IN;go_wp2;go_roundw
      case rel=>
       refine⟨k+1,IncP t kn,by omega,congrArg (Value.int .i64) (by omega),HST3.out.trans st3,hQ ?_,hQ (cb_inc hcr.out kn),HOK3,HS2.out.to⟩;rw [HTK.out,incsR_app hin.out,incsR_one,if_pos HEE.out];rfl
      case measure=>simp [intOf];omega
    · have hib:(EE != 0)=true:=by rw [bne_iff_ne];exact hi0
      have HI0:=hQ hi0;clear IN hi0;go_wp2;go_ret;have e2:IncP t kn=t:=by unfold IncP;rw [HEE.out];exact if_neg HI0.out
      have e3:incsR s (kidsOf g)=(EE,t):=by
       rw [HKL.out,HDK.out,incsR_app hin.out,incsR_one,HEE.out,if_neg HI0.out]
      rw [e2] at HS2;rw [HR.out,e3];exact⟨rfl,HST3.out.trans st3,hok.out,hcr.out,HS2.out.end2⟩
  · have hkk:k=kl.length:=by omega
    subst hkk;have HS:=hQ hs;clear hs;go_wp2;go_ret;have hin2:=hin.out;rw [List.take_length] at hin2;rw [HR.out,HKL.out,hin2];exact⟨rfl,hst,hok.out,hcr.out,HS.out.end2⟩
end
end Go.Proofs.YtbobcmimkonnoaaGreat.Q9
