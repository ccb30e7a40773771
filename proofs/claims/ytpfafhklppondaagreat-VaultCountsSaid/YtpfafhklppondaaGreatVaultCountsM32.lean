/- The document's Settle, Tally, lowest; the conditions stand as hypotheses. -/
import Derived.Test.YtpfafhklppondaaGreatVaultCountsM29
import Derived.Test.YtpfafhklppondaaGreatVaultCountsM28
import Derived.Test.YtpfafhklppondaaGreatVaultCountsM15
import Derived.Test.YtpfafhklppondaaGreatVaultCountsM05
import Derived.Test.YtpfafhklppondaaGreatVaultCountsM22
import Derived.Test.YtpfafhklppondaaGreatVaultCountsM01
set_option maxRecDepth 100000
set_option maxHeartbeats 16000000
namespace Go.Proofs.YtpfafhklppondaaGreat.K9
open ChangeShapes WideShapes ChangeAt RowKit Sl Cop M2 P3 X3 Y3 G4 Q2 X2 J4 L4 K6 P4 Q6 X7 Z7 C8 F8 G8 E8 J8 V8
theorem ref_all {r:Nat}{s:PoolS}{gs:List PageV}{hush:RTail}{x:RX}{F:Pr}{w:World}(ok:ROk s gs x)(h:Sat ((RefAt r s gs hush x).star F) w){j:Nat}(hj:j<s.counts.length):
 ∃b c b2 c2 b3 c3,(x.cv= .slice (some ⟨b,0,none⟩) s.counts.length c∧x.lv= .slice (some ⟨b2,0,none⟩) s.counts.length c2∧x.pv= .slice (some ⟨b3,0,none⟩) s.counts.length c3)∧
  (w.cell? ⟨r,1,none⟩=some (.slice (some ⟨b,0,none⟩) s.counts.length c)∧w.cell? ⟨r,2,none⟩=some (.slice (some ⟨b2,0,none⟩) s.counts.length c2)∧w.cell? ⟨r,3,none⟩=some (.slice (some ⟨b3,0,none⟩) s.counts.length c3))∧
  (w.cell? ⟨b,j,none⟩=some (.int .i64 (s.counts.getD j 0))∧w.frozen? ⟨b,j,none⟩=false)∧(w.cell? ⟨b2,j,none⟩=some (.bool (s.last.getD j false))∧w.frozen? ⟨b2,j,none⟩=false)∧
  (∀i,i<5→w.frozen? ⟨b3,j*5+i,none⟩=false∧∃v,w.cell? ⟨b3,j*5+i,none⟩=some v)∧
  (r≠b∧r≠b2∧r≠b3∧b≠b2∧b≠b3∧b2≠b3)∧(r<w.heap.size∧b<w.heap.size∧b2<w.heap.size∧b3<w.heap.size):=by
 obtain⟨b,c,e1,k1,f1,_⟩:=ref_wr_count h hj;obtain⟨b2,c2,e2,k2,f2,_⟩:=ref_wr_last h (j:=j) (by rw [ok.ll];exact hj);obtain⟨b3,c3,e3,hcl,_⟩:=ref_wr_page ok.pgs.len h (j:=j) (by rw [ok.gl];exact hj);rw [ok.ll] at e2;rw [ok.gl] at e3
 have h1:Sat ((Pr.pts r (refC s.refs x.cv x.lv x.pv hush)).star ((IntsRow x.cv s.counts).star ((BoolsRow x.lv s.last).star ((PgRow x.pv x.xs gs).star ((Pr.own x.h).star F))))) w:=h.perm (by unfold RefAt;ac_rfl)
 have g1:Sat ((Row 3 1 x.cv s.counts.length (s.counts.map (Value.int .i64))).star ((Pr.pts r (refC s.refs x.cv x.lv x.pv hush)).star ((Row 4 1 x.lv s.last.length (s.last.map Value.bool)).star ((Row 37 5 x.pv gs.length ((x.xs.zip gs).flatMap pgCells)).star ((Pr.own x.h).star F))))) w:=h1.perm (by unfold IntsRow BoolsRow PgRow;ac_rfl)
 have q1:w.cell? ⟨r,1,none⟩=some x.cv:=by rw [cell_of_heap h1.pts_heap];rfl
 have q2:w.cell? ⟨r,2,none⟩=some x.lv:=by rw [cell_of_heap h1.pts_heap];rfl
 have q3:w.cell? ⟨r,3,none⟩=some x.pv:=by rw [cell_of_heap h1.pts_heap];rfl
 have ll:=ok.ll;have gl:=ok.gl;obtain⟨v0,kk⟩:=(hcl 0 (by omega)).2;have z3:=World.block_lt_of_cell? _ _ kk;have z1:=World.block_lt_of_cell? _ _ k1;have z2:=World.block_lt_of_cell? _ _ k2;rw [ll,gl] at g1;rw [e1] at q1 g1;rw [e2] at q2 g1;rw [e3] at q3 g1;refine⟨b,c,b2,c2,b3,c3,⟨e1,e2,e3⟩,⟨q1,q2,q3⟩,⟨k1,f1⟩,⟨k2,f2⟩,hcl,⟨pts_row_ne g1,?_,?_,?_,?_,?_⟩,h1.lt,z1,z2,z3⟩
 · exact pts_row_ne (k:=1) (T:=4) (g1.perm (B:=(Row 4 1 (.slice (some ⟨b2,0,none⟩) s.counts.length c2) s.counts.length (s.last.map Value.bool)).star ((Pr.pts r (refC s.refs (.slice (some ⟨b,0,none⟩) s.counts.length c) (.slice (some ⟨b2,0,none⟩) s.counts.length c2) (.slice (some ⟨b3,0,none⟩) s.counts.length c3) hush)).star ((Row 3 1 (.slice (some ⟨b,0,none⟩) s.counts.length c) s.counts.length (s.counts.map (Value.int .i64))).star ((Row 37 5 (.slice (some ⟨b3,0,none⟩) s.counts.length c3) s.counts.length ((x.xs.zip gs).flatMap pgCells)).star ((Pr.own x.h).star F))))) (by ac_rfl))
 · exact pts_row_ne (k:=5) (T:=37) (g1.perm (B:=(Row 37 5 (.slice (some ⟨b3,0,none⟩) s.counts.length c3) s.counts.length ((x.xs.zip gs).flatMap pgCells)).star ((Pr.pts r (refC s.refs (.slice (some ⟨b,0,none⟩) s.counts.length c) (.slice (some ⟨b2,0,none⟩) s.counts.length c2) (.slice (some ⟨b3,0,none⟩) s.counts.length c3) hush)).star ((Row 3 1 (.slice (some ⟨b,0,none⟩) s.counts.length c) s.counts.length (s.counts.map (Value.int .i64))).star ((Row 4 1 (.slice (some ⟨b2,0,none⟩) s.counts.length c2) s.counts.length (s.last.map Value.bool)).star ((Pr.own x.h).star F))))) (by ac_rfl))
 · exact row_row_ne (T:=3) (T2:=4) (k:=1) (k2:=1) (g1.perm (B:=(Row 3 1 (.slice (some ⟨b,0,none⟩) s.counts.length c) s.counts.length (s.counts.map (Value.int .i64))).star ((Row 4 1 (.slice (some ⟨b2,0,none⟩) s.counts.length c2) s.counts.length (s.last.map Value.bool)).star ((Pr.pts r (refC s.refs (.slice (some ⟨b,0,none⟩) s.counts.length c) (.slice (some ⟨b2,0,none⟩) s.counts.length c2) (.slice (some ⟨b3,0,none⟩) s.counts.length c3) hush)).star ((Row 37 5 (.slice (some ⟨b3,0,none⟩) s.counts.length c3) s.counts.length ((x.xs.zip gs).flatMap pgCells)).star ((Pr.own x.h).star F))))) (by ac_rfl))
 · exact row_row_ne (T:=3) (T2:=37) (k:=1) (k2:=5) (g1.perm (B:=(Row 3 1 (.slice (some ⟨b,0,none⟩) s.counts.length c) s.counts.length (s.counts.map (Value.int .i64))).star ((Row 37 5 (.slice (some ⟨b3,0,none⟩) s.counts.length c3) s.counts.length ((x.xs.zip gs).flatMap pgCells)).star ((Pr.pts r (refC s.refs (.slice (some ⟨b,0,none⟩) s.counts.length c) (.slice (some ⟨b2,0,none⟩) s.counts.length c2) (.slice (some ⟨b3,0,none⟩) s.counts.length c3) hush)).star ((Row 4 1 (.slice (some ⟨b2,0,none⟩) s.counts.length c2) s.counts.length (s.last.map Value.bool)).star ((Pr.own x.h).star F))))) (by ac_rfl))
 · exact row_row_ne (T:=4) (T2:=37) (k:=1) (k2:=5) (g1.perm (B:=(Row 4 1 (.slice (some ⟨b2,0,none⟩) s.counts.length c2) s.counts.length (s.last.map Value.bool)).star ((Row 37 5 (.slice (some ⟨b3,0,none⟩) s.counts.length c3) s.counts.length ((x.xs.zip gs).flatMap pgCells)).star ((Pr.pts r (refC s.refs (.slice (some ⟨b,0,none⟩) s.counts.length c) (.slice (some ⟨b2,0,none⟩) s.counts.length c2) (.slice (some ⟨b3,0,none⟩) s.counts.length c3) hush)).star ((Row 3 1 (.slice (some ⟨b,0,none⟩) s.counts.length c) s.counts.length (s.counts.map (Value.int .i64))).star ((Pr.own x.h).star F))))) (by ac_rfl))
def tallyTo(s:PoolS)(k:Int)(m:Nat):Nat:=((List.range m).filter fun i:Nat=>s.state ((i:Int)+1) == k).length
theorem tallyTo_le(s:PoolS)(k:Int)(m:Nat):tallyTo s k m≤m:=by
 unfold tallyTo;exact Nat.le_trans (List.length_filter_le _ _) (by rw [List.length_range];exact Nat.le_refl _)
theorem tallyTo_yes {s:PoolS}{k:Int}{m:Nat}(h:s.state ((m:Int)+1)=k):tallyTo s k (m+1)=tallyTo s k m+1:=by
 unfold tallyTo;rw [List.range_succ,List.filter_append,List.length_append];simp [h]
theorem tallyTo_no {s:PoolS}{k:Int}{m:Nat}(h:s.state ((m:Int)+1)≠k):tallyTo s k (m+1)=tallyTo s k m:=by
 unfold tallyTo;rw [List.range_succ,List.filter_append,List.length_append];simp [h]
theorem rtally_any(r:Nat)(s:PoolS)(gs:List PageV)(hush:RTail)(k:Int)(F:Pr)(w:World)(hF:Sat ((RefA r s gs hush).star F) w):
 Calls Tryz.prog 82 #[.pointer (some ⟨r,0,none⟩),.int .i64 k] w fun e w'=>e= .returned (.int .i64 (tallyTo s k s.counts.length:Nat))∧w=w':=by
 obtain⟨x,ok,h⟩:=refA_iff.1 hF;have ST:=fun n:Int=>hQ (rstate_any r s gs hush n F w hF)
 have q1:∃a c,w.cell? ⟨r,1,none⟩=some (.slice a s.counts.length c):=by
  obtain⟨ac,cc,al,cl,ap,cp,⟨q1,_⟩,_⟩:=ref_rd ok h;exact⟨_,_,q1⟩
 obtain⟨a1,d1,q1⟩:=q1;have hn2:=ok.n2;have hn3:(s.counts.length:Int)≤65536:=by omega
 clear h ok hF;go_enter Tryz.func82,Tryz.ntmps82
 go_wp2;go_loopw [5,6] (fun t i wr=> ∃m:Nat,m≤s.counts.length∧t= .int .i64 (tallyTo s k m:Nat)∧i= .int .i64 ((m:Int)+1)∧wr=w) (fun _ i _=>s.counts.length+1-(intOf i).toNat)
 case atStart=>exact⟨0,Nat.zero_le _,rfl,rfl,rfl⟩
 case round=>
  obtain⟨m,hm,rfl,rfl,rfl⟩:=hrel;have htm:=tallyTo_le s k m;have HYES:=hQ (fun h=>tallyTo_yes (s:=s) (k:=k) (m:=m) h);have HNO:=hQ (fun h=>tallyTo_no (s:=s) (k:=k) (m:=m) h);rcases Nat.lt_or_ge m s.counts.length with hlt | hge
  · have ST1:=ST ((m:Int)+1)
    clear ST;by_cases hk:s.state ((m:Int)+1)=k
    · have hb:(s.state ((m:Int)+1) == k)=true:=beq_iff_eq.2 hk
      have HK:=hQ hk;clear hk;generalize s.state ((m:Int)+1)=sm at*;generalize htt:tallyTo s k m=tm at*;have HTT:=hQ htt;clear htt;go_wp2_with fail
      refine ST1.out.mono ?_;rintro e w1 ⟨rfl,rfl⟩;go_wp2;go_roundw
      case rel=>exact⟨m+1,by omega,congrArg (Value.int .i64) (by rw [HYES.out HK.out];omega),congrArg (Value.int .i64) (by omega),trivial⟩
      case measure=>simp [intOf];omega
    · have hb:(s.state ((m:Int)+1) == k)=false:=beq_eq_false_iff_ne.2 hk
      have HK:=hQ hk;clear hk;generalize s.state ((m:Int)+1)=sm at*;generalize htt:tallyTo s k m=tm at*;have HTT:=hQ htt;clear htt;go_wp2_with fail
      refine ST1.out.mono ?_;rintro e w1 ⟨rfl,rfl⟩;go_wp2;go_roundw
      case rel=>exact⟨m+1,by omega,congrArg (Value.int .i64) (by rw [HNO.out HK.out]),congrArg (Value.int .i64) (by omega),trivial⟩
      case measure=>simp [intOf];omega
  · have hme:m=s.counts.length:=by omega
    subst hme;clear ST HYES HNO;go_wp2;go_ret;exact⟨rfl,rfl⟩
theorem rlowest_any(r:Nat)(s:PoolS)(gs:List PageV)(hush:RTail)(F:Pr)(w:World)(hF:Sat ((RefA r s gs hush).star F) w):
 Calls Tryz.prog 140 #[.pointer (some ⟨r,0,none⟩)] w fun e w'=>w=w'∧∃m:Int,e= .returned (.int .i64 m)∧
  ((m=0∧∀n,s.state n≠1)∨(s.state m=1∧∀n,s.state n=1→m≤n)):=by
 obtain⟨x,ok,h⟩:=refA_iff.1 hF
 have q1:∃a c,w.cell? ⟨r,1,none⟩=some (.slice a s.counts.length c):=by
  obtain⟨ac,cc,al,cl,ap,cp,⟨q1,_⟩,_⟩:=ref_rd ok h;exact⟨_,_,q1⟩
 obtain⟨a1,d1,q1⟩:=q1;have hn2:=ok.n2;have hn3:(s.counts.length:Int)≤65536:=by omega
 have HX:=hQ (And.intro ok h);clear h ok hF;go_enter Tryz.func140,Tryz.ntmps140
 go_wp2;go_loopw [3] (fun i wr=> ∃m:Nat,m≤s.counts.length∧i= .int .i64 ((m:Int)+1)∧wr=w∧Hid (∀n,s.state n=1→(m:Int)+1≤n)) (fun i _=>s.counts.length+1-(intOf i).toNat)
 case atStart=>exact⟨0,Nat.zero_le _,rfl,rfl,hQ (fun n hn=>by have:=there_of_state (by omega:s.state n≠0);have:=this.1;omega)⟩
 case round=>
  obtain⟨m,hm,rfl,rfl,hlow⟩:=hrel;rcases Nat.lt_or_ge m s.counts.length with hlt | hge
  · obtain⟨ok,h⟩:=HX.out
    obtain⟨b,c,b2,c2,b3,c3,_,⟨w1,w2,_⟩,⟨k1,_⟩,⟨k2,_⟩,_⟩:=ref_all ok h hlt;rw [q1] at w1;cases w1
    have hst:s.state ((m:Int)+1)=stateOf (s.counts.getD m 0) (s.last.getD m false):=by
     have ht:s.there ((m:Int)+1):=⟨by omega,by omega⟩;rw [state_there ht,count_idx hlt,lasts_idx]
    have hc0:0≤s.counts.getD m 0:=by
     have:=ok.c0 s.counts[m] (List.getElem_mem hlt)
     simpa [hlt] using this
    have HST:=hQ hst;clear ok h hst;generalize s.counts.getD m 0=cv at*;generalize s.last.getD m false=lv at*;by_cases hcz:cv=0
    · have hb:(cv == 0)=true:=beq_iff_eq.2 hcz
      cases lv with
      | false=>
        have hs1:s.state ((m:Int)+1)=1:=by rw [HST.out,hcz];rfl
        have HS1:=hQ hs1;clear hcz hs1 HST;go_wp2;go_ret;exact⟨rfl,(m:Int)+1,rfl,.inr ⟨HS1.out,hlow.out⟩⟩
      | true=>
        have hs1:s.state ((m:Int)+1)≠1:=by rw [HST.out,hcz];decide
        have HS1:=hQ hs1;clear hcz hs1 HST;go_wp2;go_roundw
        case rel=>
         refine⟨m+1,by omega,congrArg (Value.int .i64) (by omega),trivial,hQ (fun n hn=> ?_)⟩;have h1:=hlow.out n hn;have h2:n≠(m:Int)+1:=fun e=>HS1.out (e ▸ hn)
         omega
        case measure=>simp [intOf];omega
    · have hb:(cv == 0)=false:=beq_eq_false_iff_ne.2 hcz
      have hs1:s.state ((m:Int)+1)≠1:=by
       rw [HST.out];unfold stateOf;rw [if_pos (by omega)];split<;>omega
      have HS1:=hQ hs1;clear hcz hs1 HST;go_wp2;go_roundw
      case rel=>
       refine⟨m+1,by omega,congrArg (Value.int .i64) (by omega),trivial,hQ (fun n hn=> ?_)⟩;have h1:=hlow.out n hn;have h2:n≠(m:Int)+1:=fun e=>HS1.out (e ▸ hn)
       omega
      case measure=>simp [intOf];omega
  · have hme:m=s.counts.length:=by omega
    subst hme;clear HX;go_wp2;go_ret;refine⟨rfl,0,rfl,.inl ⟨rfl,fun n hn=> ?_⟩⟩;have h1:=hlow.out n hn;have h2:=(there_of_state (by omega:s.state n≠0)).2;omega
def lastK(s:PoolS):Nat→List Bool
 | 0=>s.last
 | k+1=>(lastK s k).set k (decide (0<s.counts.getD k 0))
def gsK(s:PoolS)(gs:List PageV):Nat→List PageV
 | 0=>gs
 | k+1=>if s.counts.getD k 0=0 then(gsK s gs k).set k zeroP else gsK s gs k
theorem gsK_len(s:PoolS)(gs:List PageV)(k:Nat):(gsK s gs k).length=gs.length:=by
 induction k with
 | zero=>rfl
 | succ k ih=>unfold gsK;split;rw [List.length_set,ih];exact ih
theorem gsK_at(s:PoolS)(gs:List PageV)(k j:Nat)(hj:j<gs.length):(gsK s gs k)[j]? =if j<k∧s.counts.getD j 0=0 then some zeroP else gs[j]? :=by
 induction k with
 | zero=>rfl
 | succ k ih=>
   unfold gsK;by_cases h:j=k
   · subst h
     by_cases hc:s.counts.getD j 0=0
     · rw [if_pos hc,List.getElem?_set_self (by rw [gsK_len];exact hj),if_pos ⟨by omega,hc⟩]
     · rw [if_neg hc,ih,if_neg (fun e=>hc e.2),if_neg (fun e=>hc e.2)]
   · have e:(if s.counts.getD k 0=0 then(gsK s gs k).set k zeroP else gsK s gs k)[j]? =(gsK s gs k)[j]? :=by
      split
      · exact List.getElem?_set_ne (fun e=>h e.symm)
      · rfl
     rw [e,ih];by_cases h2:j<k
     · by_cases h3:s.counts.getD j 0=0
       · rw [if_pos ⟨h2,h3⟩,if_pos ⟨by omega,h3⟩]
       · rw [if_neg (fun e=>h3 e.2),if_neg (fun e=>h3 e.2)]
     · rw [if_neg (fun e=>h2 e.1),if_neg (fun e=>by omega)]
end Go.Proofs.YtpfafhklppondaaGreat.K9
namespace Go.Proofs.YtpfafhklppondaaGreat.L9
open ChangeShapes WideShapes ChangeAt RowKit Sl Cop M2 P3 X3 Y3 G4 Q2 X2 J4 L4 K6 P4 Q6 X7 Z7 C8 F8 G8 E8 J8 V8 K9
end Go.Proofs.YtpfafhklppondaaGreat.L9
namespace Go.Proofs.YtpfafhklppondaaGreat.P9
open ChangeShapes WideShapes ChangeAt RowKit Sl Cop M2 P3 X3 Y3 G4 Q2 X2 J4 L4 K6 P4 Q6 Z4 X7 Z7 C8 F8 G8 E8 J8 V8 K9
end Go.Proofs.YtpfafhklppondaaGreat.P9
namespace Go.Proofs.YtpfafhklppondaaGreat.V9
open ChangeShapes WideShapes ChangeAt RowKit Sl Cop M2 P3 X3 G4 Q2 X2 J4 L4 K6 P4 Q6 X7 Z7 C8 F8 E8 K8 J8
theorem infoWasR:(Tryz.prog.info? 162).map (fun i=>(i.zero,i.size,i.bytes))=some (some (.agg #[.slice none 0 0,.slice none 0 0]),2,48):=by kernel_rfl
structure WasX where
 cv:Value
 pv:Value
 xs:List (Value × Value)
 cs:List Int
 gs:List PageV
def wasCells(y:WasX):List Value:= [y.cv,y.pv]
def WasRow(y:WasX):Pr:=(IntsRow y.cv y.cs).star (PgRow y.pv y.xs y.gs)
def wasOf(a:WasX):List Int × List PageV:=(a.cs,a.gs)
structure HX where
 cv:Value
 lv:Value
 pv:Value
 av:Value
 xs:List (Value × Value)
 h:Hp
 ws:List WasX
abbrev HX.rx(y:HX):RX:=⟨y.cv,y.lv,y.pv,y.xs,y.h⟩
abbrev HX.wx(y:HX)(a:WasX):RX:=⟨a.cv,y.lv,a.pv,a.xs,y.h⟩
structure HOk(s:PoolS)(gs:List PageV)(l:List (List Int × List PageV))(y:HX):Prop where
 now:ROk s gs y.rx
 was:∀a∈y.ws,ROk { s with counts:=a.cs } a.gs (y.wx a)
 l:y.ws.map wasOf=l
theorem HOk.len {s:PoolS}{gs:List PageV}{l:List (List Int × List PageV)}{y:HX}(ok:HOk s gs l y):y.ws.length=l.length:=by rw [← ok.l,List.length_map]
abbrev refHC(refs:Int)(cv lv pv av:Value)(fl:Int):Obj:= .cells #[.int .i64 refs,cv,lv,pv,av,.int .i64 fl,.bool false] 115
abbrev HParts(r:Nat)(s:PoolS)(gs:List PageV)(fl:Int)(y:HX)(T:Pr):Pr:=
 (Pr.pts r (refHC s.refs y.cv y.lv y.pv y.av fl)).star ((IntsRow y.cv s.counts).star ((BoolsRow y.lv s.last).star ((PgRow y.pv y.xs gs).star ((Pr.own y.h).star ((Row 162 2 y.av y.ws.length (y.ws.flatMap wasCells)).star ((big WasRow y.ws).star T))))))
def RefH(r:Nat)(s:PoolS)(gs:List PageV)(fl:Int)(l:List (List Int × List PageV)):Pr:=Pr.ex fun y:HX=>(Pr.pure (HOk s gs l y)).star (HParts r s gs fl y Pr.emp)
theorem refH_iff {r:Nat}{s:PoolS}{gs:List PageV}{fl:Int}{l:List (List Int × List PageV)}{F:Pr}{w:World}:Sat ((RefH r s gs fl l).star F) w↔∃y,HOk s gs l y∧Sat (HParts r s gs fl y F) w:=by
 have e:∀y,(HParts r s gs fl y Pr.emp).star F=HParts r s gs fl y F:=fun y=>by simp only [HParts,Pr.star_assoc,Pr.emp_star]
 unfold RefH;rw [Sat.ex];constructor
 · rintro⟨y,h2⟩
   rw [Pr.star_assoc] at h2;obtain⟨h3,h4⟩:=Sat.pure.1 h2;exact⟨y,h3,h4.perm (e y)⟩
 · rintro⟨y,h1,h2⟩
   refine⟨y,?_⟩;rw [Pr.star_assoc];exact Sat.pure.2 ⟨h1,h2.perm (e y).symm⟩
theorem refH_refA {r:Nat}{s:PoolS}{gs:List PageV}{fl:Int}{l:List (List Int × List PageV)}{F:Pr}{w:World}(o:Sat ((RefH r s gs fl l).star F) w):
 ∃aa ca F',Sat ((RefA r s gs ⟨.slice aa l.length ca,fl,false⟩).star F') w:=by
 obtain⟨y,ok,o2⟩:=refH_iff.1 o;have o3:=OwnL.in7 o2;obtain⟨aa,ca,e,_⟩:=Row.read (o3.pull1 (A1:=Row 162 2 y.av y.ws.length (y.ws.flatMap wasCells)));rw [ok.len] at e;have h:=o3.pull5 (A1:=Pr.pts r (refHC s.refs y.cv y.lv y.pv y.av fl)) (A2:=IntsRow y.cv s.counts) (A3:=BoolsRow y.lv s.last) (A4:=PgRow y.pv y.xs gs) (A5:=Pr.own y.h)
 refine⟨aa,ca,starL [Row 162 2 y.av y.ws.length (y.ws.flatMap wasCells),big WasRow y.ws,F],refA_iff.2 ⟨y.rx,ok.now,h.perm ?_⟩⟩;unfold RefAt;simp only [Pr.star_assoc,e]
theorem was_open {L R:List Pr}{w:World}(a:WasX)(o:OwnL L w) [Pull (WasRow a) L R]:OwnL (IntsRow a.cv a.cs :: PgRow a.pv a.xs a.gs :: R) w:=⟨(o.pull1 (A1:=WasRow a)).perm (by unfold WasRow;rw [Pr.star_assoc];rfl)⟩
theorem was_close {L R R2:List Pr}{w:World}(a:WasX)(o:OwnL L w) [Pull (IntsRow a.cv a.cs) L R] [Pull (PgRow a.pv a.xs a.gs) R R2]:OwnL (WasRow a :: R2) w:=⟨(o.pull2 (A1:=IntsRow a.cv a.cs) (A2:=PgRow a.pv a.xs a.gs)).perm (by rw [← Pr.star_assoc];rfl)⟩
theorem was_shape {L R:List Pr}{w:World}(a:WasX)(o:OwnL L w) [Pull (WasRow a) L R]:∃a1 n1 c1 a2 n2 c2,a.cv= .slice a1 n1 c1∧a.pv= .slice a2 n2 c2:=by
 have h:=was_open a o;obtain⟨a1,c1,e1⟩:=Row.shape (h.pull1 (A1:=IntsRow a.cv a.cs));obtain⟨a2,c2,e2⟩:=Row.shape (h.pull1 (A1:=PgRow a.pv a.xs a.gs));exact⟨a1,_,c1,a2,_,c2,e1,e2⟩
section
variable(r:Nat)(s:PoolS)(gs:List PageV)(fl:Int)(l:List (List Int × List PageV))(F:Pr)(w:World)
theorem rdid_any(y:HX)(ok:HOk s gs l y)(a:WasX)(hok:ROk { s with counts:=a.cs } a.gs (y.wx a))(hl:l.length≤1048576)(hF:Sat (HParts r s gs fl y ((WasRow a).star F)) w):
 Calls Tryz.prog 120 #[.pointer (some ⟨r,0,none⟩),a.cv,a.pv] w fun e w'=>e= .returned (.tuple #[])∧Stays w w'∧Sat ((RefH r s gs fl (l++ [(a.cs,a.gs)])).star F) w':=by
 obtain⟨cv,lv,pv,av,xs,h,ws⟩:=y;obtain⟨acv,apv,axs,acs,ags⟩:=a;have hs:=OwnL.in8 hF;dsimp only at hs;clear hF;have hwl:ws.length=l.length:=ok.len;obtain⟨aa,ca,e1,_,_⟩:=Row.read (hs.row av);subst e1;obtain⟨ac1,nc1,cc1,ap1,np1,cp1,rfl,rfl⟩:∃a1 n1 c1 a2 n2 c2,acv= .slice a1 n1 c1∧apv= .slice a2 n2 c2:=was_shape ⟨acv,apv,axs,acs,ags⟩ hs;have c1:=hs.facts
 simp only [CellsAt,Nat.reduceAdd,and_true] at c1;obtain⟨i0,hi,hz0,hz1,hz2⟩:=info_parts infoWasR;have hs1:=hs.alloc (.cells [.slice ac1 nc1 cc1,.slice ap1 np1 cp1].toArray 162);have hnew:=hQ (new_cells w [.slice ac1 nc1 cc1,.slice ap1 np1 cp1] 162 _ rfl);have HA:=hQ (hs1.row (.slice aa ws.length ca));have HOK:=hQ (And.intro ok hok);have HWL:=hQ hwl;have HLL:=hQ hl;clear hs hs1 ok hok hwl hl
 go_enter Tryz.func120,Tryz.ntmps120
 go_wp2_with (
  at_builtin
  refine wpList_append_sl rfl _ _ _ rfl 162 i0 (.agg #[.slice none 0 0,.slice none 0 0]) 2 48 Tryz.underlying113 hi hz0 hz1 hz2 rfl _ _ _ rfl HA.out ⟨w.heap.size,0,none⟩ 1 1 [.slice ac1 nc1 cc1,.slice ap1 np1 cp1] rfl rfl hnew.out (by simp [Value.oneCell']) (by have:=HWL.out;have:=HLL.out;simp only [maxLen];omega) (by have:=HWL.out;have:=HLL.out;omega) ?_
  intro v7 w4 hs4 hg4 _
  obtain⟨a7',c7',e7',_,_⟩:=Row.read hs4
  subst e7'
  have HS4:=hQ hs4
  have HG4:=hQ hg4
  clear c1
  have c1:=(OwnL.of1 hs4).facts
  simp only [CellsAt,Nat.reduceAdd,and_true] at c1
  clear hs4 hg4)
 first | refine bodyPost_ret (results_none rfl _ _ _) rfl ?_ | go_end0
 refine⟨rfl,(((Stays.refl w).alloc _).of_grown HG4.out).setCell _ _,?_⟩;have h5:=(OwnL.of1 HS4.out).set r 4 (.slice a7' (ws.length+1) c7');refine refH_iff.2 ⟨⟨cv,lv,pv,.slice a7' (ws.length+1) c7',xs,h,ws++ [⟨.slice ac1 nc1 cc1,.slice ap1 np1 cp1,axs,acs,ags⟩]⟩,⟨HOK.out.1.now,?_,?_⟩,?_⟩
 · intro a ha
   rcases List.mem_append.1 ha with ha | ha
   · exact HOK.out.1.was a ha
   · rw [List.mem_singleton.1 ha];exact HOK.out.2
 · show List.map wasOf (ws++ [_])=_
   rw [List.map_append,show ws.map wasOf=l from HOK.out.1.l];rfl
 · have h6:=h5.snoc WasRow ws ⟨.slice ac1 nc1 cc1,.slice ap1 np1 cp1,axs,acs,ags⟩
   dsimp only [HParts];rw [List.length_append,List.flatMap_append,List.length_singleton,show List.flatMap wasCells [⟨.slice ac1 nc1 cc1,.slice ap1 np1 cp1,axs,acs,ags⟩]= [.slice ac1 nc1 cc1,.slice ap1 np1 cp1] from rfl];exact h6.end8 (A8:=F)
theorem rnot_any(y:HX)(ok:HOk s gs l y)(a:WasX)(hok:ROk { s with counts:=a.cs } a.gs (y.wx a))(hF:Sat (HParts r s gs fl y ((WasRow a).star F)) w):
 Calls Tryz.prog 121 #[.pointer (some ⟨r,0,none⟩),a.cv,a.pv] w fun e w'=>e= .returned (.tuple #[])∧Stays w w'∧Sat ((RefH r { s with counts:=a.cs } a.gs fl l).star F) w':=by
 obtain⟨cv,lv,pv,av,xs,h,ws⟩:=y;obtain⟨acv,apv,axs,acs,ags⟩:=a;have hs:=OwnL.in8 hF;dsimp only at hs;clear hF;obtain⟨ac1,nc1,cc1,ap1,np1,cp1,rfl,rfl⟩:∃a1 n1 c1 a2 n2 c2,acv= .slice a1 n1 c1∧apv= .slice a2 n2 c2:=was_shape ⟨acv,apv,axs,acs,ags⟩ hs;have c1:=hs.facts;simp only [CellsAt,Nat.reduceAdd,and_true] at c1;have HS:=hQ hs;have HOK:=hQ (And.intro ok hok);clear hs ok hok
 go_enter Tryz.func121,Tryz.ntmps121
 go_wp2;first | refine bodyPost_ret (results_none rfl _ _ _) rfl ?_ | go_end0
 refine⟨rfl,((Stays.refl w).setCell _ _).setCell _ _,?_⟩;have h5:=(HS.out.set r 1 (.slice ac1 nc1 cc1)).set r 3 (.slice ap1 np1 cp1);refine refH_iff.2 ⟨⟨.slice ac1 nc1 cc1,lv,.slice ap1 np1 cp1,av,axs,h,ws⟩,⟨HOK.out.2,HOK.out.1.was,HOK.out.1.l⟩,?_⟩;have h6:=was_open ⟨.slice ac1 nc1 cc1,.slice ap1 np1 cp1,axs,acs,ags⟩ h5;exact h6.end8 (A8:=F)
theorem ract_any(hl:l.length≤1048576)(hF:Sat ((RefH r s gs fl l).star F) w):
 Calls Tryz.prog 157 #[.pointer (some ⟨r,0,none⟩)] w fun e w'=>e= .returned (.tuple #[])∧Stays w w'∧Sat ((RefH r s gs fl (l++ [(s.counts,gs)])).star F) w':=by
 obtain⟨⟨cv,lv,pv,av,xs,h,ws⟩,ok,h0⟩:=refH_iff.1 hF;have hs:=OwnL.in7 h0;dsimp only at hs;clear hF h0;have hwl:ws.length=l.length:=ok.len;obtain⟨aa,ca,rfl⟩:=Row.shape (hs.row av);obtain⟨a0,c0,rfl⟩:=Row.shape (hs.pull1 (A1:=IntsRow cv s.counts));obtain⟨ap,cp,rfl⟩:=Row.shape (hs.pull1 (A1:=PgRow pv xs gs));obtain⟨a,ha,hs1⟩:=hs.arena (IntsRow (.slice a0 s.counts.length c0) s.counts)
 have c1:=hs1.facts;simp only [CellsAt,Nat.reduceAdd,and_true] at c1;have CI:=hQ (copyints_any a _ s.counts _ w.drew (hs1.drew.pull1 (A1:=Pr.own a)) (Row.rowIn ha) ok.now.n2);have HA:=hQ ha;have HOK:=hQ ok;have HWL:=hQ hwl;have HLL:=hQ hl;obtain⟨i0,hi,hz0,hz1,hz2⟩:=info_parts infoWasR;clear hs hs1 ok hwl hl ha;go_enter Tryz.func157,Tryz.ntmps157
 go_wp2_with fail
 refine wS 27 [0,1,2,3,4,5,6,7,8,10,11,12,13] [(9,[],[0,1,2,3,4,5,6,7,10,11,12,13]),(14,[15],[0,1,2,3,4,5,6,7,10,11,12]),(16,[],[0,1,2,3,4,5,6,7,10,11,12]),(17,[18,19],[0,1,2,3,5,6,7,10,11,12]),(20,[],[18])] ?_;refine wpQ_all _ rfl rfl ?_;simp only [pick,pQ];iterate 13 (go_big_quiet_step (fail))
 refine wpQuiet_nil ?_;refine wpRest_act rfl ?_;go_wp2_with fail
 refine CI.out.mono ?_;rintro e w1 ⟨v1,rfl,hs2,st1⟩;obtain⟨ac,cc,rfl⟩:=Row.shape hs2;have hs3:=(OwnL.of2 hs2).back (IntsRow (.slice a0 s.counts.length c0) s.counts) HA.out;obtain⟨a2,ha2,hs4⟩:=hs3.arena (PgRow (.slice ap gs.length cp) xs gs);clear c1;have c1:=hs4.facts;simp only [CellsAt,Nat.reduceAdd,and_true] at c1
 have CP:=hQ (copypages_any a2 _ h xs gs HOK.out.now.pgs (Row.rowIn ha2) (by have:=HOK.out.now.n2;have:=HOK.out.now.gl;omega) _ _ (hs4.pull1 (A1:=Pr.own a2)));have HA2:=hQ ha2;have HST1:=hQ ((Stays.refl w).drew.trans st1);clear hs2 hs3 hs4 st1 CI HA ha2;go_wp2;refine onN_mk ?_;refine wpQ_nil ⟨?_,?_⟩
 · exact cQ
 refine wpRest_act rfl ?_;go_wp2_with fail
 refine CP.out.mono ?_;rintro e w2 ⟨v2,rfl,hs5,st2⟩;obtain⟨aq,cq,rfl⟩:=Row.shape hs5;have hs6:=(OwnL.of2 hs5).back (PgRow (.slice ap gs.length cp) xs gs) HA2.out;clear c1;have c1:=hs6.facts;simp only [CellsAt,Nat.reduceAdd,and_true] at c1;have A1:=hQ ((hs6.alloc (.cells [.slice ac s.counts.length cc,.slice aq gs.length cq].toArray 162)).row (.slice aa ws.length ca))
 have hnew:=hQ (new_cells w2 [.slice ac s.counts.length cc,.slice aq gs.length cq] 162 _ rfl);have HST2:=hQ ((HST1.out.trans st2).alloc (.cells [.slice ac s.counts.length cc,.slice aq gs.length cq].toArray 162));clear hs5 hs6 st2 CP HA2 HST1;go_wp2;refine onN_mk ?_;refine wpQ_all _ rfl rfl ?_;simp only [pick,pQ];iterate 1 (go_big_quiet_step (fail))
 refine wpQuiet_nil ⟨?_,?_⟩
 · exact cQ
 refine wpRest_act rfl ?_;go_wp2;refine onN_mk ?_;refine wpQ_nil ⟨?_,?_⟩
 · exact cQ
 refine wpRest_act rfl ?_
 refine wpList_append_slK rfl _ _ _ rfl 162 i0 (.agg #[.slice none 0 0,.slice none 0 0]) 2 48 Tryz.underlying113 hi hz0 hz1 hz2 rfl _ _ _ rfl A1.out ⟨w2.heap.size,0,none⟩ 1 1 [.slice ac s.counts.length cc,.slice aq gs.length cq] rfl rfl hnew.out (by simp [Value.oneCell']) (by have:=HWL.out;have:=HLL.out;simp only [maxLen];omega) (by have:=HWL.out;have:=HLL.out;omega) (fun v7 w7 hs7 hg7 K hK=> ?_)
 obtain⟨a7,c7,rfl⟩:=Row.shape hs7;go_simp;refine hK _ ?_;clear hK K;have HS7:=hQ (OwnL.of1 hs7);have HST7:=hQ (HST2.out.of_grown hg7);clear hs7 hg7 A1 hnew HST2 c1;have c1:=HS7.out.facts;simp only [CellsAt,Nat.reduceAdd,and_true] at c1;refine wpList_nil ?_;refine onN_mk ?_;refine wpQ_all _ rfl rfl ?_;simp only [pick,pQ];iterate 2 (go_big_quiet_step (fail))
 refine wpQuiet_nil ⟨?_,?_⟩
 · exact cQ
 refine wpRest_act rfl ?_;go_wp2;refine onN_mk ?_;refine wpQ_nil ⟨?_,?_⟩
 · exact cQ
 refine wpRest_nil ?_;go_wp2;first | refine bodyPost_ret (results_none rfl _ _ _) rfl ?_ | go_end0
 refine⟨rfl,HST7.out.setCell _ _,?_⟩;have h5:=HS7.out.set r 4 (.slice a7 (ws.length+1) c7);have h6:=was_close ⟨.slice ac s.counts.length cc,.slice aq gs.length cq,xs,s.counts,gs⟩ h5;have h7:=h6.snoc WasRow ws ⟨.slice ac s.counts.length cc,.slice aq gs.length cq,xs,s.counts,gs⟩
 refine refH_iff.2 ⟨⟨.slice a0 s.counts.length c0,lv,.slice ap gs.length cp,.slice a7 (ws.length+1) c7,xs,h,ws++ [⟨.slice ac s.counts.length cc,.slice aq gs.length cq,xs,s.counts,gs⟩]⟩,⟨HOK.out.now,?_,?_⟩,?_⟩
 · intro a ha
   rcases List.mem_append.1 ha with ha | ha
   · exact HOK.out.was a ha
   · rw [List.mem_singleton.1 ha];exact⟨HOK.out.now.pgs,HOK.out.now.ll,HOK.out.now.gl,HOK.out.now.n2,HOK.out.now.c0,HOK.out.now.fit⟩
 · show List.map wasOf (ws++ [_])=_
   rw [List.map_append,show ws.map wasOf=l from HOK.out.l];rfl
 · dsimp only [HParts]
   rw [List.length_append,List.flatMap_append,List.length_singleton,show List.flatMap wasCells [⟨.slice ac s.counts.length cc,.slice aq gs.length cq,xs,s.counts,gs⟩]= [.slice ac s.counts.length cc,.slice aq gs.length cq] from rfl];exact h7.end8 (A8:=F)
end
end Go.Proofs.YtpfafhklppondaaGreat.V9
namespace Go.Cop
open Go.Proofs.YtpfafhklppondaaGreat.J8 Go.Proofs.YtpfafhklppondaaGreat.Z7 Go.Proofs.YtpfafhklppondaaGreat.X6
def PoolS.withC(s:PoolS)(cs:List Int):PoolS:= { s with counts:=cs }
def IncP(s:PoolS)(n:Int):PoolS:=if incL s.refs s.counts n=0 then s.withC (addC s.counts n 1) else s
def incsR(s:PoolS):List Int→Int × PoolS
 | []=>(0,s)
 | k :: r=>if incL s.refs s.counts k=0 then incsR (IncP s k) r else(incL s.refs s.counts k,s)
theorem incsR_one {s:PoolS}{k:Int}{r:List Int}:incsR s (k :: r)=if incL s.refs s.counts k=0 then incsR (IncP s k) r else(incL s.refs s.counts k,s):=rfl
theorem incsR_app:∀ {a b:List Int} {s t:PoolS},incsR s a=(0,t)→incsR s (a++b)=incsR t b
 | [],b,s,t,h=>by cases h;rfl
 | k :: a,b,s,t,h=>by
   rw [List.cons_append,incsR_one];rw [incsR_one] at h;by_cases h0:incL s.refs s.counts k=0
   · rw [if_pos h0] at h ⊢
     exact incsR_app h
   · rw [if_neg h0] at h
     exact absurd (congrArg Prod.fst h) h0
def leaveRR(s:PoolS)(g:PageV)(n:Int):Int × PoolS:=
 if cntL s.counts n=1 then(0,s.withC (addC s.counts n (-1))) else incsR (s.withC (addC s.counts n (-1))) (kidsOf g)
def CB(s:PoolS):Prop:=s.refs≤65536∧∀c∈s.counts,c≤s.refs
end Go.Cop
namespace Go.Proofs.YtpfafhklppondaaGreat.Y9
open ChangeShapes WideShapes ChangeAt RowKit Sl Cop M2 P3 X3 G4 Q2 X2 J4 L4 K6 P4 Q6 X7 Z7 C8 F8 E8 J8 B7 X6 V9 K9
section
variable(r:Nat)(s:PoolS)(gs:List PageV)(hush:RTail)
theorem refAt_open {L R:List Pr}{w:World}(x:RX)(o:OwnL L w) [Pull (RefAt r s gs hush x) L R]:OwnL (Pr.pts r (refC s.refs x.cv x.lv x.pv hush) :: IntsRow x.cv s.counts :: BoolsRow x.lv s.last :: PgRow x.pv x.xs gs :: Pr.own x.h :: R) w:=
 ⟨(o.pull1 (A1:=RefAt r s gs hush x)).perm (by unfold RefAt;simp only [Pr.star_assoc];rfl)⟩
theorem refAt_close {F:Pr}{w:World}(x:RX)(o:Sat ((Pr.pts r (refC s.refs x.cv x.lv x.pv hush)).star ((IntsRow x.cv s.counts).star ((BoolsRow x.lv s.last).star ((PgRow x.pv x.xs gs).star ((Pr.own x.h).star F))))) w):Sat ((RefAt r s gs hush x).star F) w:=
 o.perm (by unfold RefAt;simp only [Pr.star_assoc])
theorem hparts_at(fl:Int)(y:HX)(T:Pr):HParts r s gs fl y T=(RefAt r s gs ⟨y.av,fl,false⟩ y.rx).star ((Row 162 2 y.av y.ws.length (y.ws.flatMap wasCells)).star ((big WasRow y.ws).star T)):=by
 unfold RefAt;simp only [HParts,Pr.star_assoc]
theorem cb_addC {s:PoolS}(h:CB s){n:Int}(h0:incL s.refs s.counts n=0):CB (s.withC (addC s.counts n 1)):=by
 refine⟨h.1,fun c hc=> ?_⟩;have hc':c∈addC s.counts n 1:=hc;unfold addC at hc';show c≤s.refs
 rcases List.mem_or_eq_of_mem_set hc' with h1 | h1
 · exact h.2 c h1
 · unfold incL at h0
   by_cases h2:cntL s.counts n=0
   · rw [if_pos h2] at h0;cases h0
   · rw [if_neg h2] at h0
     by_cases h3:s.refs≤cntL s.counts n
     · rw [if_pos h3] at h0;cases h0
     · omega
theorem cb_sub {s:PoolS}(h:CB s){n:Int}(hn:1≤n∧n≤s.counts.length):CB (s.withC (addC s.counts n (-1))):=by
 refine⟨h.1,fun c hc=> ?_⟩;have hc':c∈addC s.counts n (-1):=hc;unfold addC at hc';show c≤s.refs
 have hj:n.toNat-1<s.counts.length:=by omega
 rcases List.mem_or_eq_of_mem_set hc' with h1 | h1
 · exact h.2 c h1
 · have h4:=h.2 s.counts[n.toNat-1] (List.getElem_mem hj)
   have e:cntL s.counts n=s.counts[n.toNat-1]:=by
    unfold cntL;rw [if_pos hn,List.getD_eq_getElem?_getD,List.getElem?_eq_getElem hj];rfl
   omega
theorem cb_inc {s:PoolS}(h:CB s)(n:Int):CB (IncP s n):=by
 unfold IncP;by_cases h0:incL s.refs s.counts n=0
 · rw [if_pos h0];exact cb_addC h h0
 · rw [if_neg h0];exact h
theorem refAt_refA {x:RX}{F:Pr}{w:World}(ok:ROk s gs x)(h:Sat ((RefAt r s gs hush x).star F) w):Sat ((RefA r s gs hush).star F) w:=refA_iff.2 ⟨x,ok,h⟩
theorem rinc_x(x:RX)(ok:ROk s gs x)(n:Int)(hcb:CB s)(F:Pr)(w:World)(hF:Sat ((RefAt r s gs hush x).star F) w):
 Calls Tryz.prog 119 #[.pointer (some ⟨r,0,none⟩),.int .i64 n] w fun e w'=>e= .returned (.int .i64 (incL s.refs s.counts n))∧Stays w w'∧
  ROk (IncP s n) gs x∧Sat ((RefAt r (IncP s n) gs hush x).star F) w':=by
 have IS:=hQ (rthere_any r s gs hush n F w (refAt_refA r s gs hush ok hF));obtain⟨ac,cc,al,cl,ap,cp,⟨q1,q2,q3,q0⟩,z,_,rd⟩:=ref_rd ok hF;have HF:=hQ hF;rw [rcount_cnt] at IS;have hr:=hcb.2;have hrf:=hcb.1;by_cases h0:cntL s.counts n=0
 · have e1:incL s.refs s.counts n=15:=by unfold incL;rw [if_pos h0]
   have e2:IncP s n=s:=by unfold IncP;rw [e1];exact if_neg (by decide)
   rw [h0,decide_eq_false (by omega)] at IS;rw [e1,e2];have HOK:=hQ ok;clear rd ok hF hr e1 e2 hcb;go_enter Tryz.func119,Tryz.ntmps119
   go_wp2_with fail
   refine IS.out.mono ?_;rintro e w1 ⟨rfl,rfl⟩;go_wp2;go_ret;exact⟨rfl,Stays.refl _,HOK.out,HF.out⟩
 · have ht:s.there n:=by
    by_cases ht:s.there n
    · exact ht
    · exact absurd (by unfold cntL;exact if_neg ht) h0
   obtain⟨j,rfl,hj⟩:=there_idx ht
   have hc1:0<cntL s.counts ((j:Int)+1):=by
    rw [cnt_idx hj] at h0 ⊢;have:=ok.c0 s.counts[j] (List.getElem_mem hj)
    simp [hj] at h0 ⊢
    omega
   have hc2:cntL s.counts ((j:Int)+1)≤65536:=by
    rw [cnt_idx hj];have:=hr s.counts[j] (List.getElem_mem hj)
    simp [hj] at this ⊢
    omega
   rw [decide_eq_true hc1] at IS;obtain⟨⟨b,rfl,c0⟩,_⟩:=rd j hj;obtain⟨b2,cc2,e2,_,f2,wr⟩:=ref_wr_count hF hj
   have ebb:b2=b:=by
    have h1:Sat ((Pr.pts r (refC s.refs x.cv x.lv x.pv hush)).star ((IntsRow x.cv s.counts).star ((BoolsRow x.lv s.last).star ((PgRow x.pv x.xs gs).star ((Pr.own x.h).star F))))) w:=hF.perm (by unfold RefAt;ac_rfl);have h2:w.cell? ⟨r,1,none⟩=some x.cv:=by rw [cell_of_heap h1.pts_heap];rfl
    rw [q1,e2] at h2;cases h2;rfl
   subst ebb;have hn2:=ok.n2;have HOK:=hQ ok;have HWR:=hQ wr;have HADD:=hQ (addC_idx hj 1);have HNN:=hQ (addC_nn (n:=(j:Int)+1) (b:=1) ok.c0 (by omega));have zc:=World.block_lt_of_cell? _ _ c0;obtain⟨V,hV⟩:∃V,V=incL s.refs s.counts ((j:Int)+1):=⟨_,rfl⟩;obtain⟨S2,hS⟩:∃S2,S2=IncP s ((j:Int)+1):=⟨_,rfl⟩;rw [← hV, ← hS];unfold IncP incL at hS;unfold incL at hV;rw [if_neg h0] at hS hV
   rw [cnt_idx hj] at hc1 hc2 h0 hV hS;have HVS:=hQ (And.intro hV hS);clear rd ok hF wr ht e2 hr hcb hV hS;generalize s.counts.getD j 0=c at*;by_cases hg:s.refs≤c
   · have hd:decide (s.refs≤c)=true:=decide_eq_true hg
     obtain⟨hV,hS⟩:=HVS.out;rw [if_pos hg] at hV hS;rw [if_neg (by decide)] at hS;subst hV hS;go_enter Tryz.func119,Tryz.ntmps119
     go_wp2_with fail
     refine IS.out.mono ?_;rintro e w1 ⟨rfl,rfl⟩;go_wp2_with fail
     go_quiet (fail)
     go_wp2;go_ret;exact⟨rfl,(Stays.refl _).drewN _,HOK.out,HF.out.drewN _⟩
   · have hd:decide (s.refs≤c)=false:=decide_eq_false hg
     obtain⟨hV,hS⟩:=HVS.out;rw [if_neg hg] at hV hS;rw [if_pos rfl] at hS;subst hV;have HS2:=hQ hS;clear hS;go_enter Tryz.func119,Tryz.ntmps119
     go_wp2_with fail
     refine IS.out.mono ?_;rintro e w1 ⟨rfl,rfl⟩;go_wp2_with fail
     go_quiet (fail)
     go_wp2;go_ret;have h9:=HWR.out (c+1);rw [← HADD.out] at h9;rw [HS2.out];exact⟨rfl,((Stays.refl _).setCell _ _).drewN _,rok_counts HOK.out (addC_len _ _ _) HNN.out,h9.drewN _⟩
theorem rmore_x(x:RX)(ok:ROk s gs x)(pv:Value)(g:PageV)(hpg:PageIn x.h pv g)(hgl:g.items.length≤65535)(hcb:CB s)(F:Pr)(w:World)(hF:Sat ((RefAt r s gs hush x).star F) w):
 Calls Tryz.prog 159 #[.pointer (some ⟨r,0,none⟩),pv] w fun e w'=>e= .returned (.int .i64 (incsR s (kidsOf g)).1)∧Stays w w'∧
  ROk (incsR s (kidsOf g)).2 gs x∧CB (incsR s (kidsOf g)).2∧Sat ((RefAt r (incsR s (kidsOf g)).2 gs hush x).star F) w':=by
 obtain⟨vi,vd,rfl,hi,hdd⟩:=id hpg;obtain⟨ai,ci,rfl,_,_⟩:=items_rd hi;obtain⟨ad,cd,rfl⟩:=bytes_shape hdd;have hs:=((OwnL.in1 hF).alloc (pageC g.kind g.level (.slice ai g.items.length ci) (.slice ad g.data.length cd) g.next));have hs1:=refAt_open r s gs hush x hs;have KI:=hQ (rkids_any x.h _ g hpg (by omega) _ _ (hs1.pull1 (A1:=Pr.own x.h)));have c1:=hs.facts
 simp only [CellsAt,Nat.reduceAdd,and_true] at c1;have hkl0:(kidsOf g).length≤65536:=by have:=kidsOf_len g;omega
 have HST:=hQ ((Stays.refl w).alloc (pageC g.kind g.level (.slice ai g.items.length ci) (.slice ad g.data.length cd) g.next));have HOK:=hQ ok;have HCB:=hQ hcb;obtain⟨R,hR⟩:∃R,R=incsR s (kidsOf g):=⟨_,rfl⟩;rw [← hR];have HR:=hQ hR;clear hs hs1 hF hi hdd hpg ok hcb hR;go_enter Tryz.func159,Tryz.ntmps159
 go_wp2_with fail
 refine KI.out.mono ?_;rintro e w1 ⟨kv,rfl,hs2,st1⟩;obtain⟨kl,hkl⟩:∃kl,kidsOf g=kl:=⟨_,rfl⟩;rw [hkl] at hs2 hkl0;have HKL:=hQ hkl;obtain⟨ak,ck,rfl⟩:=Row.shape hs2;have hs3:=OwnL.of1 (refAt_close r s gs hush x (OwnL.of2 hs2).pull5);have HS3:=hQ hs3;have HST1:=hQ (HST.out.trans st1);have hkb:(kl.length:Int)≤65536:=by omega
 clear hs2 hs3 st1 KI HST hkl c1;go_wp2
 go_loopw [6] (fun i wr=> ∃(k:Nat) (t:PoolS),k≤kl.length∧i= .int .i64 k∧Stays w wr∧Hid (incsR s (kl.take k)=(0,t))∧Hid (CB t)∧Hid (ROk t gs x)∧
  OwnL [RefAt r t gs hush x,IntsRow (.slice ak kl.length ck) kl,F] wr) (fun i _=>kl.length-(intOf i).toNat)
 case atStart=>exact⟨0,s,Nat.zero_le _,rfl,HST1.out,hQ rfl,HCB,HOK,HS3.out.to⟩
 case round=>
  obtain⟨k,t,hk,rfl,hst,hin,hcr,hok,hs⟩:=hrel;clear HS3 HST1;rcases Nat.lt_or_ge k kl.length with hlt | hge
  · obtain⟨bk,u,rfl,hu,kc,_,kz⟩:=Row.at1 (hs.row (.slice ak kl.length ck)) k hlt
    rw [List.getElem?_map,List.getElem?_eq_getElem hlt] at hu;simp only [Option.map_some,Option.some.injEq] at hu;subst hu;have IN:=hQ (rinc_x r t gs hush x hok.out kl[k] hcr.out _ wr (hs.pull1 (A1:=RefAt r t gs hush x)));have HTK:=hQ (show kl.take (k+1)=kl.take k++ [kl[k]] from List.take_succ_eq_append_getElem hlt)
    have HDK:=hQ (show kl=kl.take k++kl[k] :: kl.drop (k+1) from by
     rw [← List.drop_eq_getElem_cons hlt,List.take_append_drop])
    have HST3:=hQ hst;clear hs hst;generalize kl[k]=kn at*;generalize hEE:incL t.refs t.counts kn=EE at*;have HEE:=hQ hEE;clear hEE;go_wp2_with fail
    refine IN.out.mono ?_;rintro e w3 ⟨rfl,st3,ok3,hs2⟩;have HS2:=hQ (OwnL.of1 hs2);have HOK3:=hQ ok3;clear hs2 ok3;by_cases hi0:EE=0
    · subst hi0
      clear IN;go_wp2;go_roundw
      case rel=>
       refine⟨k+1,IncP t kn,by omega,congrArg (Value.int .i64) (by omega),HST3.out.trans st3,hQ ?_,hQ (cb_inc hcr.out kn),HOK3,HS2.out.to⟩;rw [HTK.out,incsR_app hin.out,incsR_one,if_pos HEE.out];rfl
      case measure=>simp [intOf];omega
    · have hib:(EE != 0)=true:=by rw [bne_iff_ne];exact hi0
      have HI0:=hQ hi0;clear IN hi0;go_wp2;go_ret;have e2:IncP t kn=t:=by unfold IncP;rw [HEE.out];exact if_neg HI0.out
      have e3:incsR s (kidsOf g)=(EE,t):=by
       rw [HKL.out,HDK.out,incsR_app hin.out,incsR_one,HEE.out,if_neg HI0.out]
      rw [e2] at HS2;rw [HR.out,e3];exact⟨rfl,HST3.out.trans st3,hok.out,hcr.out,HS2.out.end2⟩
  · have hkk:k=kl.length:=by omega
    subst hkk;have HS:=hQ hs;clear hs;go_wp2;go_ret;have hin2:=hin.out;rw [List.take_length] at hin2;rw [HR.out,HKL.out,hin2];exact⟨rfl,hst,hok.out,hcr.out,HS.out.end2⟩
end
end Go.Proofs.YtpfafhklppondaaGreat.Y9
namespace Go.Proofs.YtpfafhklppondaaGreat.Z9
open ChangeShapes WideShapes ChangeAt RowKit Sl Cop M2 P3 X3 G4 Q2 X2 J4 L4 K6 P4 Q6 X7 Z7 C8 F8 E8 J8 B7 X6 V9 K9 Y9
section
variable(r:Nat)(s:PoolS)(gs:List PageV)(hush:RTail)
theorem rown_any(n:Int)(F:Pr)(w:World)(hF:Sat ((RefA r s gs hush).star F) w):
 Calls Tryz.prog 139 #[.pointer (some ⟨r,0,none⟩),.int .i64 n] w fun e w'=>e= .returned (.bool (ownP s n))∧w=w':=by
 unfold ownP;have ST:=hQ (rstate_any r s gs hush n F w hF);obtain⟨x,ok,h⟩:=refA_iff.1 hF;obtain⟨ac,cc,al,cl,ap,cp,⟨q1,q2,q3,q0⟩,z,_,rd⟩:=ref_rd ok h;have hn2:=ok.n2;by_cases h3:s.state n=3
 · have ht:=there_of_state (by omega:s.state n≠0)
   obtain⟨j,rfl,hj⟩:=there_idx ht;obtain⟨⟨b,rfl,c0⟩,_⟩:=rd j hj;rw [decide_eq_true h3,rcount_cnt,cnt_idx hj];rw [h3] at ST;clear rd h ok hF h3 ht;generalize s.counts.getD j 0=c at*;have zc:=World.block_lt_of_cell? _ _ c0;go_enter Tryz.func139,Tryz.ntmps139
   go_wp2_with fail
   refine ST.out.mono ?_;rintro e w1 ⟨rfl,rfl⟩;go_wp2;go_ret;have e5:(c == 1)=decide (c=1):=by by_cases h:c=1<;>simp [h]
   exact⟨by simp [e5],rfl⟩
 · have h3':(s.state n == 3)=false:=beq_eq_false_iff_ne.2 h3
   rw [decide_eq_false h3];clear rd h ok hF;generalize s.state n=st at*;go_enter Tryz.func139,Tryz.ntmps139
   go_wp2_with fail
   refine ST.out.mono ?_;rintro e w1 ⟨rfl,rfl⟩;go_wp2;go_ret;exact⟨by simp,rfl⟩
theorem rleave_x(x:RX)(ok:ROk s gs x)(n:Int)(h0:cntL s.counts n≠0)(hcb:CB s)(F:Pr)(w:World)(hF:Sat ((RefAt r s gs hush x).star F) w):
 Calls Tryz.prog 141 #[.pointer (some ⟨r,0,none⟩),.int .i64 n] w fun e w'=>e= .returned (.int .i64 (leaveRR s (pgAt gs n) n).1)∧Stays w w'∧
  ROk (leaveRR s (pgAt gs n) n).2 gs x∧CB (leaveRR s (pgAt gs n) n).2∧Sat ((RefAt r (leaveRR s (pgAt gs n) n).2 gs hush x).star F) w':=by
 have ht:s.there n:=by
  by_cases ht:s.there n
  · exact ht
  · exact absurd (by unfold cntL;exact if_neg ht) h0
 obtain⟨j,rfl,hj⟩:=there_idx ht
 have hc2:s.counts.getD j 0≤65536:=by
  have:=hcb.2 s.counts[j] (List.getElem_mem hj)
  have:=hcb.1
  simp [hj]
  omega
 have hc1:0<s.counts.getD j 0:=by
  rw [cnt_idx hj] at h0;have:=ok.c0 s.counts[j] (List.getElem_mem hj)
  simp [hj] at h0 ⊢
  omega
 have hcb1:=cb_sub hcb (n:=(j:Int)+1) ht;have ok1:ROk (s.withC (addC s.counts ((j:Int)+1) (-1))) gs x:=rok_counts ok (addC_len _ _ _) (addC_nn ok.c0 (by rw [cnt_idx hj];omega));have hn2:=ok.n2;obtain⟨b,c,b2,c2,b3,c3,⟨e1,e2,e3⟩,⟨q1,q2,q3⟩,⟨k1,f1⟩,⟨k2,f2⟩,_,⟨n1,n2,n3,n4,n5,n6⟩,zr,zb,zb2,zb3⟩:=ref_all ok hF (j:=j) hj;obtain⟨b',c',e1',_,_,wc⟩:=ref_wr_count hF hj;rw [e1] at e1'
 cases (Value.slice.inj e1').1;have h5:=wc (s.counts.getD j 0+ -1);rw [← addC_idx hj (-1)] at h5;obtain⟨ac,cc,al,cl,ap,cp,⟨_,_,p3,_⟩,_,_,rd⟩:=ref_rd ok hF;obtain⟨_,_,b4,g,vi,vd,eb4,hg,hpg,y0,y1,y2,y3,y4⟩:=rd j hj;rw [q3] at p3;cases p3;cases eb4
 have hpgat:pgAt gs ((j:Int)+1)=g:=by
  unfold pgAt;rw [show ((j:Int)+1).toNat-1=j by omega,List.getD_eq_getElem?_getD,hg];rfl
 have hgl:g.items.length≤65535:=by
  have:=(ok.fit g (List.mem_of_getElem? hg)).n
  omega
 obtain⟨vi',vd',epv,hi,hdd⟩:=id hpg;obtain⟨ai,ci,evi,_,_⟩:=items_rd hi;obtain⟨ad,cd,evd⟩:=bytes_shape hdd;have MO:=hQ (rmore_x r (s.withC (addC s.counts ((j:Int)+1) (-1))) gs hush x ok1 _ g hpg hgl hcb1 F _ h5);rw [hpgat];obtain⟨R,hR⟩:∃R,R=leaveRR s g ((j:Int)+1):=⟨_,rfl⟩;rw [← hR];unfold leaveRR at hR;rw [cnt_idx hj] at hR;have HR:=hQ hR;have H5:=hQ h5;have HOK1:=hQ (And.intro ok1 hcb1)
 have epv2:(vi=vi'∧vd=vd'):=by
  have:=epv
  unfold pageV at this;simp at this
  exact this
 obtain⟨rfl,rfl⟩:=epv2;subst evi evd;clear hR ok hF wc rd h5 ok1 hcb1 hcb h0 ht hpg hi hdd e1 e2 e3 e1' epv hpgat hg hgl;have hm1:s.counts.getD j 0+ -1=s.counts.getD j 0-1:=by omega
 rw [hm1] at MO H5;generalize s.counts.getD j 0=cj at*;clear hm1;by_cases h1:cj=1
 · subst h1
   rw [if_pos rfl] at HR;clear MO y0 y1 y2 y3 y4;go_enter Tryz.func141,Tryz.ntmps141
   go_wp2;go_ret;rw [HR.out];exact⟨rfl,(Stays.refl w).setCell _ _,HOK1.out.1,HOK1.out.2,H5.out⟩
 · rw [if_neg h1] at HR
   have hne:(cj-1 == 0)=false:=beq_eq_false_iff_ne.2 (by omega);clear h1;go_enter Tryz.func141,Tryz.ntmps141
   go_wp2_with fail
   refine MO.out.mono ?_;rintro e w2 ⟨rfl,st2,ok2,cb2,hs2⟩;rw [← HR.out] at ok2 cb2 hs2 ⊢;have HS2:=hQ hs2;clear hs2 MO H5;go_wp2;go_ret;exact⟨rfl,((Stays.refl w).setCell _ _).trans st2,ok2,cb2,HS2.out⟩
end
end Go.Proofs.YtpfafhklppondaaGreat.Z9
namespace Go.Cop
open Go.Proofs.YtpfafhklppondaaGreat.J8 Go.Proofs.YtpfafhklppondaaGreat.X6
theorem incP_with(s:PoolS)(n:Int):∃cs,IncP s n=s.withC cs:=by
 unfold IncP;by_cases h:incL s.refs s.counts n=0
 · rw [if_pos h];exact⟨_,rfl⟩
 · rw [if_neg h];exact⟨s.counts,rfl⟩
theorem incsR_with:∀(l:List Int) (s:PoolS),∃cs,(incsR s l).2=s.withC cs
 | [],s=>⟨s.counts,rfl⟩
 | k :: r,s=>by
   rw [incsR_one];by_cases h:incL s.refs s.counts k=0
   · rw [if_pos h]
     obtain⟨c1,e1⟩:=incP_with s k;obtain⟨c2,e2⟩:=incsR_with r (IncP s k);exact⟨c2,by rw [e2,e1];rfl⟩
   · rw [if_neg h];exact⟨s.counts,rfl⟩
theorem leaveRR_with(s:PoolS)(g:PageV)(n:Int):∃cs,(leaveRR s g n).2=s.withC cs:=by
 unfold leaveRR;by_cases h:cntL s.counts n=1
 · rw [if_pos h];exact⟨_,rfl⟩
 · rw [if_neg h]
   obtain⟨c,e⟩:=incsR_with (kidsOf g) (s.withC (addC s.counts n (-1)));exact⟨c,by rw [e];rfl⟩
def histE(er:Int)(l:List (List Int × List PageV))(a:List Int × List PageV):List (List Int × List PageV):=if er=0 then l++ [a] else l
end Go.Cop
namespace Go.Proofs.YtpfafhklppondaaGreat.Ay
open ChangeShapes WideShapes ChangeAt RowKit Sl Cop M2 P3 X3 G4 Q2 X2 J4 L4 K6 P4 Q6 X7 Z7 C8 F8 E8 J8 V9 Y9
section
variable(r:Nat)(s:PoolS)(gs:List PageV)(fl:Int)(l:List (List Int × List PageV))
theorem rkeepH_any(n:Int)(hcb:CB s)(hl:l.length≤1048576)(F:Pr)(w:World)(hF:Sat ((RefH r s gs fl l).star F) w):
 Calls Tryz.prog 58 #[.pointer (some ⟨r,0,none⟩),.int .i64 n] w fun e w'=>e= .returned (.int .i64 (incL s.refs s.counts n))∧Stays w w'∧CB (IncP s n)∧
  Sat ((RefH r (IncP s n) gs fl (histE (incL s.refs s.counts n) l (s.counts,gs))).star F) w':=by
 obtain⟨y,ok,h0⟩:=refH_iff.1 hF;have hy:=hQ ok;obtain⟨cv,lv,pv,av,xs,h,ws⟩:=y;have hs:=OwnL.in7 h0;dsimp only at hs;clear hF h0;obtain⟨aa,ca,rfl⟩:=Row.shape (hs.row av);obtain⟨a0,c0,rfl⟩:=Row.shape (hs.pull1 (A1:=IntsRow cv s.counts));obtain⟨ap,cp,rfl⟩:=Row.shape (hs.pull1 (A1:=PgRow pv xs gs));obtain⟨a,ha,hs1⟩:=hs.arena (IntsRow (.slice a0 s.counts.length c0) s.counts);have c1:=hs1.facts
 simp only [CellsAt,Nat.reduceAdd,and_true] at c1;have CI:=hQ (copyints_any a _ s.counts _ w.drew (hs1.drew.pull1 (A1:=Pr.own a)) (Row.rowIn ha) ok.now.n2);have HA:=hQ ha;have HOK:=hQ ok;have HLL:=hQ hl;have HCB:=hQ hcb;have HCB2:=hQ (cb_inc hcb n);obtain⟨er,her⟩:∃er,incL s.refs s.counts n=er:=⟨_,rfl⟩;obtain⟨T,hT⟩:∃T,IncP s n=T:=⟨_,rfl⟩;obtain⟨cs3,hcs3⟩:=incP_with s n;rw [hT] at HCB2;rw [her,hT]
 have HT:=hQ (hT.symm.trans hcs3);have HER:=hQ (And.intro her hT);clear hs hs1 ok hl ha hcb hy her hT hcs3;go_enter Tryz.func58,Tryz.ntmps58
 go_wp2_with fail
 refine wS 28 [0,1,2,3,5,6,7,8] [(4,[],[0,1,2,5,6,7,8]),(9,[10,11],[0,1,2,5,6,7])] ?_;refine wpQ_all _ rfl rfl ?_;simp only [pick,pQ];iterate 8 (go_big_quiet_step (fail))
 refine wpQuiet_nil ?_;refine wpRest_act rfl ?_;go_wp2_with fail
 refine CI.out.mono ?_;rintro e w1 ⟨v1,rfl,hs2,st1⟩;obtain⟨ac,cc,rfl⟩:=Row.shape hs2;have hs3:=(OwnL.of2 hs2).back (IntsRow (.slice a0 s.counts.length c0) s.counts) HA.out;obtain⟨a2,ha2,hs4⟩:=hs3.arena (PgRow (.slice ap gs.length cp) xs gs);clear c1;have c1:=hs4.facts;simp only [CellsAt,Nat.reduceAdd,and_true] at c1
 have CP:=hQ (copypages_any a2 _ h xs gs HOK.out.now.pgs (Row.rowIn ha2) (by have:=HOK.out.now.n2;have:=HOK.out.now.gl;omega) _ _ (hs4.pull1 (A1:=Pr.own a2)));have HA2:=hQ ha2;have HST1:=hQ ((Stays.refl w).drew.trans st1);clear hs2 hs3 hs4 st1 CI HA ha2;go_wp2;refine onN_mk ?_;refine wpQ_nil ⟨?_,?_⟩
 · exact cQ
 refine wpRest_act rfl ?_;go_wp2_with fail
 refine CP.out.mono ?_;rintro e w2 ⟨v2,rfl,hs5,st2⟩;obtain⟨aq,cq,rfl⟩:=Row.shape hs5;have hs6:=(OwnL.of2 hs5).back (PgRow (.slice ap gs.length cp) xs gs) HA2.out
 have hs7:=hs6.to (M:= [IntsRow (.slice ac s.counts.length cc) s.counts,PgRow (.slice aq gs.length cq) xs gs,Pr.pts r (refHC s.refs (.slice a0 s.counts.length c0) lv (.slice ap gs.length cp) (.slice aa ws.length ca) fl),IntsRow (.slice a0 s.counts.length c0) s.counts,BoolsRow lv s.last,PgRow (.slice ap gs.length cp) xs gs,Pr.own h,Row 162 2 (.slice aa ws.length ca) ws.length (ws.flatMap wasCells),big WasRow ws,F])
 have hs8:=was_close ⟨.slice ac s.counts.length cc,.slice aq gs.length cq,xs,s.counts,gs⟩ hs7;have INC:=hQ (rinc_x r s gs ⟨.slice aa ws.length ca,fl,false⟩ ⟨.slice a0 s.counts.length c0,lv,.slice ap gs.length cp,xs,h⟩ HOK.out.now n HCB.out _ _ (refAt_close r s gs _ _ hs8.pull5));have HST2:=hQ (HST1.out.trans st2);clear hs5 hs6 hs7 hs8 st2 CP HA2 HST1 c1;go_wp2;refine onN_mk ?_
 refine wpQ_all _ rfl rfl ?_;simp only [pick,pQ];iterate 2 (go_big_quiet_step (fail))
 refine wpQuiet_nil ⟨?_,?_⟩
 · exact cQ
 refine wpRest_nil ?_;rw [HER.out.1,HER.out.2] at INC;go_wp2_with fail
 refine INC.out.mono ?_;rintro e w3 ⟨rfl,st3,ok3,hs9⟩;have hs10:=refAt_open r T gs ⟨.slice aa ws.length ca,fl,false⟩ ⟨.slice a0 s.counts.length c0,lv,.slice ap gs.length cp,xs,h⟩ (OwnL.of1 hs9);have HST3:=hQ (HST2.out.trans st3);have HOK3:=hQ ok3;have HS10:=hQ hs10;clear hs9 hs10 st3 ok3 INC HST2;by_cases he:er=0
 · subst he
   have HK4:HOk T gs l ⟨.slice a0 s.counts.length c0,lv,.slice ap gs.length cp,.slice aa ws.length ca,xs,h,ws⟩:=by
    have h4:=HOK3.out;rw [HT.out] at h4 ⊢;exact⟨h4,HOK.out.was,HOK.out.l⟩
   have hok5:ROk { T with counts:=s.counts } gs ⟨.slice ac s.counts.length cc,lv,.slice aq gs.length cq,xs,h⟩:=by
    rw [HT.out];exact⟨HOK.out.now.pgs,HOK.out.now.ll,HOK.out.now.gl,HOK.out.now.n2,HOK.out.now.c0,HOK.out.now.fit⟩
   have DD:=hQ (rdid_any r T gs fl l _ _ ⟨.slice a0 s.counts.length c0,lv,.slice ap gs.length cp,.slice aa ws.length ca,xs,h,ws⟩ HK4 ⟨.slice ac s.counts.length cc,.slice aq gs.length cq,xs,s.counts,gs⟩ hok5 HLL.out HS10.out.pull8);clear HS10 HK4 hok5;go_wp2_with fail
   refine DD.out.mono ?_;rintro e w4 ⟨rfl,st4,hs11⟩;have HS11:=hQ (OwnL.of1 hs11);clear hs11 DD;go_wp2;go_ret;refine⟨rfl,HST3.out.trans st4,HCB2.out,?_⟩;unfold histE;rw [if_pos rfl];exact HS11.out.end2
 · have hb:(er == 0)=false:=beq_eq_false_iff_ne.2 he
   have HEN:=hQ he;clear he;go_wp2;go_ret;refine⟨rfl,HST3.out,HCB2.out,?_⟩;unfold histE;rw [if_neg HEN.out];have h4:=HOK3.out;refine refH_iff.2 ⟨⟨.slice a0 s.counts.length c0,lv,.slice ap gs.length cp,.slice aa ws.length ca,xs,h,ws⟩,?_,HS10.out.end8 (A8:=F)⟩;rw [HT.out] at h4 ⊢;exact⟨h4,HOK.out.was,HOK.out.l⟩
end
end Go.Proofs.YtpfafhklppondaaGreat.Ay
