/- The document's Load; the conditions stand as hypotheses. -/
import Derived.Test.YtbobcmimkonnoaaGreatVaultPlaysM18
import Derived.Test.YtbobcmimkonnoaaGreatVaultPlaysM19
import Derived.Test.YtbobcmimkonnoaaGreatVaultPlaysM17
import Derived.Test.YtbobcmimkonnoaaGreatVaultPlaysM01
set_option maxRecDepth 100000
set_option maxHeartbeats 16000000
namespace Go.Proofs.YtbobcmimkonnoaaGreat.V6
open ChangeShapes WideShapes ChangeAt RowKit Sl Cop D2 K3 N3 P3 Q3 G2 M2 U3 Y3 Z3 F4 L5 W5 X3 X5 Y5 M5 G4 Z5 C6 E6 F6 G6 K6
def pgsOf(n:Nat)(on:Int→Option PageV):List PageV:=(List.range n).map fun i:Nat=>(on ((i:Int)+1)).getD zeroP
def laidOf(n:Nat)(on:Int→Option PageV):List Bool:=(List.range n).map fun i:Nat=>(on ((i:Int)+1)).isSome
theorem pgsOf_none(n:Nat):pgsOf n (fun _=>none)=List.replicate n zeroP:=by
 unfold pgsOf
 refine List.ext_getElem (by simp) fun i h1 h2=> ?_
 simp
abbrev LaidRow(v:Value)(l:List Bool):Pr:=Row 4 1 v l.length (l.map Value.bool)
theorem filled {α:Type}{us cs:List α}(hl:us.length=cs.length)(h:∀i,i<cs.length→us[i]? =cs[i]?):us=cs:=
 List.ext_getElem? fun i=>by
  rcases Nat.lt_or_ge i cs.length with hi | hi
  · exact h i hi
  · rw [List.getElem?_eq_none (by omega),List.getElem?_eq_none hi]
theorem fill_step {α:Type}{us cs:List α}{k:Nat}(hl:us.length=cs.length)(hk:k<cs.length)(h:∀i,i<k→us[i]? =cs[i]?):∀i,i<k+1→(us.set k cs[k])[i]? =cs[i]? :=by
 intro i hi
 by_cases he:i=k
 · subst he
   rw [List.getElem?_set_self (by omega),List.getElem?_eq_getElem hk]
 · rw [List.getElem?_set_ne (by omega)]
   exact h i (by omega)
abbrev lawS(refs:Int)(us:List Int)(bs:List Bool):PoolS:= { refs:=refs,counts:=us,last:=bs,acts:= [],floor:=0 }
theorem ref_put {r:Nat}{s:PoolS}{gs:List PageV}{hush:RTail}{x:RX}{F:Pr}{w:World}{h':Hp}{vi vd:Value}{g:PageV}{j:Nat}(ok:ROk s gs x)(hg:PageIn h' (pageV g.kind g.level vi vd g.next) g)(hf:Fit g)
 (h:Sat ((RefAt r s (gs.set j g) hush { x with xs:=x.xs.set j (vi,vd) }).star ((Pr.own h').star F)) w):Sat ((RefA r s (gs.set j g) hush).star F) w:=by
 have h1:Sat ((Pr.own x.h).star ((Pr.own h').star ((Pr.pts r (refC s.refs x.cv x.lv x.pv hush)).star ((IntsRow x.cv s.counts).star ((BoolsRow x.lv s.last).star ((PgRow x.pv (x.xs.set j (vi,vd)) (gs.set j g)).star F)))))) w:=h.perm (by unfold RefAt;dsimp only;ac_rfl)
 obtain⟨hd,h2⟩:=h1.own_join
 obtain⟨_,_,e,y1,y2⟩:=hg
 simp only [pageV,Value.agg.injEq,Array.mk.injEq,List.cons.injEq,and_true,true_and] at e
 obtain⟨rfl,rfl⟩:=e
 refine refA_iff.2 ⟨{ x with xs:=x.xs.set j (vi,vd),h:=x.h.un h' },⟨⟨?_,fun i hx hl=> ?_⟩,ok.ll,?_,ok.n2,ok.c0,fun g2 hg2=> ?_⟩,h2.perm (by unfold RefAt;dsimp only;ac_rfl)⟩
 · simp only [List.length_set];exact ok.pgs.len
 · dsimp only
   simp only [List.length_set] at hx hl
   by_cases he:j=i
   · subst he
     simp only [List.getElem_set_self]
     exact⟨y1.sub (Hp.sub_un_right hd),y2.sub (Hp.sub_un_right hd)⟩
   · simp only [List.getElem_set_ne he]
     obtain⟨p1,p2⟩:=ok.pgs.at' i hx hl
     exact⟨p1.sub (Hp.sub_un_left _ _),p2.sub (Hp.sub_un_left _ _)⟩
 · rw [List.length_set];exact ok.gl
 · rcases List.mem_or_eq_of_mem_set hg2 with h3 | h3
   · exact ok.fit g2 h3
   · rw [h3];exact hf
end Go.Proofs.YtbobcmimkonnoaaGreat.V6
namespace Go.Proofs.YtbobcmimkonnoaaGreat.W6
open ChangeShapes WideShapes ChangeAt RowKit Sl Cop D2 K3 N3 P3 Q3 G2 M2 U3 Y3 L5 X3 X5 E6 F6 G6 K6 V6 J6 M6 U6
theorem ref_all {r:Nat}{s:PoolS}{gs:List PageV}{hush:RTail}{x:RX}{F:Pr}{w:World}(ok:ROk s gs x)(h:Sat ((RefAt r s gs hush x).star F) w){j:Nat}(hj:j<s.counts.length):
 ∃b c b2 c2 b3 c3,(x.cv= .slice (some ⟨b,0,none⟩) s.counts.length c∧x.lv= .slice (some ⟨b2,0,none⟩) s.counts.length c2∧x.pv= .slice (some ⟨b3,0,none⟩) s.counts.length c3)∧
  (w.cell? ⟨r,1,none⟩=some (.slice (some ⟨b,0,none⟩) s.counts.length c)∧w.cell? ⟨r,2,none⟩=some (.slice (some ⟨b2,0,none⟩) s.counts.length c2)∧w.cell? ⟨r,3,none⟩=some (.slice (some ⟨b3,0,none⟩) s.counts.length c3))∧
  (w.cell? ⟨b,j,none⟩=some (.int .i64 (s.counts.getD j 0))∧w.frozen? ⟨b,j,none⟩=false)∧(w.cell? ⟨b2,j,none⟩=some (.bool (s.last.getD j false))∧w.frozen? ⟨b2,j,none⟩=false)∧
  (∀i,i<5→w.frozen? ⟨b3,j*5+i,none⟩=false∧∃v,w.cell? ⟨b3,j*5+i,none⟩=some v)∧
  (r≠b∧r≠b2∧r≠b3∧b≠b2∧b≠b3∧b2≠b3)∧(r<w.heap.size∧b<w.heap.size∧b2<w.heap.size∧b3<w.heap.size):=by
 obtain⟨b,c,e1,k1,f1,_⟩:=ref_wr_count h hj
 obtain⟨b2,c2,e2,k2,f2,_⟩:=ref_wr_last h (j:=j) (by rw [ok.ll];exact hj)
 obtain⟨b3,c3,e3,hcl,_⟩:=ref_wr_page ok.pgs.len h (j:=j) (by rw [ok.gl];exact hj)
 rw [ok.ll] at e2
 rw [ok.gl] at e3
 have h1:Sat ((Pr.pts r (refC s.refs x.cv x.lv x.pv hush)).star ((IntsRow x.cv s.counts).star ((BoolsRow x.lv s.last).star ((PgRow x.pv x.xs gs).star ((Pr.own x.h).star F))))) w:=h.perm (by unfold RefAt;ac_rfl)
 have g1:Sat ((Row 3 1 x.cv s.counts.length (s.counts.map (Value.int .i64))).star ((Pr.pts r (refC s.refs x.cv x.lv x.pv hush)).star ((Row 4 1 x.lv s.last.length (s.last.map Value.bool)).star ((Row 31 5 x.pv gs.length ((x.xs.zip gs).flatMap pgCells)).star ((Pr.own x.h).star F))))) w:=h1.perm (by unfold IntsRow BoolsRow PgRow;ac_rfl)
 have q1:w.cell? ⟨r,1,none⟩=some x.cv:=by rw [cell_of_heap h1.pts_heap];rfl
 have q2:w.cell? ⟨r,2,none⟩=some x.lv:=by rw [cell_of_heap h1.pts_heap];rfl
 have q3:w.cell? ⟨r,3,none⟩=some x.pv:=by rw [cell_of_heap h1.pts_heap];rfl
 have ll:=ok.ll
 have gl:=ok.gl
 obtain⟨v0,kk⟩:=(hcl 0 (by omega)).2
 have z3:=World.block_lt_of_cell? _ _ kk
 have z1:=World.block_lt_of_cell? _ _ k1
 have z2:=World.block_lt_of_cell? _ _ k2
 rw [ll,gl] at g1
 rw [e1] at q1 g1
 rw [e2] at q2 g1
 rw [e3] at q3 g1
 refine⟨b,c,b2,c2,b3,c3,⟨e1,e2,e3⟩,⟨q1,q2,q3⟩,⟨k1,f1⟩,⟨k2,f2⟩,hcl,⟨pts_row_ne g1,?_,?_,?_,?_,?_⟩,h1.lt,z1,z2,z3⟩
 · exact pts_row_ne (k:=1) (T:=4) (g1.perm (B:=(Row 4 1 (.slice (some ⟨b2,0,none⟩) s.counts.length c2) s.counts.length (s.last.map Value.bool)).star ((Pr.pts r (refC s.refs (.slice (some ⟨b,0,none⟩) s.counts.length c) (.slice (some ⟨b2,0,none⟩) s.counts.length c2) (.slice (some ⟨b3,0,none⟩) s.counts.length c3) hush)).star ((Row 3 1 (.slice (some ⟨b,0,none⟩) s.counts.length c) s.counts.length (s.counts.map (Value.int .i64))).star ((Row 31 5 (.slice (some ⟨b3,0,none⟩) s.counts.length c3) s.counts.length ((x.xs.zip gs).flatMap pgCells)).star ((Pr.own x.h).star F))))) (by ac_rfl))
 · exact pts_row_ne (k:=5) (T:=31) (g1.perm (B:=(Row 31 5 (.slice (some ⟨b3,0,none⟩) s.counts.length c3) s.counts.length ((x.xs.zip gs).flatMap pgCells)).star ((Pr.pts r (refC s.refs (.slice (some ⟨b,0,none⟩) s.counts.length c) (.slice (some ⟨b2,0,none⟩) s.counts.length c2) (.slice (some ⟨b3,0,none⟩) s.counts.length c3) hush)).star ((Row 3 1 (.slice (some ⟨b,0,none⟩) s.counts.length c) s.counts.length (s.counts.map (Value.int .i64))).star ((Row 4 1 (.slice (some ⟨b2,0,none⟩) s.counts.length c2) s.counts.length (s.last.map Value.bool)).star ((Pr.own x.h).star F))))) (by ac_rfl))
 · exact row_row_ne (T:=3) (T2:=4) (k:=1) (k2:=1) (g1.perm (B:=(Row 3 1 (.slice (some ⟨b,0,none⟩) s.counts.length c) s.counts.length (s.counts.map (Value.int .i64))).star ((Row 4 1 (.slice (some ⟨b2,0,none⟩) s.counts.length c2) s.counts.length (s.last.map Value.bool)).star ((Pr.pts r (refC s.refs (.slice (some ⟨b,0,none⟩) s.counts.length c) (.slice (some ⟨b2,0,none⟩) s.counts.length c2) (.slice (some ⟨b3,0,none⟩) s.counts.length c3) hush)).star ((Row 31 5 (.slice (some ⟨b3,0,none⟩) s.counts.length c3) s.counts.length ((x.xs.zip gs).flatMap pgCells)).star ((Pr.own x.h).star F))))) (by ac_rfl))
 · exact row_row_ne (T:=3) (T2:=31) (k:=1) (k2:=5) (g1.perm (B:=(Row 3 1 (.slice (some ⟨b,0,none⟩) s.counts.length c) s.counts.length (s.counts.map (Value.int .i64))).star ((Row 31 5 (.slice (some ⟨b3,0,none⟩) s.counts.length c3) s.counts.length ((x.xs.zip gs).flatMap pgCells)).star ((Pr.pts r (refC s.refs (.slice (some ⟨b,0,none⟩) s.counts.length c) (.slice (some ⟨b2,0,none⟩) s.counts.length c2) (.slice (some ⟨b3,0,none⟩) s.counts.length c3) hush)).star ((Row 4 1 (.slice (some ⟨b2,0,none⟩) s.counts.length c2) s.counts.length (s.last.map Value.bool)).star ((Pr.own x.h).star F))))) (by ac_rfl))
 · exact row_row_ne (T:=4) (T2:=31) (k:=1) (k2:=5) (g1.perm (B:=(Row 4 1 (.slice (some ⟨b2,0,none⟩) s.counts.length c2) s.counts.length (s.last.map Value.bool)).star ((Row 31 5 (.slice (some ⟨b3,0,none⟩) s.counts.length c3) s.counts.length ((x.xs.zip gs).flatMap pgCells)).star ((Pr.pts r (refC s.refs (.slice (some ⟨b,0,none⟩) s.counts.length c) (.slice (some ⟨b2,0,none⟩) s.counts.length c2) (.slice (some ⟨b3,0,none⟩) s.counts.length c3) hush)).star ((Row 3 1 (.slice (some ⟨b,0,none⟩) s.counts.length c) s.counts.length (s.counts.map (Value.int .i64))).star ((Pr.own x.h).star F))))) (by ac_rfl))
def tallyTo(s:PoolS)(k:Int)(m:Nat):Nat:=((List.range m).filter fun i:Nat=>s.state ((i:Int)+1) == k).length
theorem tallyTo_le(s:PoolS)(k:Int)(m:Nat):tallyTo s k m≤m:=by
 unfold tallyTo
 exact Nat.le_trans (List.length_filter_le _ _) (by rw [List.length_range];exact Nat.le_refl _)
theorem tallyTo_yes {s:PoolS}{k:Int}{m:Nat}(h:s.state ((m:Int)+1)=k):tallyTo s k (m+1)=tallyTo s k m+1:=by
 unfold tallyTo
 rw [List.range_succ,List.filter_append,List.length_append]
 simp [h]
theorem tallyTo_no {s:PoolS}{k:Int}{m:Nat}(h:s.state ((m:Int)+1)≠k):tallyTo s k (m+1)=tallyTo s k m:=by
 unfold tallyTo
 rw [List.range_succ,List.filter_append,List.length_append]
 simp [h]
theorem rtally_any(r:Nat)(s:PoolS)(gs:List PageV)(hush:RTail)(k:Int)(F:Pr)(w:World)(hF:Sat ((RefA r s gs hush).star F) w):
 Calls Tryz.prog 50 #[.pointer (some ⟨r,0,none⟩),.int .i64 k] w fun e w'=>e= .returned (.int .i64 (tallyTo s k s.counts.length:Nat))∧w=w':=by
 obtain⟨x,ok,h⟩:=refA_iff.1 hF
 have ST:=fun n:Int=>hQ (rstate_any r s gs hush n F w hF)
 have q1:∃a c,w.cell? ⟨r,1,none⟩=some (.slice a s.counts.length c):=by
  obtain⟨ac,cc,al,cl,ap,cp,⟨q1,_⟩,_⟩:=ref_rd ok h
  exact⟨_,_,q1⟩
 obtain⟨a1,d1,q1⟩:=q1
 have hn2:=ok.n2
 have hn3:(s.counts.length:Int)≤65536:=by omega
 clear h ok hF
 go_enter Tryz.func50,Tryz.ntmps50
 go_wp2
 go_loopw [5,6] (fun t i wr=> ∃m:Nat,m≤s.counts.length∧t= .int .i64 (tallyTo s k m:Nat)∧i= .int .i64 ((m:Int)+1)∧wr=w) (fun _ i _=>s.counts.length+1-(intOf i).toNat)
 case atStart=>exact⟨0,Nat.zero_le _,rfl,rfl,rfl⟩
 case round=>
  obtain⟨m,hm,rfl,rfl,rfl⟩:=hrel
  have htm:=tallyTo_le s k m
  have HYES:=hQ (fun h=>tallyTo_yes (s:=s) (k:=k) (m:=m) h)
  have HNO:=hQ (fun h=>tallyTo_no (s:=s) (k:=k) (m:=m) h)
  rcases Nat.lt_or_ge m s.counts.length with hlt | hge
  · have ST1:=ST ((m:Int)+1)
    clear ST
    by_cases hk:s.state ((m:Int)+1)=k
    · have hb:(s.state ((m:Int)+1) == k)=true:=beq_iff_eq.2 hk
      have HK:=hQ hk
      clear hk
      generalize s.state ((m:Int)+1)=sm at*
      generalize htt:tallyTo s k m=tm at*
      have HTT:=hQ htt
      clear htt
      go_wp2_with fail
      refine ST1.out.mono ?_
      rintro e w1 ⟨rfl,rfl⟩
      go_wp2
      go_roundw
      case rel=>exact⟨m+1,by omega,congrArg (Value.int .i64) (by rw [HYES.out HK.out];omega),congrArg (Value.int .i64) (by omega),trivial⟩
      case measure=>simp [intOf];omega
    · have hb:(s.state ((m:Int)+1) == k)=false:=beq_eq_false_iff_ne.2 hk
      have HK:=hQ hk
      clear hk
      generalize s.state ((m:Int)+1)=sm at*
      generalize htt:tallyTo s k m=tm at*
      have HTT:=hQ htt
      clear htt
      go_wp2_with fail
      refine ST1.out.mono ?_
      rintro e w1 ⟨rfl,rfl⟩
      go_wp2
      go_roundw
      case rel=>exact⟨m+1,by omega,congrArg (Value.int .i64) (by rw [HNO.out HK.out]),congrArg (Value.int .i64) (by omega),trivial⟩
      case measure=>simp [intOf];omega
  · have hme:m=s.counts.length:=by omega
    subst hme
    clear ST HYES HNO
    go_wp2
    go_ret
    exact⟨rfl,rfl⟩
theorem rlowest_any(r:Nat)(s:PoolS)(gs:List PageV)(hush:RTail)(F:Pr)(w:World)(hF:Sat ((RefA r s gs hush).star F) w):
 Calls Tryz.prog 104 #[.pointer (some ⟨r,0,none⟩)] w fun e w'=>w=w'∧∃m:Int,e= .returned (.int .i64 m)∧
  ((m=0∧∀n,s.state n≠1)∨(s.state m=1∧∀n,s.state n=1→m≤n)):=by
 obtain⟨x,ok,h⟩:=refA_iff.1 hF
 have q1:∃a c,w.cell? ⟨r,1,none⟩=some (.slice a s.counts.length c):=by
  obtain⟨ac,cc,al,cl,ap,cp,⟨q1,_⟩,_⟩:=ref_rd ok h
  exact⟨_,_,q1⟩
 obtain⟨a1,d1,q1⟩:=q1
 have hn2:=ok.n2
 have hn3:(s.counts.length:Int)≤65536:=by omega
 have HX:=hQ (And.intro ok h)
 clear h ok hF
 go_enter Tryz.func104,Tryz.ntmps104
 go_wp2
 go_loopw [3] (fun i wr=> ∃m:Nat,m≤s.counts.length∧i= .int .i64 ((m:Int)+1)∧wr=w∧Hid (∀n,s.state n=1→(m:Int)+1≤n)) (fun i _=>s.counts.length+1-(intOf i).toNat)
 case atStart=>exact⟨0,Nat.zero_le _,rfl,rfl,hQ (fun n hn=>by have:=there_of_state (by omega:s.state n≠0);have:=this.1;omega)⟩
 case round=>
  obtain⟨m,hm,rfl,rfl,hlow⟩:=hrel
  rcases Nat.lt_or_ge m s.counts.length with hlt | hge
  · obtain⟨ok,h⟩:=HX.out
    obtain⟨b,c,b2,c2,b3,c3,_,⟨w1,w2,_⟩,⟨k1,_⟩,⟨k2,_⟩,_⟩:=ref_all ok h hlt
    rw [q1] at w1
    cases w1
    have hst:s.state ((m:Int)+1)=stateOf (s.counts.getD m 0) (s.last.getD m false):=by
     have ht:s.there ((m:Int)+1):=⟨by omega,by omega⟩
     rw [state_there ht,count_idx hlt,lasts_idx]
    have hc0:0≤s.counts.getD m 0:=by
     have:=ok.c0 s.counts[m] (List.getElem_mem hlt)
     simpa [hlt] using this
    have HST:=hQ hst
    clear ok h hst
    generalize s.counts.getD m 0=cv at*
    generalize s.last.getD m false=lv at*
    by_cases hcz:cv=0
    · have hb:(cv == 0)=true:=beq_iff_eq.2 hcz
      cases lv with
      | false=>
        have hs1:s.state ((m:Int)+1)=1:=by rw [HST.out,hcz];rfl
        have HS1:=hQ hs1
        clear hcz hs1 HST
        go_wp2
        go_ret
        exact⟨rfl,(m:Int)+1,rfl,.inr ⟨HS1.out,hlow.out⟩⟩
      | true=>
        have hs1:s.state ((m:Int)+1)≠1:=by rw [HST.out,hcz];decide
        have HS1:=hQ hs1
        clear hcz hs1 HST
        go_wp2
        go_roundw
        case rel=>
         refine⟨m+1,by omega,congrArg (Value.int .i64) (by omega),trivial,hQ (fun n hn=> ?_)⟩
         have h1:=hlow.out n hn
         have h2:n≠(m:Int)+1:=fun e=>HS1.out (e ▸ hn)
         omega
        case measure=>simp [intOf];omega
    · have hb:(cv == 0)=false:=beq_eq_false_iff_ne.2 hcz
      have hs1:s.state ((m:Int)+1)≠1:=by
       rw [HST.out]
       unfold stateOf
       rw [if_pos (by omega)]
       split<;>omega
      have HS1:=hQ hs1
      clear hcz hs1 HST
      go_wp2
      go_roundw
      case rel=>
       refine⟨m+1,by omega,congrArg (Value.int .i64) (by omega),trivial,hQ (fun n hn=> ?_)⟩
       have h1:=hlow.out n hn
       have h2:n≠(m:Int)+1:=fun e=>HS1.out (e ▸ hn)
       omega
      case measure=>simp [intOf];omega
  · have hme:m=s.counts.length:=by omega
    subst hme
    clear HX
    go_wp2
    go_ret
    refine⟨rfl,0,rfl,.inl ⟨rfl,fun n hn=> ?_⟩⟩
    have h1:=hlow.out n hn
    have h2:=(there_of_state (by omega:s.state n≠0)).2
    omega
def lastK(s:PoolS):Nat→List Bool
 | 0=>s.last
 | k+1=>(lastK s k).set k (decide (0<s.counts.getD k 0))
def gsK(s:PoolS)(gs:List PageV):Nat→List PageV
 | 0=>gs
 | k+1=>if s.counts.getD k 0=0 then(gsK s gs k).set k zeroP else gsK s gs k
theorem lastK_len(s:PoolS)(k:Nat):(lastK s k).length=s.last.length:=by
 induction k with
 | zero=>rfl
 | succ k ih=>show ((lastK s k).set k _).length=_;rw [List.length_set,ih]
theorem gsK_len(s:PoolS)(gs:List PageV)(k:Nat):(gsK s gs k).length=gs.length:=by
 induction k with
 | zero=>rfl
 | succ k ih=>unfold gsK;split;rw [List.length_set,ih];exact ih
theorem lastK_at(s:PoolS)(k j:Nat)(hj:j<s.last.length):(lastK s k)[j]? =if j<k then some (decide (0<s.counts.getD j 0)) else s.last[j]? :=by
 induction k with
 | zero=>rfl
 | succ k ih=>
   show ((lastK s k).set k _)[j]? =_
   by_cases h:j=k
   · subst h
     rw [List.getElem?_set_self (by rw [lastK_len];exact hj),if_pos (by omega)]
   · rw [List.getElem?_set_ne (fun e=>h e.symm),ih]
     by_cases h2:j<k
     · rw [if_pos h2,if_pos (by omega)]
     · rw [if_neg h2,if_neg (by omega)]
theorem lastK_end {s:PoolS}(hl:s.last.length=s.counts.length):lastK s s.counts.length=lastsOf s.counts:=by
 apply List.ext_getElem?
 intro j
 rcases Nat.lt_or_ge j s.counts.length with h | h
 · rw [lastK_at s _ j (by omega),if_pos h]
   unfold lastsOf
   rw [List.getElem?_map,List.getElem?_eq_getElem h]
   simp [h]
 · rw [List.getElem?_eq_none (by rw [lastK_len];omega),List.getElem?_eq_none (by unfold lastsOf;rw [List.length_map];omega)]
theorem gsK_at(s:PoolS)(gs:List PageV)(k j:Nat)(hj:j<gs.length):(gsK s gs k)[j]? =if j<k∧s.counts.getD j 0=0 then some zeroP else gs[j]? :=by
 induction k with
 | zero=>rfl
 | succ k ih=>
   unfold gsK
   by_cases h:j=k
   · subst h
     by_cases hc:s.counts.getD j 0=0
     · rw [if_pos hc,List.getElem?_set_self (by rw [gsK_len];exact hj),if_pos ⟨by omega,hc⟩]
     · rw [if_neg hc,ih,if_neg (fun e=>hc e.2),if_neg (fun e=>hc e.2)]
   · have e:(if s.counts.getD k 0=0 then(gsK s gs k).set k zeroP else gsK s gs k)[j]? =(gsK s gs k)[j]? :=by
      split
      · exact List.getElem?_set_ne (fun e=>h e.symm)
      · rfl
     rw [e,ih]
     by_cases h2:j<k
     · by_cases h3:s.counts.getD j 0=0
       · rw [if_pos ⟨h2,h3⟩,if_pos ⟨by omega,h3⟩]
       · rw [if_neg (fun e=>h3 e.2),if_neg (fun e=>h3 e.2)]
     · rw [if_neg (fun e=>h2 e.1),if_neg (fun e=>by omega)]
end Go.Proofs.YtbobcmimkonnoaaGreat.W6
namespace Go.Proofs.YtbobcmimkonnoaaGreat.X6
open ChangeShapes WideShapes ChangeAt RowKit Sl Cop D2 K3 N3 P3 Q3 G2 M2 U3 Y3 L5 X3 X5 E6 F6 G6 K6 V6 J6 M6 U6 W6
theorem fit_zero0:Fit zeroP:=⟨by simp,by simp,fun x hx=>by cases hx⟩
theorem rmark_any(r:Nat)(s:PoolS)(gs:List PageV)(hush:RTail)(aa:Option Addr)(na ca:Nat)(hav:hush.av= .slice aa na ca)(hb: -1099511627776≤hush.fl∧hush.fl+na≤1099511627776)(F:Pr)(w:World)(hF:Sat ((RefA r s gs hush).star F) w):
 Calls Tryz.prog 55 #[.pointer (some ⟨r,0,none⟩)] w fun e w'=>e= .returned (.int .i64 (hush.fl+na))∧∃k,w'=w.drewN k:=by
 obtain⟨x,ok,h⟩:=refA_iff.1 hF
 have h1:Sat ((Pr.pts r (refC s.refs x.cv x.lv x.pv hush)).star ((IntsRow x.cv s.counts).star ((BoolsRow x.lv s.last).star ((PgRow x.pv x.xs gs).star ((Pr.own x.h).star F))))) w:=h.perm (by unfold RefAt;ac_rfl)
 have q4:w.cell? ⟨r,4,none⟩=some (.slice aa na ca):=by rw [cell_of_heap h1.pts_heap, ← hav];rfl
 have q5:w.cell? ⟨r,5,none⟩=some (.int .i64 hush.fl):=by rw [cell_of_heap h1.pts_heap];rfl
 clear hF h h1 ok hav
 generalize hush.fl=fl at*
 go_enter Tryz.func55,Tryz.ntmps55
 go_wp2_with fail
 go_quiet (fail)
 go_wp2
 go_ret
 exact⟨rfl,_,rfl⟩
theorem rsettle_any(r:Nat)(s:PoolS)(gs:List PageV)(hush:RTail)(aa:Option Addr)(na ca:Nat)(hav:hush.av= .slice aa na ca)(hb: -1099511627776≤hush.fl∧hush.fl+na≤1099511627776)(F:Pr)(w:World)(hF:Sat ((RefA r s gs hush).star F) w):
 Calls Tryz.prog 58 #[.pointer (some ⟨r,0,none⟩)] w fun e w'=>e= .returned (.tuple #[])∧Stays w w'∧
  Sat ((RefA r { s with last:=lastsOf s.counts } (gsK s gs s.counts.length) ⟨.slice none 0 0,hush.fl+na,hush.q⟩).star F) w':=by
 have hll:s.last.length=s.counts.length:=by
  obtain⟨x,ok,h⟩:=refA_iff.1 hF
  exact ok.ll
 have hn3:(s.counts.length:Int)≤65536:=by
  obtain⟨x,ok,h⟩:=refA_iff.1 hF
  have:=ok.n2
  omega
 have HF:=hQ hF
 have HLL:=hQ hll
 clear hF hll
 go_enter Tryz.func58,Tryz.ntmps58
 go_wp2
 go_loopw [2] (fun i wr=> ∃k:Nat,k≤s.counts.length∧i= .int .i64 k∧Stays w wr∧Sat ((RefA r { s with last:=lastK s k } (gsK s gs k) hush).star F) wr) (fun i _=>s.counts.length-(intOf i).toNat)
 case atStart=>exact⟨0,Nat.zero_le _,rfl,Stays.refl w,HF.out⟩
 case round=>
  obtain⟨k,hk,rfl,hst,hs⟩:=hrel
  clear HF
  have q1:∃a c,wr.cell? ⟨r,1,none⟩=some (.slice a s.counts.length c):=by
   obtain⟨x,ok,h⟩:=refA_iff.1 hs
   obtain⟨ac,cc,al,cl,ap,cp,⟨q1,_⟩,_⟩:=ref_rd ok h
   exact⟨_,_,q1⟩
  obtain⟨a1,d1,q1⟩:=q1
  rcases Nat.lt_or_ge k s.counts.length with hlt | hge
  · obtain⟨x,ok,h⟩:=refA_iff.1 hs
    obtain⟨b,c,b2,c2,b3,c3,⟨e1,e2,e3⟩,⟨w1,w2,w3⟩,⟨k1,_⟩,⟨k2,f2⟩,hcl,⟨n1,n2,n3,n4,n5,n6⟩,zr,zb,zb2,zb3⟩:=ref_all ok h (j:=k) hlt
    dsimp only at e1 e2 e3 w1 w2 w3 k1 k2
    rw [q1] at w1
    cases w1
    obtain⟨b2',c2',e2',_,_,wl⟩:=ref_wr_last h (j:=k) (by show k<(lastK s k).length;rw [lastK_len,HLL.out];exact hlt)
    rw [e2] at e2'
    cases (Value.slice.inj e2').1
    clear e2'
    have h5:=(wl (decide (0<s.counts.getD k 0))).drew
    have hc0:0≤s.counts.getD k 0:=by
     have:=ok.c0 s.counts[k] (List.getElem_mem hlt)
     simpa [hlt] using this
    have e6:(lastK s k).set k (decide (0<s.counts.getD k 0))=lastK s (k+1):=rfl
    have e7:gsK s gs (k+1)=if s.counts.getD k 0=0 then(gsK s gs k).set k zeroP else gsK s gs k:=rfl
    dsimp only at h5
    rw [e6] at h5
    have ok5:ROk { s with last:=lastK s (k+1) } (gsK s gs k) x:=⟨ok.pgs,by show (lastK s (k+1)).length=_;rw [lastK_len];exact HLL.out,ok.gl,ok.n2,ok.c0,ok.fit⟩
    have HE7:=hQ e7
    have H5:=hQ h5
    have HOK:=hQ ok5
    have HSTK:=hQ (hst.setCell ⟨b2,k,none⟩ (.bool (decide (0<s.counts.getD k 0)))).drew
    have HE:=hQ (And.intro e1 (And.intro e2 e3))
    clear hs h ok wl e6 e7 ok5 hcl hst e1 e2 e3 h5
    generalize hcv:s.counts.getD k 0=cv at*
    have HCV:=hQ hcv
    clear hcv
    by_cases hcz:cv=0
    · have hbz:(cv == 0)=true:=beq_iff_eq.2 hcz
      have hd:decide (0<cv)=false:=decide_eq_false (by omega)
      have HCZ:=hQ hcz
      clear hcz
      go_wp2_with fail
      refine wp_region_staged (sz:=49) (by kernel_rfl) [0,1,2,3,4,5,6,7,8,9,10,11,12,13] [(14,[],[])] rfl (by kernel_rfl) (by kernel_rfl) (by kernel_rfl) ?_
      refine wpQ_all _ rfl rfl ?_
      simp only [pick,pQ]
      iterate 14 (go_big_quiet_step (fail))
      refine wpQuiet_nil ?_
      refine wpRest_act rfl ?_
      go_wp2
      refine onN_mk ?_
      refine wpQ_nil ⟨?_,?_⟩
      · exact chk_nil
      refine wpRest_nil ?_
      have T5:=H5.out
      have U5:=HSTK.out
      rw [hd] at T5 U5
      clear H5 HSTK w2 w3 k1 k2 f2 n1 n2 n3 n4 n5 n6 zr zb zb2 zb3 q1
      generalize (wr.setCell ⟨b2,k,none⟩ (.bool false)).drew=w5 at*
      obtain⟨b4,c4,b5,c5,b6,c6,⟨e4,e5,e6⟩,⟨q1,q2,q3⟩,⟨k1,_⟩,_,hcl,⟨n1,n2,n3,n4,n5,n6⟩,zr,zb,zb2,zb3⟩:=ref_all HOK.out T5 (j:=k) hlt
      dsimp only at e4 e5 e6 q1 q2 q3 k1
      obtain⟨b9,d9,epv,_,wr8⟩:=ref_wr_page HOK.out.pgs.len T5 (j:=k) (by rw [gsK_len];have:=HOK.out.gl;rw [gsK_len] at this;rw [this];exact hlt)
      rw [e6] at epv
      cases (Value.slice.inj epv).1
      obtain⟨g0,u0,k0⟩:=hcl 0 (by omega)
      obtain⟨g1,u1,k1'⟩:=hcl 1 (by omega)
      obtain⟨g2,u2,k2⟩:=hcl 2 (by omega)
      obtain⟨g3,u3,k3⟩:=hcl 3 (by omega)
      obtain⟨g4,u4,k4⟩:=hcl 4 (by omega)
      rw [Nat.add_zero] at g0 k0
      rw [HCV.out,HCZ.out] at k1
      have W8:=hQ (wr8 zeroP (.slice none 0 0) (.slice none 0 0))
      have HST7:=hQ U5
      clear hcl wr8 epv e4 e5 e6 T5 U5 HE
      go_wp2
      go_roundw
      case rel=>
       refine⟨k+1,by omega,congrArg (Value.int .i64) (by omega),((((HST7.out.setCell _ _).setCell _ _).setCell _ _).setCell _ _).setCell _ _,?_⟩
       have h9:=ref_put (g:=zeroP) (h':=Hp.nil) (F:=F) HOK.out ⟨_,_,rfl,items_mk (Nat.zero_le _),RowIn.nil _ _⟩ fit_zero0 (by rw [own_nil,Pr.emp_star];exact W8.out)
       rw [HE7.out,if_pos HCZ.out]
       exact h9
      case measure=>simp [intOf];omega
    · have hbz:(cv == 0)=false:=beq_eq_false_iff_ne.2 hcz
      have hd:decide (0<cv)=true:=decide_eq_true (by omega)
      have HCZ:=hQ hcz
      clear hcz
      go_wp2_with fail
      refine wp_region_staged (sz:=49) (by kernel_rfl) [0,1,2,3,4,5,6,7,8,9,10,11,12,13] [(14,[],[])] rfl (by kernel_rfl) (by kernel_rfl) (by kernel_rfl) ?_
      refine wpQ_all _ rfl rfl ?_
      simp only [pick,pQ]
      iterate 14 (go_big_quiet_step (fail))
      refine wpQuiet_nil ?_
      refine wpRest_act rfl ?_
      go_wp2
      refine onN_mk ?_
      refine wpQ_nil ⟨?_,?_⟩
      · exact chk_nil
      refine wpRest_nil ?_
      have T5:=H5.out
      have U5:=HSTK.out
      rw [hd] at T5 U5
      clear H5 HSTK w2 w3 k1 k2 f2 n1 n2 n3 n4 n5 n6 zr zb zb2 zb3 q1
      generalize (wr.setCell ⟨b2,k,none⟩ (.bool true)).drew=w5 at*
      obtain⟨b4,c4,b5,c5,b6,c6,⟨e4,e5,e6⟩,⟨q1,q2,q3⟩,⟨k1,_⟩,_,hcl,⟨n1,n2,n3,n4,n5,n6⟩,zr,zb,zb2,zb3⟩:=ref_all HOK.out T5 (j:=k) hlt
      dsimp only at q1 k1
      rw [HCV.out] at k1
      have H5:=hQ (refA_iff.2 ⟨x,HOK.out,T5⟩)
      have HST7:=hQ U5
      clear hcl e4 e5 e6 T5 U5 HE q2 q3
      go_wp2
      go_roundw
      case rel=>
       refine⟨k+1,by omega,congrArg (Value.int .i64) (by omega),HST7.out,?_⟩
       rw [HE7.out,if_neg HCZ.out]
       exact H5.out
      case measure=>simp [intOf];omega
  · have hke:k=s.counts.length:=by omega
    subst hke
    have MK:=hQ (rmark_any r _ _ hush aa na ca hav hb _ _ hs)
    have HS:=hQ hs
    clear hs
    go_wp2_with fail
    refine MK.out.mono ?_
    rintro e w1 ⟨rfl,kk,rfl⟩
    obtain⟨x,ok,h⟩:=refA_iff.1 (HS.out.drewN kk)
    have h1:Sat ((Pr.pts r (refC s.refs x.cv x.lv x.pv hush)).star ((IntsRow x.cv s.counts).star ((BoolsRow x.lv (lastK s s.counts.length)).star ((PgRow x.pv x.xs (gsK s gs s.counts.length)).star ((Pr.own x.h).star F))))) _:=h.perm (by unfold RefAt;dsimp only;ac_rfl)
    have q4:(wr.drewN kk).cell? ⟨r,4,none⟩=some (.slice aa na ca):=by rw [cell_of_heap h1.pts_heap, ← hav];rfl
    have q5:(wr.drewN kk).cell? ⟨r,5,none⟩=some (.int .i64 hush.fl):=by rw [cell_of_heap h1.pts_heap];rfl
    have f4:=frozen_of_heap h1.pts_heap 4
    have f5:=frozen_of_heap h1.pts_heap 5
    have zr:=h1.lt
    have H2:=hQ (show Sat ((Pr.pts r (refC s.refs x.cv x.lv x.pv ⟨.slice none 0 0,hush.fl+na,hush.q⟩)).star ((IntsRow x.cv s.counts).star ((BoolsRow x.lv (lastK s s.counts.length)).star ((PgRow x.pv x.xs (gsK s gs s.counts.length)).star ((Pr.own x.h).star F))))) _ from(h1.setCell (i:=5) (.int .i64 (hush.fl+na))).setCell (i:=4) (.slice none 0 0))
    have HOK:=hQ ok
    have HSTK:=hQ (((hst.drewN kk).setCell ⟨r,5,none⟩ (.int .i64 (hush.fl+na))).setCell ⟨r,4,none⟩ (.slice none 0 0))
    clear h h1 ok hst HS MK
    go_wp2
    first | refine bodyPost_ret (results_none rfl _ _ _) rfl ?_ | go_end0
    refine⟨rfl,HSTK.out,?_⟩
    rw [← lastK_end HLL.out]
    exact refA_iff.2 ⟨x,⟨HOK.out.pgs,HOK.out.ll,HOK.out.gl,HOK.out.n2,HOK.out.c0,HOK.out.fit⟩,H2.out.perm (by unfold RefAt;dsimp only;ac_rfl)⟩
end Go.Proofs.YtbobcmimkonnoaaGreat.X6
namespace Go.Proofs.YtbobcmimkonnoaaGreat.Y6
open ChangeShapes WideShapes ChangeAt RowKit Sl Cop D2 K3 N3 P3 Q3 G2 M2 U3 Y3 L5 X3 X5 C6 E6 F6 G6 K6 V6 J6 M6 U6 W6
end Go.Proofs.YtbobcmimkonnoaaGreat.Y6
namespace Go.Sl
open Go.RowKit
def starL:List Pr→Pr
 | []=>Pr.emp
 | a :: l=>a.star (starL l)
structure OwnL(L:List Pr)(w:World):Prop where
 sat:Sat (starL L) w
class Pull(A:Pr)(L:List Pr)(R:outParam (List Pr)):Prop where
 eq:starL L=A.star (starL R)
instance Pull.there(A B:Pr)(L R:List Pr) [h:Pull A L R]:Pull A (B :: L) (B :: R):=
 ⟨by show B.star (starL L)=A.star (B.star (starL R));rw [h.eq,Pr.left_comm]⟩
instance Pull.here(A:Pr)(L:List Pr):Pull A (A :: L) L:=⟨rfl⟩
class PullPts(b:Nat)(L:List Pr)(o:outParam Obj)(R:outParam (List Pr)):Prop where
 eq:starL L=(Pr.pts b o).star (starL R)
instance PullPts.there(b:Nat)(B:Pr)(L R:List Pr)(o:Obj) [h:PullPts b L o R]:PullPts b (B :: L) o (B :: R):=
 ⟨by show B.star (starL L)=(Pr.pts b o).star (B.star (starL R));rw [h.eq,Pr.left_comm]⟩
instance PullPts.here(b:Nat)(o:Obj)(L:List Pr):PullPts b (Pr.pts b o :: L) o L:=⟨rfl⟩
class PullRow(v:Value)(L:List Pr)(T k n:outParam Nat)(xs:outParam (List Value))(R:outParam (List Pr)):Prop where
 eq:starL L=(Row T k v n xs).star (starL R)
instance PullRow.there(v:Value)(B:Pr)(L R:List Pr)(T k n:Nat)(xs:List Value) [h:PullRow v L T k n xs R]:PullRow v (B :: L) T k n xs (B :: R):=
 ⟨by show B.star (starL L)=(Row T k v n xs).star (B.star (starL R));rw [h.eq,Pr.left_comm]⟩
instance PullRow.here(v:Value)(T k n:Nat)(xs:List Value)(L:List Pr):PullRow v (Row T k v n xs :: L) T k n xs L:=⟨rfl⟩
class SetPts(b i:Nat)(v:Value)(L:List Pr)(M:outParam (List Pr)):Prop where
 ex:∃cs t fz R,starL L=(Pr.pts b (.cells cs t fz)).star R∧starL M=(Pr.pts b (.cells (cs.setIfInBounds i v) t fz)).star R
instance SetPts.there(b i:Nat)(v:Value)(B:Pr)(L M:List Pr) [h:SetPts b i v L M]:SetPts b i v (B :: L) (B :: M):=
 ⟨by
   obtain⟨cs,t,fz,R,h1,h2⟩:=h.ex
   refine⟨cs,t,fz,B.star R,?_,?_⟩
   · show B.star (starL L)=_;rw [h1,Pr.left_comm]
   · show B.star (starL M)=_;rw [h2,Pr.left_comm]⟩
class SetL(i:Nat)(v:Value)(l:List Value)(m:outParam (List Value)):Prop where
 eq:l.set i v=m
instance SetL.there(i:Nat)(v a:Value)(l m:List Value) [h:SetL i v l m]:SetL (i+1) v (a :: l) (a :: m):=⟨by rw [List.set_cons_succ,h.eq]⟩
instance SetL.here(v a:Value)(l:List Value):SetL 0 v (a :: l) (v :: l):=⟨rfl⟩
instance SetPts.here(b i:Nat)(v:Value)(l m:List Value)(t:TypeId)(fz:Nat × Nat)(L:List Pr) [h:SetL i v l m]:SetPts b i v (Pr.pts b (.cells l.toArray t fz) :: L) (Pr.pts b (.cells m.toArray t fz) :: L):=
 ⟨⟨l.toArray,t,fz,starL L,rfl,by rw [List.setIfInBounds_toArray,h.eq];rfl⟩⟩
def CellsAt(w:World)(b:Nat):Nat→List Value→Prop
 | _,[]=>True
 | i,v :: l=>w.cell? ⟨b,i,none⟩=some v∧w.frozen? ⟨b,i,none⟩=false∧CellsAt w b (i+1) l
theorem cellsAt_of {w:World}{b:Nat}{cs:Array Value}{t:TypeId}(h:w.heap[b]? =some (.cells cs t (0,0))):∀(l:List Value) (i:Nat),(∀j v,l[j]? =some v→cs[i+j]? =some v)→CellsAt w b i l
 | [],_,_=>trivial
 | v :: l,i,hl=>⟨(cell_of_heap h i).trans (by have:=hl 0 v rfl;simpa using this),frozen_of_heap h i,cellsAt_of h l (i+1) fun j u hu=>by
     have:=hl (j+1) u (by simpa using hu)
     rw [show i+1+j=i+(j+1) by omega];exact this⟩
class NePts(b:Nat)(L:List Pr)(P:outParam Prop):Prop where
 ne:∀(o:Obj) (w:World),Sat ((Pr.pts b o).star (starL L)) w→P
instance NePts.nil(b:Nat):NePts b [] True:=⟨fun _ _ _=>trivial⟩
instance NePts.skip(b:Nat)(B:Pr)(L:List Pr)(P:Prop) [h:NePts b L P]:NePts b (B :: L) P:=
 ⟨fun o w hs=>h.ne o w (hs.perm (B:=B.star ((Pr.pts b o).star (starL L))) (by show (Pr.pts b o).star (B.star (starL L))=_;rw [Pr.left_comm])).right⟩
instance NePts.pts(b c:Nat)(o':Obj)(L:List Pr)(P:Prop) [h:NePts b L P]:NePts b (Pr.pts c o' :: L) (b≠c∧c≠b∧P):=
 ⟨fun o w hs=>⟨Sat.pts_ne hs,fun e=>Sat.pts_ne hs e.symm,h.ne o w (hs.perm (B:=(Pr.pts c o').star ((Pr.pts b o).star (starL L))) (by show (Pr.pts b o).star ((Pr.pts c o').star (starL L))=_;rw [Pr.left_comm])).right⟩⟩
class FactsOf(L:List Pr)(w:World)(P:outParam Prop):Prop where
 facts:Sat (starL L) w→P
instance FactsOf.nil(w:World):FactsOf [] w True:=⟨fun _=>trivial⟩
instance FactsOf.skip(B:Pr)(L:List Pr)(w:World)(P:Prop) [h:FactsOf L w P]:FactsOf (B :: L) w P:=⟨fun hs=>h.facts hs.right⟩
instance FactsOf.pts(b:Nat)(l:List Value)(T:TypeId)(L:List Pr)(w:World)(P N:Prop) [h:FactsOf L w P] [k:NePts b L N]:FactsOf (Pr.pts b (.cells l.toArray T (0,0)) :: L) w ((CellsAt w b 0 l∧b<w.heap.size∧N)∧P):=
 ⟨fun hs=>⟨⟨cellsAt_of hs.pts_heap l 0 fun j v hj=>by simpa using hj,hs.lt,k.ne _ _ hs⟩,h.facts hs.right⟩⟩
class SubL(M L:List Pr):Prop where
 sub:∃R,starL L=(starL M).star R
instance SubL.nil(L:List Pr):SubL [] L:=⟨⟨starL L,(Pr.emp_star _).symm⟩⟩
instance SubL.refl(L:List Pr):SubL L L:=⟨⟨Pr.emp,(Pr.star_emp _).symm⟩⟩
instance SubL.cons(A:Pr)(M L R:List Pr) [h:Pull A L R] [k:SubL M R]:SubL (A :: M) L:=⟨by
 obtain⟨X,e⟩:=k.sub
 exact⟨X,by rw [h.eq,e, ← Pr.star_assoc];rfl⟩⟩
section
variable {L:List Pr}{w w':World}{F:Pr}
theorem OwnL.pull1 {A1:Pr}{R1:List Pr} [k1:Pull A1 L R1](o:OwnL L w):Sat (A1.star (starL R1)) w:=o.sat.perm (by rw [k1.eq])
theorem OwnL.end1 {A1:Pr}{R1:List Pr} [k1:Pull A1 L R1](o:OwnL L w):Sat A1 w:=(o.pull1 (A1:=A1)).left
theorem OwnL.of1 {A1:Pr}(h:Sat (A1.star (starL L)) w):OwnL (A1 :: L) w:=⟨h⟩
theorem OwnL.in1 {A1:Pr}(h:Sat (A1.star F) w):OwnL [A1,F] w:=⟨h.perm (by simp only [starL,Pr.star_emp])⟩
theorem OwnL.pull2 {A1 A2:Pr}{R1 R2:List Pr} [k1:Pull A1 L R1] [k2:Pull A2 R1 R2](o:OwnL L w):Sat (A1.star (A2.star (starL R2))) w:=o.sat.perm (by rw [k1.eq,k2.eq])
theorem OwnL.end2 {A1 A2:Pr}{R1 R2:List Pr} [k1:Pull A1 L R1] [k2:Pull A2 R1 R2](o:OwnL L w):Sat (A1.star A2) w:=(o.sat.perm (B:=(A1.star A2).star (starL R2)) (by rw [k1.eq,k2.eq];simp only [Pr.star_assoc])).left
theorem OwnL.of2 {A1 A2:Pr}(h:Sat (A1.star (A2.star (starL L))) w):OwnL (A1 :: A2 :: L) w:=⟨h⟩
theorem OwnL.in2 {A1 A2:Pr}(h:Sat (A1.star (A2.star F)) w):OwnL [A1,A2,F] w:=⟨h.perm (by simp only [starL,Pr.star_emp])⟩
theorem OwnL.pull3 {A1 A2 A3:Pr}{R1 R2 R3:List Pr} [k1:Pull A1 L R1] [k2:Pull A2 R1 R2] [k3:Pull A3 R2 R3](o:OwnL L w):Sat (A1.star (A2.star (A3.star (starL R3)))) w:=o.sat.perm (by rw [k1.eq,k2.eq,k3.eq])
theorem OwnL.end3 {A1 A2 A3:Pr}{R1 R2 R3:List Pr} [k1:Pull A1 L R1] [k2:Pull A2 R1 R2] [k3:Pull A3 R2 R3](o:OwnL L w):Sat (A1.star (A2.star A3)) w:=(o.sat.perm (B:=(A1.star (A2.star A3)).star (starL R3)) (by rw [k1.eq,k2.eq,k3.eq];simp only [Pr.star_assoc])).left
theorem OwnL.of3 {A1 A2 A3:Pr}(h:Sat (A1.star (A2.star (A3.star (starL L)))) w):OwnL (A1 :: A2 :: A3 :: L) w:=⟨h⟩
theorem OwnL.in3 {A1 A2 A3:Pr}(h:Sat (A1.star (A2.star (A3.star F))) w):OwnL [A1,A2,A3,F] w:=⟨h.perm (by simp only [starL,Pr.star_emp])⟩
theorem OwnL.pull4 {A1 A2 A3 A4:Pr}{R1 R2 R3 R4:List Pr} [k1:Pull A1 L R1] [k2:Pull A2 R1 R2] [k3:Pull A3 R2 R3] [k4:Pull A4 R3 R4](o:OwnL L w):Sat (A1.star (A2.star (A3.star (A4.star (starL R4))))) w:=o.sat.perm (by rw [k1.eq,k2.eq,k3.eq,k4.eq])
theorem OwnL.end4 {A1 A2 A3 A4:Pr}{R1 R2 R3 R4:List Pr} [k1:Pull A1 L R1] [k2:Pull A2 R1 R2] [k3:Pull A3 R2 R3] [k4:Pull A4 R3 R4](o:OwnL L w):Sat (A1.star (A2.star (A3.star A4))) w:=(o.sat.perm (B:=(A1.star (A2.star (A3.star A4))).star (starL R4)) (by rw [k1.eq,k2.eq,k3.eq,k4.eq];simp only [Pr.star_assoc])).left
theorem OwnL.of4 {A1 A2 A3 A4:Pr}(h:Sat (A1.star (A2.star (A3.star (A4.star (starL L))))) w):OwnL (A1 :: A2 :: A3 :: A4 :: L) w:=⟨h⟩
theorem OwnL.in4 {A1 A2 A3 A4:Pr}(h:Sat (A1.star (A2.star (A3.star (A4.star F)))) w):OwnL [A1,A2,A3,A4,F] w:=⟨h.perm (by simp only [starL,Pr.star_emp])⟩
theorem OwnL.pull5 {A1 A2 A3 A4 A5:Pr}{R1 R2 R3 R4 R5:List Pr} [k1:Pull A1 L R1] [k2:Pull A2 R1 R2] [k3:Pull A3 R2 R3] [k4:Pull A4 R3 R4] [k5:Pull A5 R4 R5](o:OwnL L w):Sat (A1.star (A2.star (A3.star (A4.star (A5.star (starL R5)))))) w:=o.sat.perm (by rw [k1.eq,k2.eq,k3.eq,k4.eq,k5.eq])
theorem OwnL.end5 {A1 A2 A3 A4 A5:Pr}{R1 R2 R3 R4 R5:List Pr} [k1:Pull A1 L R1] [k2:Pull A2 R1 R2] [k3:Pull A3 R2 R3] [k4:Pull A4 R3 R4] [k5:Pull A5 R4 R5](o:OwnL L w):Sat (A1.star (A2.star (A3.star (A4.star A5)))) w:=(o.sat.perm (B:=(A1.star (A2.star (A3.star (A4.star A5)))).star (starL R5)) (by rw [k1.eq,k2.eq,k3.eq,k4.eq,k5.eq];simp only [Pr.star_assoc])).left
theorem OwnL.in5 {A1 A2 A3 A4 A5:Pr}(h:Sat (A1.star (A2.star (A3.star (A4.star (A5.star F))))) w):OwnL [A1,A2,A3,A4,A5,F] w:=⟨h.perm (by simp only [starL,Pr.star_emp])⟩
theorem OwnL.end6 {A1 A2 A3 A4 A5 A6:Pr}{R1 R2 R3 R4 R5 R6:List Pr} [k1:Pull A1 L R1] [k2:Pull A2 R1 R2] [k3:Pull A3 R2 R3] [k4:Pull A4 R3 R4] [k5:Pull A5 R4 R5] [k6:Pull A6 R5 R6](o:OwnL L w):Sat (A1.star (A2.star (A3.star (A4.star (A5.star A6))))) w:=(o.sat.perm (B:=(A1.star (A2.star (A3.star (A4.star (A5.star A6))))).star (starL R6)) (by rw [k1.eq,k2.eq,k3.eq,k4.eq,k5.eq,k6.eq];simp only [Pr.star_assoc])).left
theorem OwnL.in6 {A1 A2 A3 A4 A5 A6:Pr}(h:Sat (A1.star (A2.star (A3.star (A4.star (A5.star (A6.star F)))))) w):OwnL [A1,A2,A3,A4,A5,A6,F] w:=⟨h.perm (by simp only [starL,Pr.star_emp])⟩
theorem OwnL.in7 {A1 A2 A3 A4 A5 A6 A7:Pr}(h:Sat (A1.star (A2.star (A3.star (A4.star (A5.star (A6.star (A7.star F))))))) w):OwnL [A1,A2,A3,A4,A5,A6,A7,F] w:=⟨h.perm (by simp only [starL,Pr.star_emp])⟩
theorem OwnL.pull8 {A1 A2 A3 A4 A5 A6 A7 A8:Pr}{R1 R2 R3 R4 R5 R6 R7 R8:List Pr} [k1:Pull A1 L R1] [k2:Pull A2 R1 R2] [k3:Pull A3 R2 R3] [k4:Pull A4 R3 R4] [k5:Pull A5 R4 R5] [k6:Pull A6 R5 R6] [k7:Pull A7 R6 R7] [k8:Pull A8 R7 R8](o:OwnL L w):Sat (A1.star (A2.star (A3.star (A4.star (A5.star (A6.star (A7.star (A8.star (starL R8))))))))) w:=o.sat.perm (by rw [k1.eq,k2.eq,k3.eq,k4.eq,k5.eq,k6.eq,k7.eq,k8.eq])
theorem OwnL.end8 {A1 A2 A3 A4 A5 A6 A7 A8:Pr}{R1 R2 R3 R4 R5 R6 R7 R8:List Pr} [k1:Pull A1 L R1] [k2:Pull A2 R1 R2] [k3:Pull A3 R2 R3] [k4:Pull A4 R3 R4] [k5:Pull A5 R4 R5] [k6:Pull A6 R5 R6] [k7:Pull A7 R6 R7] [k8:Pull A8 R7 R8](o:OwnL L w):Sat (A1.star (A2.star (A3.star (A4.star (A5.star (A6.star (A7.star A8))))))) w:=(o.sat.perm (B:=(A1.star (A2.star (A3.star (A4.star (A5.star (A6.star (A7.star A8))))))).star (starL R8)) (by rw [k1.eq,k2.eq,k3.eq,k4.eq,k5.eq,k6.eq,k7.eq,k8.eq];simp only [Pr.star_assoc])).left
theorem OwnL.in8 {A1 A2 A3 A4 A5 A6 A7 A8:Pr}(h:Sat (A1.star (A2.star (A3.star (A4.star (A5.star (A6.star (A7.star (A8.star F)))))))) w):OwnL [A1,A2,A3,A4,A5,A6,A7,A8,F] w:=⟨h.perm (by simp only [starL,Pr.star_emp])⟩
end
section
variable {L R R2 R3 R4 R5 R6:List Pr}{w w':World}{A B C D E G F:Pr}
theorem OwnL.to {M:List Pr}(o:OwnL L w) [h:SubL M L]:OwnL M w:=by
 obtain⟨X,e⟩:=h.sub
 exact⟨(o.sat.perm e).left⟩
theorem OwnL.of0(h:Sat (starL L) w):OwnL L w:=⟨h⟩
class NormL(L:List Pr)(M:outParam (List Pr)):Prop where
 eq:starL L=starL M
instance NormL.nil:NormL [] []:=⟨rfl⟩
instance NormL.keep(A:Pr)(L M:List Pr) [h:NormL L M]:NormL (A :: L) (A :: M):=⟨by show A.star (starL L)=A.star (starL M);rw [h.eq]⟩
instance NormL.star(A B:Pr)(L M:List Pr) [h:NormL (A :: B :: L) M]:NormL (A.star B :: L) M:=⟨by rw [← h.eq];show (A.star B).star (starL L)=A.star (B.star (starL L));rw [Pr.star_assoc]⟩
theorem OwnL.norm {M:List Pr}(o:OwnL L w) [h:NormL L M]:OwnL M w:=⟨o.sat.perm h.eq⟩
class FlatL(L:List Pr)(M:outParam (List Pr)):Prop where
 eq:starL L=starL M
instance FlatL.there(A:Pr)(L M:List Pr) [h:FlatL L M]:FlatL (A :: L) (A :: M):=⟨by show A.star (starL L)=A.star (starL M);rw [h.eq]⟩
instance FlatL.here(R:List Pr):FlatL [starL R] R:=⟨Pr.star_emp _⟩
theorem OwnL.flat {M:List Pr}(o:OwnL L w) [h:FlatL L M]:OwnL M w:=⟨o.sat.perm h.eq⟩
theorem OwnL.push(h:Sat (A.star (starL L)) w)(e:A=B.star C):OwnL (B :: C :: L) w:=⟨by subst e;exact h.perm (Pr.star_assoc _ _ _)⟩
theorem OwnL.split [h:Pull (A.star B) L R](o:OwnL L w):OwnL (A :: B :: R) w:=⟨o.sat.perm (by rw [h.eq,Pr.star_assoc];rfl)⟩
theorem OwnL.alloc(o:OwnL L w)(x:Obj):OwnL (Pr.pts w.heap.size x :: L) (w.alloc x):=⟨o.sat.alloc x⟩
theorem OwnL.drew(o:OwnL L w):OwnL L w.drew:=⟨o.sat.drew⟩
theorem OwnL.drewN(o:OwnL L w)(n:Nat):OwnL L (w.drewN n):=⟨o.sat.drewN n⟩
theorem OwnL.set(o:OwnL L w)(b i:Nat)(v:Value){M:List Pr} [h:SetPts b i v L M]:OwnL M (w.setCell ⟨b,i,none⟩ v):=by
 obtain⟨cs,t,fz,R,h1,h2⟩:=h.ex
 exact⟨((o.sat.perm h1).setCell (i:=i) v).perm h2.symm⟩
theorem OwnL.drop(o:OwnL (A :: L) w):OwnL L w:=⟨o.sat.right⟩
theorem OwnL.lose(A:Pr)(o:OwnL L w) [h:Pull A L R]:OwnL R w:=⟨(o.pull1 (A1:=A)).right⟩
theorem OwnL.facts(o:OwnL L w){P:Prop} [h:FactsOf L w P]:P:=h.facts o.sat
theorem OwnL.pts(o:OwnL L w)(b:Nat){x:Obj}{R:List Pr} [h:PullPts b L x R]:Sat ((Pr.pts b x).star (starL R)) w:=o.sat.perm h.eq
theorem OwnL.row(o:OwnL L w)(v:Value){T k n:Nat}{xs:List Value}{R:List Pr} [h:PullRow v L T k n xs R]:Sat ((Row T k v n xs).star (starL R)) w:=o.sat.perm h.eq
theorem OwnL.arena(A:Pr)(o:OwnL L w) [h:Pull A L R]:∃a,A a∧OwnL (Pr.own a :: R) w:=by
 obtain⟨a,ha,hs⟩:=(o.pull1 (A1:=A)).toOwn
 exact⟨a,ha,⟨hs⟩⟩
theorem OwnL.back(A:Pr){a:Hp}(ha:A a)(o:OwnL L w) [h:Pull (Pr.own a) L R]:OwnL (A :: R) w:=⟨(o.pull1 (A1:=Pr.own a)).ofOwn ha⟩
theorem OwnL.le {a:Hp}(o:OwnL L w) [h:Pull (Pr.own a) L R]:a.le w:=(o.pull1 (A1:=Pr.own a)).own
theorem OwnL.ext(o:OwnL L w)(ha:∀k,k<w.heap.size→w'.heap[k]? =w.heap[k]?):OwnL L w':=⟨o.sat.ext ha⟩
end
end Go.Sl
