/- The pool's Settle of any pool, its Pages, Refs; the conditions stand as hypotheses. -/
import Derived.Test.YtbobcmimkonnoaaGreatVaultPlaysM08
import Derived.Test.YtbobcmimkonnoaaGreatVaultPlaysM10
import Derived.Test.YtbobcmimkonnoaaGreatVaultPlaysM09
import Derived.Test.YtbobcmimkonnoaaGreatVaultPlaysM11
import Derived.Test.YtbobcmimkonnoaaGreatVaultPlaysM15
import Derived.Test.YtbobcmimkonnoaaGreatVaultPlaysM25
import Derived.Test.YtbobcmimkonnoaaGreatVaultPlaysM20
import Derived.Test.YtbobcmimkonnoaaGreatVaultPlaysM17
import Derived.Test.YtbobcmimkonnoaaGreatVaultPlaysM19
import Derived.Test.YtbobcmimkonnoaaGreatVaultPlaysM01
set_option maxRecDepth 100000
set_option maxHeartbeats 16000000
namespace Go.Cop
def pagesTo(s:PoolS)(k:Int)(m:Nat):List Int:=((List.range m).filter fun i:Nat=>s.state ((i:Int)+1) == k).map fun i:Nat=>(i:Int)+1
abbrev pagesIn(s:PoolS)(k:Int):List Int:=pagesTo s k s.counts.length
theorem pagesTo_yes {s:PoolS}{k:Int}{m:Nat}(h:s.state ((m:Int)+1)=k):pagesTo s k (m+1)=pagesTo s k m++ [(m:Int)+1]:=by
 unfold pagesTo
 rw [List.range_succ,List.filter_append,List.map_append]
 simp [h]
theorem pagesTo_no {s:PoolS}{k:Int}{m:Nat}(h:s.state ((m:Int)+1)≠k):pagesTo s k (m+1)=pagesTo s k m:=by
 unfold pagesTo
 rw [List.range_succ,List.filter_append,List.map_append]
 simp [h]
theorem pagesTo_len(s:PoolS)(k:Int)(m:Nat):(pagesTo s k m).length≤m:=by
 unfold pagesTo
 rw [List.length_map]
 exact Nat.le_trans (List.length_filter_le _ _) (by rw [List.length_range];exact Nat.le_refl _)
theorem pages_mem {s:PoolS}{k n:Int}:n∈pagesIn s k↔s.there n∧s.state n=k:=by
 unfold pagesIn pagesTo
 simp only [List.mem_map,List.mem_filter,List.mem_range,beq_iff_eq]
 constructor
 · rintro⟨i,⟨h1,h2⟩,rfl⟩
   exact⟨⟨by omega,by omega⟩,h2⟩
 · rintro⟨⟨h1,h2⟩,h3⟩
   refine⟨n.toNat-1,⟨by omega,?_⟩,by omega⟩
   rw [show ((n.toNat-1:Nat):Int)+1=n by omega]
   exact h3
end Go.Cop
namespace Go.Proofs.YtbobcmimkonnoaaGreat.Q8
open ChangeShapes WideShapes ChangeAt RowKit Sl Cop Go.Shelf D2 K3 N3 P3 Q3 G2 Y3
attribute [local go_sem] Oper.semAt_some
theorem psettle_any(p:Nat)(s:PoolS)(F:Pr)(w:World)(hF:Sat ((PoolA p s).star F) w):
 Calls Tryz.prog 120 #[.pointer (some ⟨p,0,none⟩)] w fun e w'=>e= .returned (.tuple #[])∧Sat ((PoolA p s.settled).star F) w'∧Stays w w':=by
 obtain⟨ok,cv,lv,fb,av,hA⟩:=poolA_iff.1 hF
 have hA1:Sat ((ActsA p av s.acts).star ((Pr.pts p (.cells (poolCells s cv lv fb av) 124)).star ((IntsRow cv s.counts).star ((BoolsRow lv s.last).star ((SetOf fb fun m=>s.state m=1).star F))))) w:=hA.perm (by unfold PoolAt;ac_rfl)
 obtain⟨a9,c9,e9⟩:∃a9 c9,av= .slice a9 s.acts.length c9:=by
  have h1:=hA1
  unfold ActsA at h1
  obtain⟨⟨fs,hx⟩,h2⟩:=Sat.ex.1 h1
  rw [Pr.star_assoc] at h2
  obtain⟨_,h3⟩:=Sat.pure.1 h2
  dsimp only at h3
  rw [Pr.star_assoc] at h3
  obtain⟨a,c,hav,_,_⟩:=Row.read h3
  exact⟨a,c,hav⟩
 subst e9
 have h2:=hA1.perm (B:=(Pr.pts p (.cells (poolCells s cv lv fb (.slice a9 s.acts.length c9)) 124)).star ((IntsRow cv s.counts).star ((BoolsRow lv s.last).star ((ActsA p (.slice a9 s.acts.length c9) s.acts).star ((SetOf fb fun m=>s.state m=1).star F))))) (by ac_rfl)
 refine(settle_low p s.refs cv lv _ _ _ _ _ _ a9 s.acts.length c9 s.floor s.counts s.last _ w h2 ok.n1 ok.n2 ok.len ok.cs ok.fl ok.mb).mono ?_
 rintro e w' ⟨rfl,⟨fb2,h3⟩,hst⟩
 have okp:PoolOk (poolOf s.refs s.counts (s.floor+s.acts.length)):=⟨ok.n1,ok.n2,by show (lastsOf s.counts).length=_;unfold lastsOf;rw [List.length_map],ok.r1,ok.r2,ok.cs,by have:=ok.fl;show (0:Int)≤s.floor+ _;omega,by have:=ok.mb;show s.floor+ _+((0:Nat):Int)≤ _;omega⟩
 have h4:=mid_end ok.len okp h3
 exact⟨rfl,(h4.perm (B:=(ActsA p (.slice a9 s.acts.length c9) s.acts).star ((SetOf fb fun m=>s.state m=1).star ((PoolA p s.settled).star F))) (by show (PoolA p s.settled).star _=_;ac_rfl)).right.right,hst⟩
theorem ppages_any(p:Nat)(s:PoolS)(k:Int)(F:Pr)(w:World)(hF:Sat ((PoolA p s).star F) w):
 Calls Tryz.prog 116 #[.pointer (some ⟨p,0,none⟩),.int .i64 k] w fun e w'=>
  Stays w w'∧∃lb lv,e= .returned (.func (.func 158) #[] #[.pointer (some ⟨lb,0,none⟩)])∧
   Sat ((Pr.pts lb (.cells #[lv] 40)).star ((IntsRow lv (pagesIn s k)).star ((PoolA p s).star F))) w':=by
 obtain⟨ok,rd,_,_,_⟩:=poolA_rd hF
 obtain⟨b,c,h1,_⟩:=rd.cs
 have zp:=World.block_lt_of_cell? _ _ h1
 have hn2:=ok.n2
 have hn3:(s.counts.length:Int)≤65536:=by omega
 have HB:=hQ (hF.alloc (.cells #[.slice none 0 0] 40))
 have HST:=hQ ((Stays.refl w).alloc (.cells #[.slice none 0 0] 40))
 obtain⟨i0,hi0,hz0,hz1,hz2⟩:=info_parts infoInt
 clear hF rd ok
 go_enter Tryz.func116,Tryz.ntmps116
 go_wp2
 go_loopw [12] (fun i wr=> ∃(m:Nat) (lv:Value),m≤s.counts.length∧i= .int .i64 m∧Stays w wr∧Sat ((Pr.pts w.heap.size (.cells #[lv] 40)).star ((IntsRow lv (pagesTo s k m)).star ((PoolA p s).star F))) wr) (fun i _=>s.counts.length-(intOf i).toNat)
 case atStart=>
  refine⟨0,.slice none 0 0,Nat.zero_le _,rfl,HST.out,?_⟩
  rw [show IntsRow (.slice none 0 0) (pagesTo s k 0)=Pr.emp from Row.nil _ _,Pr.emp_star]
  exact HB.out
 case round=>
  obtain⟨m,lv,hm,rfl,hst,hs⟩:=hrel
  clear HB HST
  obtain⟨al,cl,rfl,_,_⟩:=Row.read hs.right
  have q0:wr.cell? ⟨w.heap.size,0,none⟩=some (.slice al (pagesTo s k m).length cl):=by rw [cell_of_heap hs.pts_heap];rfl
  have f0:=frozen_of_heap hs.pts_heap 0
  have z0:=hs.lt
  have hml:=pagesTo_len s k m
  have ST:=hQ (state_any p ((m:Int)+1) wr s (poolA_rd (hs.right.right)).2.1)
  have HYES:=hQ (fun h=>pagesTo_yes (s:=s) (k:=k) (m:=m) h)
  have HNO:=hQ (fun h=>pagesTo_no (s:=s) (k:=k) (m:=m) h)
  rcases Nat.lt_or_ge m s.counts.length with hlt | hge
  · by_cases hk:s.state ((m:Int)+1)=k
    · have hb:(s.state ((m:Int)+1) == k)=true:=beq_iff_eq.2 hk
      have HK:=hQ hk
      have A1:=hQ ((hs.perm (Pr.left_comm _ _ _)).alloc (.cells [.int .i64 ((m:Int)+1)].toArray 3)).right
      have hnew:=hQ (new_cells wr [.int .i64 ((m:Int)+1)] 3 _ rfl)
      have HSTK:=hQ (hst.alloc (.cells [.int .i64 ((m:Int)+1)].toArray 3))
      clear hs hst hk
      generalize s.state ((m:Int)+1)=sm at*
      go_wp2_with fail
      refine ST.out.mono ?_
      rintro e w1 ⟨rfl,rfl⟩
      go_wp2_with (
       at_builtin
       refine wpList_append_sl rfl _ _ _ rfl 3 i0 (.int .i64 0) 1 8 Tryz.underlying40 hi0 hz0 hz1 hz2 rfl _ _ _ rfl A1.out ⟨wr.heap.size,0,none⟩ 1 1 [.int .i64 ((m:Int)+1)] rfl rfl hnew.out (by simp [Value.oneCell']) (by simp only [maxLen];omega) (by omega) ?_
       intro v7 w4 hs4 hg4 _
       obtain⟨a7',c7',e7',_,_⟩:=Row.read hs4
       subst e7'
       have g0:w4.cell? ⟨w.heap.size,0,none⟩=some (.slice al (pagesTo s k m).length cl):=by
        rw [cell_of_heap hs4.right.pts_heap]
        rfl
       have gf:=frozen_of_heap hs4.right.pts_heap 0
       have gz:=hs4.right.lt
       have HS4:=hQ hs4
       have HG4:=hQ (HSTK.out.of_grown hg4)
       clear hs4 hg4)
      go_roundw
      case rel=>
       refine⟨m+1,.slice a7' ((pagesTo s k m).length+1) c7',by omega,congrArg (Value.int .i64) (by omega),HG4.out.setCell _ _,?_⟩
       have h9:=(HS4.out.perm (Pr.left_comm _ _ _)).setCell (i:=0) (.slice a7' ((pagesTo s k m).length+1) c7')
       rw [HYES.out HK.out]
       unfold IntsRow
       rw [List.length_append,List.map_append]
       exact h9
      case measure=>simp [intOf];omega
    · have hb:(s.state ((m:Int)+1) == k)=false:=beq_eq_false_iff_ne.2 hk
      have HK:=hQ hk
      have HS:=hQ hs
      clear hs hk
      generalize s.state ((m:Int)+1)=sm at*
      go_wp2_with fail
      refine ST.out.mono ?_
      rintro e w1 ⟨rfl,rfl⟩
      go_wp2
      go_roundw
      case rel=>exact⟨m+1,_,by omega,congrArg (Value.int .i64) (by omega),hst,by rw [HNO.out HK.out];exact HS.out⟩
      case measure=>simp [intOf];omega
  · have hme:m=s.counts.length:=by omega
    subst hme
    have HS:=hQ hs
    clear hs ST
    go_wp2
    go_ret
    exact⟨hst,_,_,rfl,HS.out⟩
def PagesOwn(lb:Nat)(lv:Value)(xs:List Int):Pr:=(Pr.pts lb (.cells #[lv] 40)).star (IntsRow lv xs)
def encI(n:Int):Array Value:= #[.int .i64 n]
theorem pages1(lb:Nat)(lv:Value)(xs:List Int)(hl:xs.length≤65536):
 IterSl Tryz.prog 158 #[.pointer (some ⟨lb,0,none⟩)] encI xs (PagesOwn lb lv xs):=by
 intro l J Jx W hY h0
 refine(callsIn_wide (n:=3)).1 ?_
 refine callsIn_of_wp Tryz.func158 rfl trivial ?_ rfl
 simp only [Tryz.ntmps158,List.size_toArray,List.length_cons,List.length_nil,Nat.reduceAdd,Nat.reduceSub,Array.replicate_succ,Array.replicate_zero,List.push_toArray,List.append_toArray,List.nil_append,List.cons_append]
 have facts:∀(A:Pr) (wr:World),Sat (A.star (PagesOwn lb lv xs)) wr→∃a c,lv= .slice a xs.length c∧wr.cell? ⟨lb,0,none⟩=some (.slice a xs.length c)∧lb<wr.heap.size∧∀i,i<xs.length→∃b,a=some ⟨b,0,none⟩∧wr.cell? ⟨b,i,none⟩=some (.int .i64 (xs.getD i 0)):=by
  intro A wr hs
  unfold PagesOwn at hs
  have h1:Sat ((Pr.pts lb (.cells #[lv] 40)).star ((IntsRow lv xs).star A)) wr:=hs.perm (by ac_rfl)
  obtain⟨a,c,e,_,hc⟩:=Row.read h1.right
  subst e
  refine⟨a,c,rfl,by rw [cell_of_heap h1.pts_heap];rfl,h1.lt,fun i hi=> ?_⟩
  obtain⟨b,eb,hd⟩:=hc (by omega)
  refine⟨b,eb,?_⟩
  rw [(hd i (by omega)).1]
  simp [hi]
 have F0:=facts _ _ h0
 obtain⟨a,c,elv,q1,z1,_⟩:=F0
 have hl3:(xs.length:Int)≤65536:=by omega
 have HF:=hQ facts
 have HY:=hQ hY
 have H0:=hQ h0
 have HE:=hQ elv
 clear facts hY h0 elv
 gi_wp2
 gi_loopw [7] (fun i wr=> ∃r:Nat,r≤xs.length∧i= .int .i64 (r:Int)∧Stays W wr∧Sat ((J (xs.take r)).star (PagesOwn lb lv xs)) wr) (fun i _=>xs.length-(intOf i).toNat)
 case atStart=>exact⟨0,Nat.zero_le _,rfl,Stays.refl _,H0.out⟩
 case round=>
  obtain⟨r,hr,rfl,hR,hs⟩:=hrel
  rcases Nat.lt_or_ge r xs.length with hlt | hge
  · obtain⟨a2,c2,e2,_,_,hcell⟩:=HF.out _ _ hs
    have e3:=HE.out
    rw [e3] at e2
    cases e2
    obtain⟨b,rfl,q2⟩:=hcell r hlt
    have hcat:xs.take (r+1)=xs.take r++ [xs.getD r 0]:=by
     rw [List.take_succ_eq_append_getElem hlt]
     simp [hlt]
    have hpre:xs.take r++ [xs.getD r 0]<+:xs:=by rw [← hcat];exact List.take_prefix _ _
    have HCAT:=hQ hcat
    have HP:=hQ hpre
    have HS:=hQ hs
    have z2:=World.block_lt_of_cell? _ _ q2
    clear hcat hpre hs hcell e3
    generalize xs.getD r 0=y at*
    gi_wp2
    refine at_yield (HY.out Pr.emp (xs.take r) y _ HP.out (HS.out.perm (Pr.star_emp _).symm)) ?_
    rintro e w' ⟨hR',(⟨rfl,hs'⟩ | ⟨rfl,hs'⟩)⟩<;>rw [Pr.star_emp] at hs'
    · refine⟨_,rfl,?_⟩
      rw [← HCAT.out] at hs'
      have HS':=hQ hs'
      clear hs'
      gi_wp2
      go_roundw
      case rel=>exact⟨r+1,by omega,congrArg (Value.int .i64) (by omega),hR.trans hR',HS'.out⟩
      case measure=>simp [intOf];omega
    · refine⟨_,rfl,?_⟩
      have HS':=hQ hs'
      clear hs'
      gi_wp2
      refine bodyPost_ret (results_none rfl _ _ _) rfl ?_
      exact⟨⟨_,rfl⟩,hR.trans hR',.inr ⟨_,HP.out,HS'.out⟩⟩
  · have hre:r=xs.length:=by omega
    subst hre
    have HS:=hQ hs
    clear hs
    gi_wp2
    go_end0
    refine⟨⟨_,rfl⟩,hR,.inl ⟨_,rfl,?_⟩⟩
    have h9:=HS.out
    rw [List.take_length] at h9
    exact h9
end Go.Proofs.YtbobcmimkonnoaaGreat.Q8
namespace Go.Cop
def VaultS.settled(s:VaultS):VaultS:= { pool:=s.pool.settled,on:=fun m=>if s.pool.state m=2 then none else s.on m,acts:= [],floor:=s.floor+s.acts.length }
end Go.Cop
namespace Go.Proofs.YtbobcmimkonnoaaGreat.T8
open ChangeShapes WideShapes ChangeAt RowKit Sl Cop Go.Shelf D2 K3 N3 P3 Q3 G2 M2 U3 Y3 Z3 D4 F4 J4 Q8
attribute [local go_sem] Oper.semAt_some
def gone(f:Int→Option Value)(l:List Int):Int→Option Value:=fun m=>if m∈l then none else f m
theorem gone_nil(f:Int→Option Value):gone f []=f:=by funext m;simp [gone]
theorem gone_snoc(f:Int→Option Value)(l:List Int)(y:Int):gone f (l++ [y])=fun m=>if m=y then none else gone f l m:=by
 funext m
 simp only [gone,List.mem_append,List.mem_singleton]
 by_cases h:m=y
 · rw [if_pos (Or.inr h),if_pos h]
 · rw [if_neg h]
   by_cases h2:m∈l
   · rw [if_pos (Or.inl h2),if_pos h2]
   · rw [if_neg (fun h3=>h3.elim h2 h),if_neg h2]
theorem vsettle_any(v:Nat)(s:VaultS)(F:Pr)(w:World)(hF:Sat ((VaultA v s).star F) w):
 Calls Tryz.prog 57 #[.pointer (some ⟨v,0,none⟩)] w fun e w'=>e= .returned (.tuple #[])∧Sat ((VaultA v s.settled).star F) w'∧Stays w w':=by
 have h1:=hF.alloc (.cells #[.pointer (some ⟨v,0,none⟩)] 35)
 have h2:=h1.perm (B:=(VaultA v s).star ((Pr.pts w.heap.size (.cells #[.pointer (some ⟨v,0,none⟩)] 35)).star F)) (by ac_rfl)
 obtain⟨okp,fb0,fb1⟩:=vault_ok h2
 have M:=hQ (vmark_A v s _ _ h2.drew)
 have H2:=hQ h2
 have OKP:=hQ okp
 have HST:=hQ ((Stays.refl w).alloc (.cells #[.pointer (some ⟨v,0,none⟩)] 35))
 clear h1 h2 hF okp
 refine calls_of_wp_marks (n:=9) Tryz.func57 rfl ?_
 simp only [Tryz.ntmps57,List.size_toArray,List.length_cons,List.length_nil,Nat.reduceAdd,Nat.reduceSub,Array.replicate_succ,Array.replicate_zero,List.push_toArray,List.append_toArray,List.nil_append,List.cons_append]
 go_wp2_with fail
 refine wp_region_staged (sz:=27) (by kernel_rfl) [0,1,2] [(3,[4,5],[0,1]),(6,[7,8],[1,4]),(9,[],[7])] rfl (by kernel_rfl) (by kernel_rfl) (by kernel_rfl) ?_
 refine wpQ_all _ rfl rfl ?_
 simp only [pick,pQ]
 iterate 3 (go_big_quiet_step (fail))
 refine wpQuiet_nil ?_
 refine wpRest_act rfl ?_
 go_wp2_with fail
 refine M.out.mono ?_
 rintro e w1 ⟨rfl,ho⟩
 obtain⟨x,ok,hx⟩:=vaultA_iff.1 (H2.out.drew.only ho)
 have h4:Sat ((Pr.pts v (.cells #[.pointer (some ⟨x.p,0,none⟩),.map (some x.mb),x.av,.int .i64 s.floor] 71)).star ((Pr.pts w.heap.size (.cells #[.pointer (some ⟨v,0,none⟩)] 35)).star ((PoolA x.p s.pool).star ((MapA Tryz.prog 3 x.mb x.f).star ((Row 158 2 x.av s.acts.length (actCells x.axs)).star ((Pr.own x.h).star F)))))) w1:=hx.perm (by unfold VaultAt;ac_rfl)
 have r0:w1.cell? ⟨w.heap.size,0,none⟩=some (.pointer (some ⟨v,0,none⟩)):=by rw [cell_of_heap h4.right.pts_heap];rfl
 have c2:w1.cell? ⟨v,2,none⟩=some x.av:=by rw [cell_of_heap h4.pts_heap];rfl
 have c3:w1.cell? ⟨v,3,none⟩=some (.int .i64 s.floor):=by rw [cell_of_heap h4.pts_heap];rfl
 have f2:=frozen_of_heap h4.pts_heap 2
 have f3:=frozen_of_heap h4.pts_heap 3
 have zb:=h4.right.lt
 have zv:=h4.lt
 have hs5:Sat ((Pr.pts v (.cells #[.pointer (some ⟨x.p,0,none⟩),.map (some x.mb),.slice none 0 0,.int .i64 (s.floor+s.acts.length)] 71)).star ((Pr.pts w.heap.size (.cells #[.pointer (some ⟨v,0,none⟩)] 35)).star ((PoolA x.p s.pool).star ((MapA Tryz.prog 3 x.mb x.f).star ((Row 158 2 x.av s.acts.length (actCells x.axs)).star ((Pr.own x.h).star F)))))) _:=(h4.setCell (i:=3) (.int .i64 (s.floor+s.acts.length))).setCell (i:=2) (.slice none 0 0)
 have HS5:=hQ hs5
 have HST1:=hQ (((HST.out.drew.trans ho.st).setCell ⟨v,3,none⟩ (.int .i64 (s.floor+s.acts.length))).setCell ⟨v,2,none⟩ (.slice none 0 0))
 have HOK:=hQ ok
 clear h4 hx hs5 ok ho M H2 HST
 go_wp2
 refine onN_mk ?_
 refine wpQ_all _ rfl rfl ?_
 simp only [pick,pQ]
 iterate 2 (go_big_quiet_step (fail))
 refine wpQuiet_nil ⟨?_,?_⟩
 · refine chk_all _ rfl rfl ?_
   simp only [pick,Same,pQ,and_true]
   repeat' (first | apply And.intro | (go_big_quiet_step (fail);exact wpQuiet_nil rfl))
 refine wpRest_act rfl ?_
 go_wp2
 refine onN_mk ?_
 refine wpQ_all _ rfl rfl ?_
 simp only [pick,pQ]
 iterate 2 (go_big_quiet_step (fail))
 refine wpQuiet_nil ⟨?_,?_⟩
 · refine chk_all _ rfl rfl ?_
   simp only [pick,Same,pQ,and_true]
   repeat' (first | apply And.intro | (go_big_quiet_step (fail);exact wpQuiet_nil rfl))
 refine wpRest_act rfl ?_
 go_wp2
 refine onN_mk ?_
 refine wpQ_nil ⟨?_,?_⟩
 · refine chk_all _ rfl rfl ?_
   simp only [pick,Same,pQ,and_true]
   repeat' (first | apply And.intro | (go_big_quiet_step (fail);exact wpQuiet_nil rfl))
 refine wpRest_nil ?_
 have T1:=HST1.out
 have T2:=HS5.out
 clear HST1 HS5 r0 c2 c3 f2 f3 zb zv
 generalize (w1.setCell ⟨v,3,none⟩ (.int .i64 (s.floor+s.acts.length))).setCell ⟨v,2,none⟩ (.slice none 0 0)=w2 at*
 have r0:w2.cell? ⟨w.heap.size,0,none⟩=some (.pointer (some ⟨v,0,none⟩)):=by rw [cell_of_heap T2.right.pts_heap];rfl
 have r1:w2.cell? ⟨v,0,none⟩=some (.pointer (some ⟨x.p,0,none⟩)):=by rw [cell_of_heap T2.pts_heap];rfl
 have zb:=T2.right.lt
 have zv:=T2.lt
 have PG:=hQ (ppages_any x.p s.pool 2 _ _ (T2.perm (B:=((PoolA x.p s.pool).star ((Pr.pts v (.cells #[.pointer (some ⟨x.p,0,none⟩),.map (some x.mb),.slice none 0 0,.int .i64 (s.floor+s.acts.length)] 71)).star ((Pr.pts w.heap.size (.cells #[.pointer (some ⟨v,0,none⟩)] 35)).star ((MapA Tryz.prog 3 x.mb x.f).star ((Row 158 2 x.av s.acts.length (actCells x.axs)).star ((Pr.own x.h).star F))))))) (by ac_rfl)))
 have HST2:=hQ T1
 clear T1 T2
 go_wp2_with fail
 refine PG.out.mono ?_
 rintro e w3 ⟨st3,lb,lv,rfl,hs6⟩
 have HS6:=hQ hs6
 have HST3:=hQ (HST2.out.trans st3)
 clear hs6 st3 PG HST2 r0 r1 zb zv
 go_wp2
 refine wp_rangeFunc_sl 9 (gf:=158) rfl (enters_of Tryz.func158 (by kernel_rfl) rfl) (pages1 lb lv (pagesIn s.pool 2) (Nat.le_trans (pagesTo_len _ _ _) OKP.out.n2)) (fun _=>rfl)
  (fun pre=>((Pr.pts w.heap.size (.cells #[.pointer (some ⟨v,0,none⟩)] 35)).star ((Pr.pts v (.cells #[.pointer (some ⟨x.p,0,none⟩),.map (some x.mb),.slice none 0 0,.int .i64 (s.floor+s.acts.length)] 71)).star ((PoolA x.p s.pool).star ((MapA Tryz.prog 3 x.mb (gone x.f pre)).star ((Row 158 2 x.av s.acts.length (actCells x.axs)).star ((Pr.own x.h).star F))))))) (fun _ _=>Pr.pure False) ?start ?round ?done ?stop
 case start=>
  rw [gone_nil]
  exact HS6.out.perm (by unfold PagesOwn;ac_rfl)
 case round=>
  intro l' pre y W1 F1 hpre hs
  have hmem:y∈pagesIn s.pool 2:=hpre.subset (List.mem_append_right _ (List.mem_singleton_self y))
  have hth:=(pages_mem.1 hmem).1
  have hno:1≤y∧y≤65536:=⟨hth.1,by have:=hth.2;have:=OKP.out.n2;omega⟩
  have HS1:=hQ hs
  clear hs hmem hth hpre
  simp only [encI]
  gi_wp2
  refine⟨((Pr.pts w.heap.size (.cells #[.pointer (some ⟨v,0,none⟩)] 35)).star ((Pr.pts v (.cells #[.pointer (some ⟨x.p,0,none⟩),.map (some x.mb),.slice none 0 0,.int .i64 (s.floor+s.acts.length)] 71)).star ((PoolA x.p s.pool).star ((MapA Tryz.prog 3 x.mb (gone x.f pre)).star ((Row 158 2 x.av s.acts.length (actCells x.axs)).star ((Pr.own x.h).star F)))))).star (PagesOwn lb lv (pagesIn s.pool 2)),Stays.refl _,HS1.out,?_⟩
  clear HS1
  intro F2 W2 _ hs2
  have h1:Sat ((MapA Tryz.prog 3 x.mb (gone x.f pre)).star ((Pr.pts w.heap.size (.cells #[.pointer (some ⟨v,0,none⟩)] 35)).star ((Pr.pts v (.cells #[.pointer (some ⟨x.p,0,none⟩),.map (some x.mb),.slice none 0 0,.int .i64 (s.floor+s.acts.length)] 71)).star ((PoolA x.p s.pool).star ((Row 158 2 x.av s.acts.length (actCells x.axs)).star ((Pr.own x.h).star (F.star ((PagesOwn lb lv (pagesIn s.pool 2)).star F2)))))))) W2:=hs2.perm (by ac_rfl)
  have gV:W2.cell? ⟨w.heap.size,0,none⟩=some (.pointer (some ⟨v,0,none⟩)):=by rw [cell_of_heap h1.right.pts_heap];rfl
  have gm:W2.cell? ⟨v,1,none⟩=some (.map (some x.mb)):=by rw [cell_of_heap h1.right.right.pts_heap];rfl
  have zV:=h1.right.lt
  have zv:=h1.right.right.lt
  have H1:=hQ h1
  clear h1 hs2
  gi_wp2_with (
   refine wpListIn_del rfl _ _ _ rfl Tryz.underlying3 Tryz.underlying68 y hno rfl rfl H1.out ?_
   intro w4 hs4 hg4
   have HS4:=hQ hs4
   have HG4:=hQ hg4
   clear hs4 hg4)
  refine⟨(Stays.refl W2).of_grown HG4.out,?_⟩
  dsimp only
  rw [gone_snoc]
  exact HS4.out.perm (by ac_rfl)
 case done=>
  intro D xs W2 hxs hst hs
  subst hxs
  have h10:Sat ((Pr.pts D (.deferred (some []))).star ((Pr.pts w.heap.size (.cells #[.pointer (some ⟨v,0,none⟩)] 35)).star ((Pr.pts v (.cells #[.pointer (some ⟨x.p,0,none⟩),.map (some x.mb),.slice none 0 0,.int .i64 (s.floor+s.acts.length)] 71)).star ((PoolA x.p s.pool).star ((MapA Tryz.prog 3 x.mb (gone x.f (pagesIn s.pool 2))).star ((Row 158 2 x.av s.acts.length (actCells x.axs)).star ((Pr.own x.h).star (F.star (PagesOwn lb lv (pagesIn s.pool 2)))))))))) W2:=hs.perm (by ac_rfl)
  have r0:W2.cell? ⟨w.heap.size,0,none⟩=some (.pointer (some ⟨v,0,none⟩)):=by rw [cell_of_heap h10.right.pts_heap];rfl
  have r1:W2.cell? ⟨v,0,none⟩=some (.pointer (some ⟨x.p,0,none⟩)):=by rw [cell_of_heap h10.right.right.pts_heap];rfl
  have zb:=h10.right.lt
  have zv:=h10.right.right.lt
  have PS:=hQ (psettle_any x.p s.pool _ _ (h10.perm (B:=((PoolA x.p s.pool).star ((Pr.pts D (.deferred (some []))).star ((Pr.pts w.heap.size (.cells #[.pointer (some ⟨v,0,none⟩)] 35)).star ((Pr.pts v (.cells #[.pointer (some ⟨x.p,0,none⟩),.map (some x.mb),.slice none 0 0,.int .i64 (s.floor+s.acts.length)] 71)).star ((MapA Tryz.prog 3 x.mb (gone x.f (pagesIn s.pool 2))).star ((Row 158 2 x.av s.acts.length (actCells x.axs)).star ((Pr.own x.h).star (F.star (PagesOwn lb lv (pagesIn s.pool 2))))))))))) (by ac_rfl)))
  have HST4:=hQ (HST3.out.trans hst)
  clear hs h10 hst
  go_wp2_with fail
  refine PS.out.mono ?_
  rintro e w5 ⟨rfl,hs7,st5⟩
  have h11:Sat ((Pr.pts D (.deferred (some []))).star ((Pr.pts w.heap.size (.cells #[.pointer (some ⟨v,0,none⟩)] 35)).star ((Row 158 2 x.av s.acts.length (actCells x.axs)).star ((PagesOwn lb lv (pagesIn s.pool 2)).star ((Pr.pts v (.cells #[.pointer (some ⟨x.p,0,none⟩),.map (some x.mb),.slice none 0 0,.int .i64 (s.floor+s.acts.length)] 71)).star ((PoolA x.p s.pool.settled).star ((MapA Tryz.prog 3 x.mb (gone x.f (pagesIn s.pool 2))).star ((Pr.own x.h).star F)))))))) w5:=hs7.perm (by ac_rfl)
  have H11:=hQ h11
  have HST5:=hQ (HST4.out.trans st5)
  clear hs7 h11 st5 PS
  go_wp2
  refine marks_end1 (D:=D) rfl H11.out.pts_heap ⟨_,results_none rfl _ _ _,rfl,?_,HST5.out.putObj _ _⟩
  have h12:=(H11.out.putObj (.deferred none)).right.right.right.right
  refine vaultA_iff.2 ⟨{ x with f:=gone x.f (pagesIn s.pool 2),av:= .slice none 0 0,axs:= [] },⟨?_,⟨rfl,fun i h1=>absurd h1 (by simp)⟩,?_,?_⟩,?_⟩
  · intro m
    have h13:=HOK.out.on m
    show (match (if s.pool.state m=2 then none else s.on m) with | none=>gone x.f (pagesIn s.pool 2) m=none | some g=> ∃v,gone x.f (pagesIn s.pool 2) m=some v∧PageIn x.h v g)
    unfold gone
    by_cases hm:s.pool.state m=2
    · rw [if_pos hm,if_pos (pages_mem.2 ⟨there_of_state (by omega),hm⟩)]
    · rw [if_neg hm,if_neg (fun h=>hm (pages_mem.1 h).2)]
      exact h13
  · show (0:Int)≤s.floor+s.acts.length
    omega
  · show s.floor+s.acts.length+((0:Nat):Int)≤ _
    omega
  · refine h12.perm ?_
    unfold VaultAt
    show _=(Pr.star (Pr.pts v (.cells #[.pointer (some ⟨x.p,0,none⟩),.map (some x.mb),.slice none 0 0,.int .i64 (s.floor+s.acts.length)] 71)) ((PoolA x.p s.pool.settled).star ((MapA Tryz.prog 3 x.mb (gone x.f (pagesIn s.pool 2))).star ((Row 158 2 (.slice none 0 0) 0 []).star (Pr.own x.h))))).star F
    rw [Row.nil,Pr.emp_star]
    ac_rfl
 case stop=>
  intro D c pre W2 _ hst hs
  exact(Sat.pure.1 (hs.perm (Pr.star_assoc _ _ _))).1.elim
end Go.Proofs.YtbobcmimkonnoaaGreat.T8
namespace Go.Proofs.YtbobcmimkonnoaaGreat.V8
open ChangeShapes WideShapes ChangeAt RowKit Sl Cop P3 Q3 F4 G4 Z5 F6 V6 S6 T7
structure Right(cs:List Int)(on:Int→Option PageV):Prop where
 ok:OnOk cs on
 full:∀n,cntL cs n≠0→∃g,on n=some g
 n2:cs.length≤65536
theorem right_new(n:Nat)(hn:n≤65536):Right (List.replicate n 0) fun _=>none:=by
 refine⟨OnOk.none _,fun m hm=>absurd ?_ hm,by simpa using hn⟩
 unfold cntL
 split
 · simp [List.getD_eq_getElem?_getD,List.getElem?_replicate]
   split<;>rfl
 · rfl
end Go.Proofs.YtbobcmimkonnoaaGreat.V8
namespace Go.Proofs.YtbobcmimkonnoaaGreat.X8
open ChangeShapes WideShapes ChangeAt RowKit Sl Cop K3 Q3 G2 M2 N2 U3 Y3 K4 W5 X3 V6
def markB(i:Nat):Int:=bits .xor .i64 165 (i:Int) % 256
def spareL(l:List Int):List Int:=l++(List.range 64).map fun i=>markB (l.length+i)
theorem spareL_len(l:List Int):(spareL l).length=l.length+64:=by simp [spareL]
theorem spareL_low {l:List Int}{k:Nat}(h:k<l.length):(spareL l)[k]'(by rw [spareL_len];omega)=l.getD k 0:=by
 unfold spareL
 rw [List.getElem_append_left h]
 simp [h]
theorem spareL_high {l:List Int}{k:Nat}(h:l.length≤k)(h2:k<l.length+64):(spareL l)[k]'(by rw [spareL_len];omega)=markB k:=by
 unfold spareL
 rw [List.getElem_append_right h]
 simp only [List.getElem_map,List.getElem_range]
 rw [show l.length+(k-l.length)=k by omega]
abbrev WholeRow(b:Nat)(l:List Int):Pr:=Row 5 1 (.slice (some ⟨b,0,none⟩) (l.length+64) (l.length+64)) (l.length+64) ((spareL l).map (Value.int .u8))
theorem row_made1 {F:Pr}{w:World}(T:Nat)(z:Value)(n:Nat)(hn:n≤maxLen)(h:Sat F w):
 Sat ((Row T 1 (.slice (some ⟨w.heap.size,0,none⟩) n n) n (List.replicate n z)).star F) (w.alloc (.cells (madeCells #[z] n) T)):=row_made T z n hn h
theorem spare_any(h:Hp)(v:Value)(l:List Int)(F:Pr)(w:World)(hF:Sat ((Pr.own h).star F) w)(hx:Bytes h v l)(hn:l.length≤140737488351232):
 Calls Tryz.prog 83 #[v] w fun e w'=> ∃b,e= .returned (.slice (some ⟨b,0,none⟩) l.length (l.length+64))∧Sat ((WholeRow b l).star ((Pr.own h).star F)) w'∧Stays w w':=by
 obtain⟨a,c,rfl,r1⟩:=bytes_rd hx
 obtain⟨i0,hi,hz0,hz1,hz2⟩:=info_parts infoByte
 have hmk:∀wx:World,(Instr.makeSlice 29 (.int .i64 ((l.length:Int)+64)) (.int .i64 ((l.length:Int)+64))).run Tryz.prog wx= .ok (.slice (some ⟨wx.heap.size,0,none⟩) (l.length+64) (l.length+64)) (wx.alloc (.cells (madeCells #[.int .u8 0] (l.length+64)) 5)):=by
  intro wx
  have:=run_make (P:=Tryz.prog) wx 29 5 i0 (.int .u8 0) Tryz.underlying29 hi hz0 .i64 .i64 ((l.length:Int)+64) ((l.length:Int)+64) (by omega) (by omega) (by rw [hz2];omega) (by omega)
  rw [hz1,show ((l.length:Int)+64).toNat=l.length+64 by omega,Nat.mul_one] at this
  exact this
 have h2:=hQ (row_made1 5 (.int .u8 0) (l.length+64) (by simp only [maxLen];omega) hF)
 have R1:=hQ r1
 have hn0:(l.length:Int)≤140737488351232:=by omega
 clear hF hx r1
 go_enter Tryz.func83,Tryz.ntmps83
 go_wp2
 go_loopw [4] (fun i wr=> ∃(k:Nat) (zs:List Int),k≤l.length+64∧i= .int .i64 k∧Stays w wr∧zs.length=l.length+64∧Hid (∀i,i<k→zs[i]? =(spareL l)[i]?)∧Sat ((Row 5 1 (.slice (some ⟨w.heap.size,0,none⟩) (l.length+64) (l.length+64)) (l.length+64) (zs.map (Value.int .u8))).star ((Pr.own h).star F)) wr) (fun i _=>l.length+64-(intOf i).toNat)
 case atStart=>
  refine⟨0,List.replicate (l.length+64) 0,Nat.zero_le _,rfl,(Stays.refl w).alloc _,by simp,hQ (fun i hi=>absurd hi (by omega)),?_⟩
  rw [List.map_replicate]
  exact h2.out
 case round=>
  obtain⟨k,zs,hk,rfl,hst,hzl,hfill,hs⟩:=hrel
  have HZL:=hQ hzl
  clear hzl
  rcases Nat.lt_or_ge k (l.length+64) with hlt | hge
  · obtain⟨_,_,e,_,hc⟩:=Row.read hs
    cases e
    obtain⟨b,eb,hd⟩:=hc (by omega)
    cases eb
    have k0:∃u,wr.cell? ⟨w.heap.size,k,none⟩=some u:=by
     have:=(hd k (by omega)).1
     rw [List.getElem?_eq_getElem (by rw [List.length_map,HZL.out];omega)] at this
     exact⟨_,this⟩
    obtain⟨u,k0⟩:=k0
    have kf:=(hd k (by omega)).2
    have kz:=World.block_lt_of_cell? _ _ k0
    clear hc hd
    have HS:=hQ hs
    have HSTK:=hQ hst
    clear hst
    rcases Nat.lt_or_ge k l.length with hl1 | hl1
    · obtain⟨b,off,rfl,c1⟩:=R1.out k hl1
      have q1:=c1 wr hs.right.own
      have HLO:=hQ (spareL_low hl1)
      clear c1 hs
      generalize l.getD k 0=x at*
      go_wp2
      refine⟨⟨k+1,zs.set k (x),by omega,congrArg (Value.int .i64) (by omega),HSTK.out.setCell _ _,by rw [List.length_set];exact HZL.out,hQ ?_,?_⟩,by simp [intOf];omega⟩
      · have e:x=(spareL l)[k]'(by rw [spareL_len];omega):=HLO.out.symm
        rw [e]
        exact fill_step (by rw [spareL_len];exact HZL.out) (by rw [spareL_len];exact hlt) hfill.out
      · rw [List.map_set]
        exact Row.set HS.out k (by rw [List.length_map,HZL.out];exact hlt) _
    · have HHI:=hQ (spareL_high hl1 hlt)
      clear hs
      go_wp2
      refine⟨⟨k+1,zs.set k (bits .xor .i64 165 (k:Int) % 256),by omega,congrArg (Value.int .i64) (by omega),HSTK.out.setCell _ _,by rw [List.length_set];exact HZL.out,hQ ?_,?_⟩,by simp [intOf];omega⟩
      · have e:bits .xor .i64 165 (k:Int) % 256=(spareL l)[k]'(by rw [spareL_len];omega):=HHI.out.symm
        rw [e]
        exact fill_step (by rw [spareL_len];exact HZL.out) (by rw [spareL_len];exact hlt) hfill.out
      · rw [List.map_set]
        exact Row.set HS.out k (by rw [List.length_map,HZL.out];exact hlt) _
  · have hkl:k=l.length+64:=by omega
    subst hkl
    have e1:zs=spareL l:=filled (by rw [spareL_len];exact HZL.out) (by intro i hi;rw [spareL_len] at hi;exact hfill.out i hi)
    subst e1
    have HS:=hQ hs
    have HSTK:=hQ hst
    clear hs hst hfill HZL
    go_wp2
    go_ret
    exact⟨w.heap.size,rfl,HS.out,HSTK.out⟩
end Go.Proofs.YtbobcmimkonnoaaGreat.X8
namespace Go.Proofs.YtbobcmimkonnoaaGreat.Y8
open ChangeShapes WideShapes ChangeAt RowKit Sl Cop K3 Q3 G2 M2 N2 U3 Y3 X3 C6 X8
theorem whole_bytes {b:Nat}{l:List Int}{hx:Hp}(h:WholeRow b l hx):Bytes hx (.slice (some ⟨b,0,none⟩) l.length (l.length+64)) l:=by
 obtain⟨_,a,c,e,h1,h2,h3⟩:=Row.rowIn h
 cases e
 refine⟨by simp,some ⟨b,0,none⟩,l.length+64,rfl,by omega,h2,fun _=>⟨b,0,rfl,fun i hi=> ?_⟩⟩
 obtain⟨b',off,eb,hc⟩:=h3 (by omega)
 cases eb
 rw [hc i (by omega)]
 have hi2:i<l.length:=by omega
 simp [spareL,List.getElem?_append_left,hi2]
theorem whole_at {b:Nat}{l:List Int}{F:Pr}{w:World}(h:Sat ((WholeRow b l).star F) w){k:Nat}(h1:l.length≤k)(h2:k<l.length+64):w.cell? ⟨b,k,none⟩=some (.int .u8 (markB k)):=by
 obtain⟨_,_,e,_,hc⟩:=Row.read h
 cases e
 obtain⟨b',eb,hd⟩:=hc (by omega)
 cases eb
 rw [(hd k (by omega)).1,List.getElem?_map,List.getElem?_eq_getElem (by rw [spareL_len];exact h2),spareL_high h1 h2]
 rfl
theorem kept_any(b:Nat)(l:List Int)(h:Hp)(v:Value)(hx:Bytes h v l)(hn:l.length≤140737488351232)(F:Pr)(w:World)(hF:Sat ((WholeRow b l).star ((Pr.own h).star F)) w):
 Calls Tryz.prog 91 #[.slice (some ⟨b,0,none⟩) l.length (l.length+64),v] w fun e w'=>e= .returned (.bool true)∧Only w w':=by
 obtain⟨a,ha,h2⟩:=hF.toOwn
 have EQ:=hQ (eq_same a h _ v l (whole_bytes ha) hx (by omega) w h2.own h2.right.own)
 obtain⟨av,cv,rfl⟩:=bytes_shape hx
 have HF:=hQ hF
 have hn0:(l.length:Int)≤140737488351232:=by omega
 clear hF ha h2 hx
 go_enter Tryz.func91,Tryz.ntmps91
 go_wp2_with fail
 refine EQ.out.mono ?_
 rintro e w1 ⟨rfl,ho1⟩
 go_wp2_with fail
 go_loopw [6] (fun i wr=> ∃k:Nat,l.length≤k∧k≤l.length+64∧i= .int .i64 k∧Only w wr) (fun i _=>l.length+64-(intOf i).toNat)
 case atStart=>exact⟨l.length,Nat.le_refl _,by omega,rfl,ho1⟩
 case round=>
  obtain⟨k,hk1,hk2,rfl,ho⟩:=hrel
  rcases Nat.lt_or_ge k (l.length+64) with hlt | hge
  · have q0:=whole_at (HF.out.only ho) hk1 hlt
    unfold markB at q0
    go_wp2
    go_roundw
    case rel=>exact⟨k+1,by omega,by omega,congrArg (Value.int .i64) (by omega),ho⟩
    case measure=>simp [intOf];omega
  · have hkl:k=l.length+64:=by omega
    subst hkl
    go_wp2
    go_ret
    exact⟨rfl,ho⟩
end Go.Proofs.YtbobcmimkonnoaaGreat.Y8
namespace Go.Proofs.YtbobcmimkonnoaaGreat.Z8
open ChangeShapes WideShapes ChangeAt RowKit Sl Cop K3 Q3 G2 M2 N2 U3 Y3 X3 X5 C6 X8 Y8
end Go.Proofs.YtbobcmimkonnoaaGreat.Z8
namespace Go.Proofs.YtbobcmimkonnoaaGreat.B9
open ChangeShapes WideShapes ChangeAt RowKit Sl Cop G2 M2 N2 U3 X3 B6 C6 X5
theorem eqitem_same(ha hb:Hp)(va vb:Value)(x:ItemV)(h1:ItemIn ha va x)(h2:ItemIn hb vb x)(hn:x.key.length≤9000000000000000000∧x.value.length≤9000000000000000000)(w:World)(l1:ha.le w)(l2:hb.le w):
 Calls Tryz.prog 21 #[va,vb] w fun e w'=>e= .returned (.bool true)∧Only w w':=by
 obtain⟨k1,v1,rfl,hk1,hv1⟩:=h1
 obtain⟨k2,v2,rfl,hk2,hv2⟩:=h2
 obtain⟨a1,c1,rfl⟩:=bytes_shape hk1
 obtain⟨a2,c2,rfl⟩:=bytes_shape hv1
 obtain⟨a3,c3,rfl⟩:=bytes_shape hk2
 obtain⟨a4,c4,rfl⟩:=bytes_shape hv2
 obtain⟨w0,hw0⟩:∃w0,(w.alloc (itemC (.slice a1 x.key.length c1) (.slice a2 x.value.length c2) x.child x.size)).alloc (itemC (.slice a3 x.key.length c3) (.slice a4 x.value.length c4) x.child x.size)=w0:=⟨_,rfl⟩
 have ho0:Only w w0:=hw0 ▸ ((Only.refl w).alloc _).alloc _
 have facts:∀wr,Only w0 wr→(wr.cell? ⟨w.heap.size,0,none⟩=some (.slice a1 x.key.length c1)∧wr.cell? ⟨w.heap.size,1,none⟩=some (.slice a2 x.value.length c2)∧wr.cell? ⟨w.heap.size,2,none⟩=some (.int .i64 x.child)∧wr.cell? ⟨w.heap.size,3,none⟩=some (.int .i64 x.size))∧
  (wr.cell? ⟨w.heap.size+1,0,none⟩=some (.slice a3 x.key.length c3)∧wr.cell? ⟨w.heap.size+1,1,none⟩=some (.slice a4 x.value.length c4)∧wr.cell? ⟨w.heap.size+1,2,none⟩=some (.int .i64 x.child)∧wr.cell? ⟨w.heap.size+1,3,none⟩=some (.int .i64 x.size))∧ha.le wr∧hb.le wr∧w.heap.size+1<wr.heap.size:=by
  intro wr ho
  subst hw0
  have s1:Sat ((Pr.pts w.heap.size (itemC (.slice a1 x.key.length c1) (.slice a2 x.value.length c2) x.child x.size)).star Pr.emp) (w.alloc (itemC (.slice a1 x.key.length c1) (.slice a2 x.value.length c2) x.child x.size)):=(sat_emp w).alloc _
  have s2:=s1.alloc (itemC (.slice a3 x.key.length c3) (.slice a4 x.value.length c4) x.child x.size)
  rw [show (w.alloc (itemC (.slice a1 x.key.length c1) (.slice a2 x.value.length c2) x.child x.size)).heap.size=w.heap.size+1 by simp] at s2
  have s3:=s2.only ho
  obtain⟨p0,p1,p2,p3,_,_⟩:=pts4 s3.right
  obtain⟨r0,r1,r2,r3,_,zz⟩:=pts4 s3
  exact⟨⟨p0,p1,p2,p3⟩,⟨r0,r1,r2,r3⟩,le_only (le_only l1 ho0) ho,le_only (le_only l2 ho0) ho,zz⟩
 have FA:=hQ facts
 have HO0:=hQ ho0
 have H1:=hQ (And.intro hk1 hv1)
 have H2:=hQ (And.intro hk2 hv2)
 clear facts ho0 hk1 hv1 hk2 hv2 l1 l2
 obtain⟨⟨p0,p1,p2,p3⟩,⟨r0,r1,r2,r3⟩,e1,e2,z⟩:=FA.out w0 (Only.refl _)
 go_enter Tryz.func21,Tryz.ntmps21
 go_wp2_with fail
 refine(eq_same ha hb _ _ x.key H1.out.1 H2.out.1 hn.1 _ e1 e2).mono ?_
 rintro e w1 ⟨rfl,ho1⟩
 clear p0 p1 p2 p3 r0 r1 r2 r3 e1 e2 z
 obtain⟨⟨p0,p1,p2,p3⟩,⟨r0,r1,r2,r3⟩,e1,e2,z⟩:=FA.out w1 ho1
 go_wp2_with fail
 refine(eq_same ha hb _ _ x.value H1.out.2 H2.out.2 hn.2 _ e1 e2).mono ?_
 rintro e w2 ⟨rfl,ho2⟩
 go_wp2
 go_ret
 exact⟨rfl,HO0.out.trans (ho1.trans ho2)⟩
theorem eqpage_same(ha hb:Hp)(va vb:Value)(g:PageV)(h1:PageIn ha va g)(h2:PageIn hb vb g)(hf:Fit g)(w:World)(l1:ha.le w)(l2:hb.le w):
 Calls Tryz.prog 66 #[va,vb] w fun e w'=>e= .returned (.bool true)∧Only w w':=by
 obtain⟨i1,d1,rfl,hi1,hd1⟩:=h1
 obtain⟨i2,d2,rfl,hi2,hd2⟩:=h2
 obtain⟨a1,c1,rfl,_,rd1⟩:=items_rd hi1
 obtain⟨a3,c3,rfl,_,rd2⟩:=items_rd hi2
 obtain⟨a2,c2,rfl⟩:=bytes_shape hd1
 obtain⟨a4,c4,rfl⟩:=bytes_shape hd2
 obtain⟨k,l,its,dat,nx⟩:=g
 dsimp only at*
 have hn1:(its.length:Int)≤8:=by have:=hf.n;dsimp only at this;omega
 have hdl:dat.length≤9000000000000000000:=by have:=hf.d;dsimp only at this;omega
 have hkk:∀y∈its,y.key.length≤9000000000000000000∧y.value.length≤9000000000000000000:=fun y hy=>by have:=hf.k y hy;omega
 obtain⟨w0,hw0⟩:∃w0,(w.alloc (pageC k l (.slice a1 its.length c1) (.slice a2 dat.length c2) nx)).alloc (pageC k l (.slice a3 its.length c3) (.slice a4 dat.length c4) nx)=w0:=⟨_,rfl⟩
 have ho0:Only w w0:=hw0 ▸ ((Only.refl w).alloc _).alloc _
 have facts:∀wr,Only w0 wr→(wr.cell? ⟨w.heap.size,0,none⟩=some (.int .i64 k)∧wr.cell? ⟨w.heap.size,1,none⟩=some (.int .i64 l)∧wr.cell? ⟨w.heap.size,2,none⟩=some (.slice a1 its.length c1)∧wr.cell? ⟨w.heap.size,3,none⟩=some (.slice a2 dat.length c2)∧wr.cell? ⟨w.heap.size,4,none⟩=some (.int .i64 nx))∧
  (wr.cell? ⟨w.heap.size+1,0,none⟩=some (.int .i64 k)∧wr.cell? ⟨w.heap.size+1,1,none⟩=some (.int .i64 l)∧wr.cell? ⟨w.heap.size+1,2,none⟩=some (.slice a3 its.length c3)∧wr.cell? ⟨w.heap.size+1,3,none⟩=some (.slice a4 dat.length c4)∧wr.cell? ⟨w.heap.size+1,4,none⟩=some (.int .i64 nx))∧ha.le wr∧hb.le wr∧w.heap.size+1<wr.heap.size:=by
  intro wr ho
  subst hw0
  have s1:Sat ((Pr.pts w.heap.size (pageC k l (.slice a1 its.length c1) (.slice a2 dat.length c2) nx)).star Pr.emp) (w.alloc (pageC k l (.slice a1 its.length c1) (.slice a2 dat.length c2) nx)):=(sat_emp w).alloc _
  have s2:=s1.alloc (pageC k l (.slice a3 its.length c3) (.slice a4 dat.length c4) nx)
  rw [show (w.alloc (pageC k l (.slice a1 its.length c1) (.slice a2 dat.length c2) nx)).heap.size=w.heap.size+1 by simp] at s2
  have s3:=s2.only ho
  obtain⟨p0,p1,p2,p3,p4,_,_⟩:=pts5 s3.right
  obtain⟨r0,r1,r2,r3,r4,_,zz⟩:=pts5 s3
  exact⟨⟨p0,p1,p2,p3,p4⟩,⟨r0,r1,r2,r3,r4⟩,le_only (le_only l1 ho0) ho,le_only (le_only l2 ho0) ho,zz⟩
 have FA:=hQ facts
 have HO0:=hQ ho0
 have RD1:=hQ rd1
 have RD2:=hQ rd2
 have HD1:=hQ hd1
 have HD2:=hQ hd2
 have HK:=hQ hkk
 clear facts ho0 rd1 rd2 hd1 hd2 hi1 hi2 l1 l2 hkk hf
 obtain⟨⟨p0,p1,p2,p3,p4⟩,⟨r0,r1,r2,r3,r4⟩,e1,e2,z⟩:=FA.out w0 (Only.refl _)
 go_enter Tryz.func66,Tryz.ntmps66
 go_wp2_with fail
 refine(eq_same ha hb _ _ dat HD1.out HD2.out hdl _ e1 e2).mono ?_
 rintro e w1 ⟨rfl,ho1⟩
 clear p0 p1 p2 p3 p4 r0 r1 r2 r3 r4 e1 e2 z
 go_wp2_with fail
 go_loopw [5] (fun i wr=> ∃r:Nat,r≤its.length∧i= .int .i64 r∧Only w0 wr) (fun i _=>its.length-(intOf i).toNat)
 case atStart=>exact⟨0,Nat.zero_le _,rfl,ho1⟩
 case round=>
  obtain⟨r,hr,rfl,ho⟩:=hrel
  obtain⟨⟨p0,p1,p2,p3,p4⟩,⟨r0,r1,r2,r3,r4⟩,e1,e2,z⟩:=FA.out wr ho
  rcases Nat.lt_or_ge r its.length with hlt | hge
  · obtain⟨b1,o1,ak1,ck1,av1,cv1,rfl,hbk1,hbv1,hc1⟩:=RD1.out r hlt
    obtain⟨b2,o2,ak2,ck2,av2,cv2,rfl,hbk2,hbv2,hc2⟩:=RD2.out r hlt
    obtain⟨s0,s1,s2,s3⟩:=hc1 wr e1
    obtain⟨t0,t1,t2,t3⟩:=hc2 wr e2
    have HX:=hQ (HK.out its[r] (List.getElem_mem hlt))
    have HC1:=hQ hc1
    have HC2:=hQ hc2
    have HO:=hQ ho
    clear hc1 hc2 ho
    generalize its[r]=x at*
    go_wp2_with fail
    refine wp_region_staged (sz:=61) (by kernel_rfl) [0,1,2,3,4,5,6,7,8,9] [(10,[11],[0,1,2,3,5,6,7,8])] rfl (by kernel_rfl) (by kernel_rfl) (by kernel_rfl) ?_
    refine wpQ_all _ rfl rfl ?_
    simp only [pick,pQ]
    iterate 10 (go_big_quiet_step (fail))
    refine wpQuiet_nil ?_
    refine wpRest_act rfl ?_
    go_wp2_with fail
    refine(eqitem_same ha hb _ _ x ⟨_,_,rfl,hbk1,hbv1⟩ ⟨_,_,rfl,hbk2,hbv2⟩ HX.out _ (le_only e1 ((Only.refl _).drew)) (le_only e2 ((Only.refl _).drew))).mono ?_
    rintro e w2 ⟨rfl,ho2⟩
    have HO2:=hQ (HO.out.drew.trans ho2)
    clear p0 p1 p2 p3 p4 r0 r1 r2 r3 r4 e1 e2 z s0 s1 s2 s3 t0 t1 t2 t3
    obtain⟨⟨p0,p1,p2,p3,p4⟩,⟨r0,r1,r2,r3,r4⟩,e1,e2,z⟩:=FA.out w2 HO2.out
    obtain⟨s0,s1,s2,s3⟩:=HC1.out w2 e1
    obtain⟨t0,t1,t2,t3⟩:=HC2.out w2 e2
    go_wp2
    refine onN_mk ?_
    refine wpQ_all _ rfl rfl ?_
    simp only [pick,pQ]
    iterate 1 (go_big_quiet_step (fail))
    refine wpQuiet_nil ⟨?_,?_⟩
    · refine chk_all _ rfl rfl ?_
      simp only [pick,Same,pQ,and_true]
      repeat' (first | apply And.intro | (go_big_quiet_step (fail);exact wpQuiet_nil rfl))
    refine wpRest_nil ?_
    go_wp2
    go_roundw
    case rel=>exact⟨r+1,by omega,congrArg (Value.int .i64) (by omega),HO2.out⟩
    case measure=>simp [intOf];omega
  · have hrl:r=its.length:=by omega
    subst hrl
    have HO:=hQ ho
    clear ho
    go_wp2
    go_ret
    exact⟨rfl,HO0.out.trans HO.out⟩
end Go.Proofs.YtbobcmimkonnoaaGreat.B9
namespace Go.Proofs.YtbobcmimkonnoaaGreat.C9
open ChangeShapes WideShapes ChangeAt RowKit Sl Cop K3 Q3 G2 M2 N2 U3 Y3 X3 X5 E6 N6 X8 Y8 Z8 S6 Q7 T7 U7
abbrev workC(v r:Nat)(bv wv tv xv:Value):Obj:= .cells #[.pointer (some ⟨v,0,none⟩),.pointer (some ⟨r,0,none⟩),bv,wv,tv,xv] 65
def x17(z:Int):Int:=bits .xor .u8 z 17
def xorK(k:Nat)(l:List Int):List Int:=(l.take k).map x17++l.drop k
theorem chain_len {look:Int→Option PageV}{N:Nat}:∀(k:Nat) (out:List Int) (n:Int),out.length≤N→(chainL look N k out n).1.length≤N
 | 0,out,n,h=>by unfold chainL;exact h
 | k+1,out,n,h=>by
   unfold chainL
   split
   · exact h
   · split
     · simp
     · split
       · simp
       · split
         · rename_i hc
           exact chain_len k _ _ (by have:=hc.1;rw [List.length_append];omega)
         · simp
abbrev XRow(b k:Nat)(l:List Int):Pr:=Row 5 1 (.slice (some ⟨b,0,none⟩) (l.length+64) (l.length+64)) (l.length+64) ((spareL (xorK k l)).map (Value.int .u8))
end Go.Proofs.YtbobcmimkonnoaaGreat.C9
