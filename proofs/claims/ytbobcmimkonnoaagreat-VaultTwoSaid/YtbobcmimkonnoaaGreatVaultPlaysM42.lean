/- The law's do, kind by kind; the conditions stand as hypotheses. -/
import Derived.Test.YtbobcmimkonnoaaGreatVaultPlaysM38
import Derived.Test.YtbobcmimkonnoaaGreatVaultPlaysM29
import Derived.Test.YtbobcmimkonnoaaGreatVaultPlaysM15
import Derived.Test.YtbobcmimkonnoaaGreatVaultPlaysM39
import Derived.Test.YtbobcmimkonnoaaGreatVaultPlaysM40
import Derived.Test.YtbobcmimkonnoaaGreatVaultPlaysM11
import Derived.Test.YtbobcmimkonnoaaGreatVaultPlaysM01
set_option maxRecDepth 100000
set_option maxHeartbeats 16000000
namespace Go.Proofs.YtbobcmimkonnoaaGreat.Xy
open ChangeShapes WideShapes ChangeAt RowKit Sl Cop D2 K3 N3 G2 M2 U3 Y3 J4 X3 Q8 X5 Y5 E6 F6 W6 Z6 K8 G4 N9 Dy Hy Ey Fy Gy U9 V9 Jy E9 L5 Qy Uy F5 P3
theorem doX_any(wb v r k:Nat)(z:LawS)(ok:LOK z k)(kind N K pk pl nx:Int)(ai ad:Option Addr)(mi ci md cd:Nat)(hK: -9223372036854775808≤K∧K≤9223372036854775807)(hkd:kind≠0∧kind≠1∧kind≠2∧kind≠3∧kind≠4∧kind≠5∧kind≠6∧kind≠7∧kind≠8∧kind≠9∧kind≠10∧kind≠11∧kind≠12∧kind≠13∧kind≠14∧kind≠15)(F:Pr)(w:World)(hF:OwnL (lawL wb v r z [F]) w):
 Calls Tryz.prog 10 #[.pointer (some ⟨wb,0,none⟩),.agg #[.int .i64 kind,.int .i64 N,.int .i64 K,.int .i64 pk,.int .i64 pl,.slice ai mi ci,.slice ad md cd,.int .i64 nx]] w fun e w'=>e= .returned (.bool true)∧Stays w w'∧DoneH wb v r k F w':=by
 obtain⟨s,H,rs,gs,fl,l,kv,ws,h,tv,xv,bs⟩:=z
 obtain⟨j,ll,wl,bk,wk⟩:=ok
 dsimp only at j ll wl bk wk
 have okp:=(vault_ok (hF.pull1 (A1:=VaultA v s))).1
 have hs1:=hF.alloc (opC11 kind N K pk pl (.slice ai mi ci) (.slice ad md cd) nx)
 have HST:=hQ ((Stays.refl w).alloc (opC11 kind N K pk pl (.slice ai mi ci) (.slice ad md cd) nx))
 have c1:=hs1.facts
 simp only [CellsAt,Nat.reduceAdd,and_true] at c1
 have HOK:=hQ (And.intro ll (And.intro wl (And.intro bk wk)))
 have HK:=hQ hK
 clear hK
 obtain⟨x,okx,hs2⟩:=vault_open (v:=v) (s:=s) hs1
 clear c1
 have c1:=hs2.facts
 simp only [CellsAt,Nat.reduceAdd,and_true] at c1
 obtain⟨yr,okr,hs3⟩:=refH_open (r:=r) (s:=rs) (gs:=gs) (fl:=fl) (l:=l) hs2
 obtain⟨ac,cc,ecv⟩:=Row.shape (hs3.pull1 (A1:=IntsRow yr.cv rs.counts))
 clear c1
 have c1:=hs3.facts
 simp only [CellsAt,Nat.reduceAdd,and_true] at c1
 rw [ecv] at c1
 have LA:=hQ (len_A x.p s.pool _ _ (hs3.drew.pull1 (A1:=PoolA x.p s.pool)))
 have RA:=hQ (refs_any x.p s.pool _ _ (hs3.drew.pull1 (A1:=PoolA x.p s.pool)))
 rw [← j.now.tw.cs] at LA
 rw [← j.now.tw.rf] at RA
 have hn2:(rs.counts.length:Int)≤65536:=by have:=okr.now.n2;omega
 have HS2:=hQ hs2
 have HOX:=hQ okx
 have HJ:=hQ j
 obtain⟨k0,k1,k2,k3,k4,k5,k6,k7,k8,k9,k10,k11,k12,k13,k14,k15⟩:=hkd
 clear hF hs1 hs2 hs3 j ll wl bk wk okp okx okr ecv
 go_enter Tryz.func10,Tryz.ntmps10
 go_wp2_with fail
 refine wp_region_staged (sz:=396) (by kernel_rfl) [0,1,2,3,4,5,6,8,9,10,11,12,13,14,15] [(7,[16,17,18,19,20,21,22,23,24,26,27,28,29,30,31,32],[0,1,2,3,4,5,8,9,10,11,12,13,14,15]),(25,[33,34,35],[0,1,2,3,4,5,8,9,10,11,12,13,14,16,18,19,20,21,22,23,26,27,28,29,30,31,32,15])] rfl (by kernel_rfl) (by kernel_rfl) (by kernel_rfl) ?_
 refine wpQ_cut [0,1,2,3,4,5,6,8,9,10,11,12,13,14] [15] ?_
 refine wpQ_all _ rfl rfl ?_
 simp only [pick,pQ]
 iterate 14 (go_big_quiet_step (fail))
 refine wpQuiet_nil ?_
 refine wpQ_step rfl rfl (fun K hK=> ?_)
 go_simp
 refine hK _ ?_
 clear hK K
 refine wpQ_nil ?_
 refine wpRest_act rfl ?_
 go_wp2_with fail
 refine LA.out.mono ?_
 rintro e w1 ⟨rfl,rfl⟩
 go_wp2
 refine onN_mk ?_
 refine wpQ_all _ rfl rfl ?_
 simp only [pick,pQ]
 iterate 16 (go_big_quiet_step (fail))
 refine wpQuiet_nil ⟨?_,?_⟩
 · refine chk_cut [0,1,2,3,4,5,8,9,10,11,12,13,14] [15] ?_ (chk_cons (yieldF_of rfl rfl rfl rfl (by go_simp)) chk_nil)
   refine chk_all _ rfl rfl ?_
   simp only [pick,Same,pQ,and_true]
   repeat' (first | apply And.intro | (go_big_quiet_step (fail);exact wpQuiet_nil rfl))
 refine wpRest_act rfl ?_
 go_wp2_with fail
 refine RA.out.mono ?_
 rintro e w1 ⟨rfl,rfl⟩
 go_wp2
 refine onN_mk ?_
 refine wpQ_all _ rfl rfl ?_
 simp only [pick,pQ]
 iterate 3 (go_big_quiet_step (fail))
 refine wpQuiet_nil ⟨?_,?_⟩
 · refine chk_cut [0,1,2,3,4,5,8,9,10,11,12,13,14,16,18,19,20,21,22,23,26,27,28,29,30,31,32] [15] ?_ (chk_cons (yieldF_of rfl rfl rfl rfl (by go_simp)) chk_nil)
   refine chk_all _ rfl rfl ?_
   simp only [pick,Same,pQ,and_true]
   repeat' (first | apply And.intro | (go_big_quiet_step (fail);exact wpQuiet_nil rfl))
 refine wpRest_nil ?_
 go_wp2
 go_ret
 obtain⟨ll,wl,bk,wk⟩:=HOK.out
 exact⟨by simp,HST.out.drew,⟨s,H,rs,gs,fl,l,kv,ws,h,tv,xv,bs⟩,⟨HJ.out,ll,wl,bk,wk⟩,(vault_shut (v:=v) HOX.out HS2.out.drew).to⟩
end Go.Proofs.YtbobcmimkonnoaaGreat.Xy
namespace Go.Proofs.YtbobcmimkonnoaaGreat.Yy
open ChangeShapes WideShapes ChangeAt RowKit Sl Cop D2 K3 N3 G2 M2 U3 Y3 J4 X3 Q8 X5 Y5 E6 F6 W6 Z6 K8 G4 N9 Dy Hy Ey Fy Gy U9 V9 Jy E9 L5 Qy
theorem lundo_any(wb v r k:Nat)(z:LawS)(ok:LOK z k)(kind N K pk pl nx:Int)(ai ad:Option Addr)(mi ci md cd:Nat)(hK: -9223372036854775808≤K∧K≤9223372036854775807)(F:Pr)(w:World)(hF:OwnL (lawL wb v r z [F]) w):
 Calls Tryz.prog 56 #[.pointer (some ⟨wb,0,none⟩),.agg #[.int .i64 kind,.int .i64 N,.int .i64 K,.int .i64 pk,.int .i64 pl,.slice ai mi ci,.slice ad md cd,.int .i64 nx]] w fun e w'=>e= .returned (.bool true)∧Stays w w'∧DoneH wb v r k F w':=by
 obtain⟨s,H,rs,gs,fl,l,kv,ws,h,tv,xv,bs⟩:=z
 obtain⟨j,ll,wl,bk,wk⟩:=ok
 dsimp only at j ll wl bk wk
 have hb:=Join.bound j (hF.pull1 (A1:=VaultA v s))
 have hs1:=hF.alloc (opC11 kind N K pk pl (.slice ai mi ci) (.slice ad md cd) nx)
 have HST:=hQ ((Stays.refl w).alloc (opC11 kind N K pk pl (.slice ai mi ci) (.slice ad md cd) nx))
 have c1:=hs1.facts
 simp only [CellsAt,Nat.reduceAdd,and_true] at c1
 have HOK:=hQ (And.intro ll (And.intro wl (And.intro bk wk)))
 have HJ:=hQ j
 have HB:=hQ hb
 have HS1:=hQ hs1
 by_cases hk0:0≤K
 · obtain⟨mk,hmk⟩:∃mk,fl+(l.length:Int)=mk:=⟨_,rfl⟩
   have MR:=hQ (rmarkH_any r rs gs fl l hb _ _ (hs1.drew.pull1 (A1:=RefH r rs gs fl l)))
   rw [hmk] at MR hb
   have hm0:0≤mk:=by
    obtain⟨_,b1,_⟩:=vault_ok (hF.pull1 (A1:=VaultA v s))
    have:=j.fe
    omega
   have hr1: -9223372036854775808≤mk-K:=by omega
   have hr2:mk-K≤9223372036854775807:=by omega
   clear hF hs1 j ll wl bk wk hb hmk
   go_enter Tryz.func56,Tryz.ntmps56
   go_wp2_with fail
   refine wp_region_staged (sz:=47) (by kernel_rfl) [0,1,2,3,5,6] [(4,[7,8],[0,1,2,5,6])] rfl (by kernel_rfl) (by kernel_rfl) (by kernel_rfl) ?_
   refine wpQ_all _ rfl rfl ?_
   simp only [pick,pQ]
   iterate 6 (go_big_quiet_step (fail))
   refine wpQuiet_nil ?_
   refine wpRest_act rfl ?_
   go_wp2_with fail
   refine MR.out.mono ?_
   rintro e w1 ⟨rfl,nn,rfl⟩
   go_wp2
   refine onN_mk ?_
   refine wpQ_all _ rfl rfl ?_
   simp only [pick,pQ]
   iterate 2 (go_big_quiet_step (fail))
   refine wpQuiet_nil ⟨?_,?_⟩
   · refine chk_all _ rfl rfl ?_
     simp only [pick,Same,pQ,and_true]
     repeat' (first | apply And.intro | (go_big_quiet_step (fail);exact wpQuiet_nil rfl))
   refine wpRest_nil ?_
   generalize mk-K=tq at*
   have hs2:=HS1.out.drewN (1+nn)
   have HST1:=hQ (HST.out.drewN (1+nn))
   clear HST HS1 MR
   obtain⟨b,Q,hV,hR⟩:=pair_undo (v:=v) (r:=r) HJ.out HB.out tq
   have hbb:(b == b)=true:=by simp
   have V:=hQ (hV _ _ (hs2.pull1 (A1:=VaultA v s)))
   have HR:=hQ hR
   clear hV hR hs2
   go_wp2_with fail
   refine V.out.mono ?_
   rintro e w3 ⟨s',H',hq,rfl,st3,hs3⟩
   have hs4:=OwnL.of1 hs3
   clear c1
   have c1:=hs4.facts
   simp only [CellsAt,Nat.reduceAdd,and_true] at c1
   have R:=hQ (HR.out s' H' hq _ _ (hs4.drew.pull1 (A1:=RefH r rs gs fl l)))
   have HST3:=hQ (HST1.out.trans st3)
   clear hs3 hs4 st3 V HR HST1 hq
   go_wp2_with fail
   refine wp_region_staged (sz:=47) (by kernel_rfl) [0,1,2,3,4,5] [(6,[7,8,9,10,11,12,14,15,16,17],[0,1,2,3]),(13,[],[0,1,2,3,7,9,10,11,14,15,16,17]),(18,[19,20,21],[0,1,2,3,7,9,10,11,14,15,16])] rfl (by kernel_rfl) (by kernel_rfl) (by kernel_rfl) ?_
   refine wpQ_all _ rfl rfl ?_
   simp only [pick,pQ]
   iterate 6 (go_big_quiet_step (fail))
   refine wpQuiet_nil ?_
   refine wpRest_act rfl ?_
   go_wp2_with fail
   refine R.out.mono ?_
   rintro e w4 ⟨rfl,st4,rs',gs',l',j',hl',hs5⟩
   have hs6:=OwnL.of1 hs5
   clear c1
   have c1:=hs6.facts
   simp only [CellsAt,Nat.reduceAdd,and_true] at c1
   have hb':=Join.bound j' (hs6.pull1 (A1:=VaultA v s'))
   have MV:=hQ (vmark_A v s' _ _ (hs6.pull1 (A1:=VaultA v s')))
   rw [j'.len.2, ← j'.fe] at MV
   have HST4:=hQ (HST3.out.drew.trans st4)
   have HS6:=hQ hs6
   have HJ':=hQ (And.intro j' hl')
   have HB':=hQ hb'
   clear hs5 hs6 st4 R HST3 j' hl' hb'
   go_wp2
   refine onN_mk ?_
   refine wpQ_all _ rfl rfl ?_
   simp only [pick,pQ]
   iterate 10 (go_big_quiet_step (fail))
   refine wpQuiet_nil ⟨?_,?_⟩
   · refine chk_all _ rfl rfl ?_
     simp only [pick,Same,pQ,and_true]
     repeat' (first | apply And.intro | (go_big_quiet_step (fail);exact wpQuiet_nil rfl))
   refine wpRest_act rfl ?_
   go_wp2_with fail
   refine MV.out.mono ?_
   rintro e w5 ⟨rfl,ho⟩
   have hs7:OwnL _ w5:=⟨HS6.out.sat.only ho⟩
   clear c1
   have c1:=hs7.facts
   simp only [CellsAt,Nat.reduceAdd,and_true] at c1
   have MR2:=hQ (rmarkH_any r rs' gs' fl l' HB'.out _ _ (hs7.pull1 (A1:=RefH r rs' gs' fl l')))
   have HST5:=hQ (HST4.out.trans ho.st)
   have HS7:=hQ hs7
   clear hs7 ho HS6 HST4 MV
   go_wp2
   refine onN_mk ?_
   refine wpQ_nil ⟨?_,?_⟩
   · refine chk_all _ rfl rfl ?_
     simp only [pick,Same,pQ,and_true]
     repeat' (first | apply And.intro | (go_big_quiet_step (fail);exact wpQuiet_nil rfl))
   refine wpRest_act rfl ?_
   go_wp2_with fail
   refine MR2.out.mono ?_
   rintro e w6 ⟨rfl,n2,rfl⟩
   go_wp2
   refine onN_mk ?_
   refine wpQ_all _ rfl rfl ?_
   simp only [pick,pQ]
   iterate 3 (go_big_quiet_step (fail))
   refine wpQuiet_nil ⟨?_,?_⟩
   · refine chk_all _ rfl rfl ?_
     simp only [pick,Same,pQ,and_true]
     repeat' (first | apply And.intro | (go_big_quiet_step (fail);exact wpQuiet_nil rfl))
   refine wpRest_nil ?_
   go_wp2
   go_ret
   obtain⟨ll,wl,bk,wk⟩:=HOK.out
   have hl2:=HJ'.out.2
   exact⟨by simp,HST5.out.drewN n2,⟨s',H',rs',gs',fl,l',kv,ws,h,tv,xv,bs⟩,⟨HJ'.out.1,by show l'.length+k≤ _;omega,wl,bk,wk⟩,(HS7.out.drewN n2).to⟩
 · clear hF hs1 j ll wl bk wk hb
   go_enter Tryz.func56,Tryz.ntmps56
   go_wp2_with fail
   obtain⟨tq,hto⟩:∃tq,tq=N:=⟨_,rfl⟩
   have hs2:=HS1.out
   have HST1:=hQ HST.out
   clear HST HS1
   subst hto
   obtain⟨b,Q,hV,hR⟩:=pair_undo (v:=v) (r:=r) HJ.out HB.out tq
   have hbb:(b == b)=true:=by simp
   have V:=hQ (hV _ _ (hs2.pull1 (A1:=VaultA v s)))
   have HR:=hQ hR
   clear hV hR hs2
   go_wp2_with fail
   refine V.out.mono ?_
   rintro e w3 ⟨s',H',hq,rfl,st3,hs3⟩
   have hs4:=OwnL.of1 hs3
   clear c1
   have c1:=hs4.facts
   simp only [CellsAt,Nat.reduceAdd,and_true] at c1
   have R:=hQ (HR.out s' H' hq _ _ (hs4.drew.pull1 (A1:=RefH r rs gs fl l)))
   have HST3:=hQ (HST1.out.trans st3)
   clear hs3 hs4 st3 V HR HST1 hq
   go_wp2_with fail
   refine wp_region_staged (sz:=47) (by kernel_rfl) [0,1,2,3,4,5] [(6,[7,8,9,10,11,12,14,15,16,17],[0,1,2,3]),(13,[],[0,1,2,3,7,9,10,11,14,15,16,17]),(18,[19,20,21],[0,1,2,3,7,9,10,11,14,15,16])] rfl (by kernel_rfl) (by kernel_rfl) (by kernel_rfl) ?_
   refine wpQ_all _ rfl rfl ?_
   simp only [pick,pQ]
   iterate 6 (go_big_quiet_step (fail))
   refine wpQuiet_nil ?_
   refine wpRest_act rfl ?_
   go_wp2_with fail
   refine R.out.mono ?_
   rintro e w4 ⟨rfl,st4,rs',gs',l',j',hl',hs5⟩
   have hs6:=OwnL.of1 hs5
   clear c1
   have c1:=hs6.facts
   simp only [CellsAt,Nat.reduceAdd,and_true] at c1
   have hb':=Join.bound j' (hs6.pull1 (A1:=VaultA v s'))
   have MV:=hQ (vmark_A v s' _ _ (hs6.pull1 (A1:=VaultA v s')))
   rw [j'.len.2, ← j'.fe] at MV
   have HST4:=hQ (HST3.out.drew.trans st4)
   have HS6:=hQ hs6
   have HJ':=hQ (And.intro j' hl')
   have HB':=hQ hb'
   clear hs5 hs6 st4 R HST3 j' hl' hb'
   go_wp2
   refine onN_mk ?_
   refine wpQ_all _ rfl rfl ?_
   simp only [pick,pQ]
   iterate 10 (go_big_quiet_step (fail))
   refine wpQuiet_nil ⟨?_,?_⟩
   · refine chk_all _ rfl rfl ?_
     simp only [pick,Same,pQ,and_true]
     repeat' (first | apply And.intro | (go_big_quiet_step (fail);exact wpQuiet_nil rfl))
   refine wpRest_act rfl ?_
   go_wp2_with fail
   refine MV.out.mono ?_
   rintro e w5 ⟨rfl,ho⟩
   have hs7:OwnL _ w5:=⟨HS6.out.sat.only ho⟩
   clear c1
   have c1:=hs7.facts
   simp only [CellsAt,Nat.reduceAdd,and_true] at c1
   have MR2:=hQ (rmarkH_any r rs' gs' fl l' HB'.out _ _ (hs7.pull1 (A1:=RefH r rs' gs' fl l')))
   have HST5:=hQ (HST4.out.trans ho.st)
   have HS7:=hQ hs7
   clear hs7 ho HS6 HST4 MV
   go_wp2
   refine onN_mk ?_
   refine wpQ_nil ⟨?_,?_⟩
   · refine chk_all _ rfl rfl ?_
     simp only [pick,Same,pQ,and_true]
     repeat' (first | apply And.intro | (go_big_quiet_step (fail);exact wpQuiet_nil rfl))
   refine wpRest_act rfl ?_
   go_wp2_with fail
   refine MR2.out.mono ?_
   rintro e w6 ⟨rfl,n2,rfl⟩
   go_wp2
   refine onN_mk ?_
   refine wpQ_all _ rfl rfl ?_
   simp only [pick,pQ]
   iterate 3 (go_big_quiet_step (fail))
   refine wpQuiet_nil ⟨?_,?_⟩
   · refine chk_all _ rfl rfl ?_
     simp only [pick,Same,pQ,and_true]
     repeat' (first | apply And.intro | (go_big_quiet_step (fail);exact wpQuiet_nil rfl))
   refine wpRest_nil ?_
   go_wp2
   go_ret
   obtain⟨ll,wl,bk,wk⟩:=HOK.out
   have hl2:=HJ'.out.2
   exact⟨by simp,HST5.out.drewN n2,⟨s',H',rs',gs',fl,l',kv,ws,h,tv,xv,bs⟩,⟨HJ'.out.1,by show l'.length+k≤ _;omega,wl,bk,wk⟩,(HS7.out.drewN n2).to⟩
theorem do12_any(wb v r k:Nat)(z:LawS)(ok:LOK z k)(kind N K pk pl nx:Int)(ai ad:Option Addr)(mi ci md cd:Nat)(hK: -9223372036854775808≤K∧K≤9223372036854775807)(hkd:kind=12)(F:Pr)(w:World)(hF:OwnL (lawL wb v r z [F]) w):
 Calls Tryz.prog 10 #[.pointer (some ⟨wb,0,none⟩),.agg #[.int .i64 kind,.int .i64 N,.int .i64 K,.int .i64 pk,.int .i64 pl,.slice ai mi ci,.slice ad md cd,.int .i64 nx]] w fun e w'=>e= .returned (.bool true)∧Stays w w'∧DoneH wb v r k F w':=by
 obtain⟨s,H,rs,gs,fl,l,kv,ws,h,tv,xv,bs⟩:=z
 obtain⟨j,ll,wl,bk,wk⟩:=ok
 dsimp only at j ll wl bk wk
 have okp:=(vault_ok (hF.pull1 (A1:=VaultA v s))).1
 have hs1:=hF.alloc (opC11 kind N K pk pl (.slice ai mi ci) (.slice ad md cd) nx)
 have HST:=hQ ((Stays.refl w).alloc (opC11 kind N K pk pl (.slice ai mi ci) (.slice ad md cd) nx))
 have c1:=hs1.facts
 simp only [CellsAt,Nat.reduceAdd,and_true] at c1
 have HOK:=hQ (And.intro ll (And.intro wl (And.intro bk wk)))
 have HK:=hQ hK
 clear hK
 have X:=hQ (lundo_any wb v r k ⟨s,H,rs,gs,fl,l,kv,ws,h,tv,xv,bs⟩ ⟨j,ll,wl,bk,wk⟩ kind N K pk pl nx ai ad mi ci md cd HK.out (starL [Pr.pts w.heap.size (opC11 kind N K pk pl (.slice ai mi ci) (.slice ad md cd) nx),F]) _
  ⟨(hs1.to (M:= [VaultA v s,RefH r rs gs fl l,workO wb v r kv tv xv,BRest tv xv bs,WksRow kv ws,Pr.own h,Pr.pts w.heap.size (opC11 kind N K pk pl (.slice ai mi ci) (.slice ad md cd) nx),F])).sat.perm (by simp only [starL,Pr.star_emp])⟩)
 subst hkd
 clear hF hs1 j ll wl bk wk okp
 go_enter Tryz.func10,Tryz.ntmps10
 go_wp2_with fail
 refine X.out.mono ?_
 rintro e w1 ⟨rfl,st1,z',ok',hs2⟩
 have HS2:=hQ hs2
 have HOK':=hQ ok'
 have HST1:=hQ (HST.out.trans st1)
 clear hs2 ok' st1 X c1
 go_wp2
 go_ret
 exact⟨rfl,HST1.out,z',HOK'.out,(HS2.out.flat).to⟩
end Go.Proofs.YtbobcmimkonnoaaGreat.Yy
namespace Go.Proofs.YtbobcmimkonnoaaGreat.Zy
open ChangeShapes WideShapes ChangeAt RowKit Sl Cop D2 K3 N3 G2 M2 U3 Y3 J4 X3 Q8 X5 Y5 E6 F6 W6 Z6 K8 G4 N9 Dy Hy Ey Fy Gy U9 V9 Jy E9 L5 Qy
theorem do10_any(wb v r k:Nat)(z:LawS)(ok:LOK z k)(kind N K pk pl nx:Int)(ai ad:Option Addr)(mi ci md cd:Nat)(hK: -9223372036854775808≤K∧K≤9223372036854775807)(hkd:kind=10)(F:Pr)(w:World)(hF:OwnL (lawL wb v r z [F]) w):
 Calls Tryz.prog 10 #[.pointer (some ⟨wb,0,none⟩),.agg #[.int .i64 kind,.int .i64 N,.int .i64 K,.int .i64 pk,.int .i64 pl,.slice ai mi ci,.slice ad md cd,.int .i64 nx]] w fun e w'=>e= .returned (.bool true)∧Stays w w'∧DoneH wb v r k F w':=by
 obtain⟨s,H,rs,gs,fl,l,kv,ws,h,tv,xv,bs⟩:=z
 obtain⟨j,ll,wl,bk,wk⟩:=ok
 dsimp only at j ll wl bk wk
 have okp:=(vault_ok (hF.pull1 (A1:=VaultA v s))).1
 have hs1:=hF.alloc (opC11 kind N K pk pl (.slice ai mi ci) (.slice ad md cd) nx)
 have HST:=hQ ((Stays.refl w).alloc (opC11 kind N K pk pl (.slice ai mi ci) (.slice ad md cd) nx))
 have c1:=hs1.facts
 simp only [CellsAt,Nat.reduceAdd,and_true] at c1
 have HOK:=hQ (And.intro ll (And.intro wl (And.intro bk wk)))
 have HK:=hQ hK
 clear hK
 have V:=hQ (vpages_any v s N j.now.tw.fit _ _ (hs1.drew.pull1 (A1:=VaultA v s)))
 have HL:=hQ (And.intro (nums_same j.now.tw N) (And.intro (nums_fit j.now.tw.fit (pagesIn s.pool N)) (show (numsOf s (pagesIn s.pool N)).length≤65536 by
  unfold numsOf
  rw [List.length_map]
  exact Nat.le_trans (pagesTo_len _ _ _) okp.n2)))
 have HJ:=hQ j
 obtain⟨L,hL⟩:∃L,numsOf s (pagesIn s.pool N)=L:=⟨_,rfl⟩
 rw [hL] at V HL
 subst hkd
 clear hF hs1 j ll wl bk wk okp hL
 go_enter Tryz.func10,Tryz.ntmps10
 go_wp2_with fail
 refine wp_region_staged (sz:=396) (by kernel_rfl) [0,1,2,3,4,5,6,8,9,10,11,12,13,15,16] [(7,[],[0,1,2,3,5,8,9,10,11,12,13,15,16]),(14,[],[0,1,2,3,5,8,9,10,12,15,16]),(17,[18],[1,2,3,5,8,9,10,12,15])] rfl (by kernel_rfl) (by kernel_rfl) (by kernel_rfl) ?_
 refine wpQ_all _ rfl rfl ?_
 simp only [pick,pQ]
 iterate 15 (go_big_quiet_step (fail))
 refine wpQuiet_nil ?_
 refine wpRest_act rfl ?_
 go_wp2_with fail
 refine V.out.mono ?_
 rintro e w1 ⟨st1,h1,fv,rfl,hwk,hs2⟩
 have hs3:=OwnL.of2 hs2
 clear c1
 have c1:=hs3.facts
 simp only [CellsAt,Nat.reduceAdd,and_true] at c1
 have R:=hQ (rpagesH_any r rs gs fl l N _ _ (hs3.pull1 (A1:=RefH r rs gs fl l)))
 rw [← HL.out.1] at R
 have HWK:=hQ hwk
 have HST1:=hQ (HST.out.drew.trans st1)
 clear hs2 hs3 st1 V HST hwk
 go_wp2
 refine onN_mk ?_
 refine wpQ_nil ⟨?_,?_⟩
 · refine chk_all _ rfl rfl ?_
   simp only [pick,Same,pQ,and_true]
   repeat' (first | apply And.intro | (go_big_quiet_step (fail);exact wpQuiet_nil rfl))
 refine wpRest_act rfl ?_
 go_wp2_with fail
 refine R.out.mono ?_
 rintro e w2 ⟨st2,lv,h2,rfl,hwn,hs4⟩
 have hs5:=OwnL.of2 hs4
 clear c1
 have c1:=hs5.facts
 simp only [CellsAt,Nat.reduceAdd,and_true] at c1
 obtain⟨ll,wl,bk,wk⟩:=HOK.out
 obtain⟨hd1,hs6⟩:=(hs5.pull2 (A1:=Pr.own h) (A2:=Pr.own h1)).own_join
 obtain⟨hd2,hs7⟩:=((OwnL.of1 hs6).pull2 (A1:=Pr.own (h.un h1)) (A2:=Pr.own h2)).own_join
 have hsub:h.sub ((h.un h1).un h2):=(Hp.sub_un_left h h1).trans (Hp.sub_un_left (h.un h1) h2)
 have hs8:=book_close (h:=(h.un h1).un h2) (wb:=wb) (v:=v) (r:=r) (kv:=kv) (tv:=tv) (xv:=xv) (bs:=bs) (bk.sub hsub) (OwnL.of1 hs7)
 have hwk2:=HWK.out.sub ((Hp.sub_un_right hd1).trans (Hp.sub_un_left (h.un h1) h2))
 obtain⟨xs2,y1,y2,y3⟩:=hwn
 have hwn2:NumsIn ((h.un h1).un h2) lv L:=⟨xs2,y1,y2.sub (Hp.sub_un_right hd2),fun i hx hl=>⟨(y3 i hx hl).1.sub (Hp.sub_un_right hd2),(y3 i hx hl).2.sub (Hp.sub_un_right hd2)⟩⟩
 have GO:=hQ (goes_any wb v r kv ((h.un h1).un h2) fv lv L hwk2 hwn2 HL.out.2.1 HL.out.2.2 K _ _ (hs8.pull2 (A1:=BookE wb v r kv ((h.un h1).un h2)) (A2:=Pr.own ((h.un h1).un h2))))
 have HSUB:=hQ hsub
 have HST2:=hQ (HST1.out.trans st2)
 clear hs4 hs5 hs6 hs7 hs8 hd1 hd2 hsub hwk2 hwn2 y1 y2 y3 ll wl bk wk st2 R HST1 HWK
 go_wp2
 refine onN_mk ?_
 refine wpQ_nil ⟨?_,?_⟩
 · refine chk_all _ rfl rfl ?_
   simp only [pick,Same,pQ,and_true]
   repeat' (first | apply And.intro | (go_big_quiet_step (fail);exact wpQuiet_nil rfl))
 refine wpRest_act rfl ?_
 go_wp2_with fail
 refine GO.out.mono ?_
 rintro e w3 ⟨rfl,st3,hs9⟩
 obtain⟨tv2,xv2,bs2,bk2,hs10⟩:=book_open (wb:=wb) (v:=v) (r:=r) (kv:=kv) (h:=(h.un h1).un h2) (OwnL.of2 hs9)
 clear c1
 have c1:=hs10.facts
 simp only [CellsAt,Nat.reduceAdd,and_true] at c1
 have HS10:=hQ hs10
 have HST3:=hQ (HST2.out.trans st3)
 have HBK:=hQ bk2
 clear hs9 hs10 st3 bk2 GO HST2
 go_wp2
 refine onN_mk ?_
 refine wpQ_all _ rfl rfl ?_
 simp only [pick,pQ]
 iterate 1 (go_big_quiet_step (fail))
 refine wpQuiet_nil ⟨?_,?_⟩
 · refine chk_all _ rfl rfl ?_
   simp only [pick,Same,pQ,and_true]
   repeat' (first | apply And.intro | (go_big_quiet_step (fail);exact wpQuiet_nil rfl))
 refine wpRest_nil ?_
 go_wp2
 go_ret
 obtain⟨ll,wl,bk,wk⟩:=HOK.out
 exact⟨rfl,HST3.out,⟨s,H,rs,gs,fl,l,kv,ws,(h.un h1).un h2,tv2,xv2,bs2⟩,⟨HJ.out,ll,wl,HBK.out,fun x hx=>(wk x hx).sub HSUB.out⟩,HS10.out.to⟩
end Go.Proofs.YtbobcmimkonnoaaGreat.Zy
