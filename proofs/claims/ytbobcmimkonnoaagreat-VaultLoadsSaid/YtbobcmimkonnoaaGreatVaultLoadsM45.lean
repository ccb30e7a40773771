/- The law's do, kind by kind; the conditions stand as hypotheses. -/
import Derived.Test.YtbobcmimkonnoaaGreatVaultLoadsM42
import Derived.Test.YtbobcmimkonnoaaGreatVaultLoadsM34
import Derived.Test.YtbobcmimkonnoaaGreatVaultLoadsM04
import Derived.Test.YtbobcmimkonnoaaGreatVaultLoadsM12
import Derived.Test.YtbobcmimkonnoaaGreatVaultLoadsM38
import Derived.Test.YtbobcmimkonnoaaGreatVaultLoadsM17
import Derived.Test.YtbobcmimkonnoaaGreatVaultLoadsM01
set_option maxRecDepth 100000
set_option maxHeartbeats 16000000
namespace Go.Proofs.YtbobcmimkonnoaaGreat.Az
open ChangeShapes WideShapes ChangeAt RowKit Sl Cop D2 M3 Q3 M2 N2 E4 G4 Z4 J4 Q4 L6 P6 M7 Q7 B9 K9 Ly Y4 W6 X6 Qy Y6 Z6 B7 Ry Sy Ty L9 E6 F4 Ny Z5 U3
theorem doX_any(wb v r k:Nat)(z:LawS)(ok:LOK z k)(kind N K pk pl nx:Int)(ai ad:Option Addr)(mi ci md cd:Nat)(hK: -9223372036854775808≤K∧K≤9223372036854775807)(hkd:kind≠0∧kind≠1∧kind≠2∧kind≠3∧kind≠4∧kind≠5∧kind≠6∧kind≠7∧kind≠8∧kind≠9∧kind≠10∧kind≠11∧kind≠12∧kind≠13∧kind≠14∧kind≠15)(F:Pr)(w:World)(hF:OwnL (lawL wb v r z [F]) w):
 Calls Tryz.prog 10 #[.pointer (some ⟨wb,0,none⟩),.agg #[.int .i64 kind,.int .i64 N,.int .i64 K,.int .i64 pk,.int .i64 pl,.slice ai mi ci,.slice ad md cd,.int .i64 nx]] w fun e w'=>e= .returned (.bool true)∧Stays w w'∧DoneH wb v r k F w':=by
 obtain⟨s,H,rs,gs,fl,l,kv,ws,h,tv,xv,bs⟩:=z;obtain⟨j,ll,wl,bk,wk⟩:=ok;dsimp only at j ll wl bk wk;have okp:=(vault_ok (hF.pull1 (A1:=VaultA v s))).1;have hs1:=hF.alloc (opC11 kind N K pk pl (.slice ai mi ci) (.slice ad md cd) nx);have HST:=hQ ((Stays.refl w).alloc (opC11 kind N K pk pl (.slice ai mi ci) (.slice ad md cd) nx));have c1:=hs1.facts;simp only [CellsAt,Nat.reduceAdd,and_true] at c1
 have HOK:=hQ (And.intro ll (And.intro wl (And.intro bk wk)));have HK:=hQ hK;clear hK;obtain⟨x,okx,hs2⟩:=vault_open (v:=v) (s:=s) hs1;clear c1;have c1:=hs2.facts;simp only [CellsAt,Nat.reduceAdd,and_true] at c1;obtain⟨yr,okr,hs3⟩:=refH_open (r:=r) (s:=rs) (gs:=gs) (fl:=fl) (l:=l) hs2;obtain⟨ac,cc,ecv⟩:=Row.shape (hs3.pull1 (A1:=IntsRow yr.cv rs.counts));clear c1;have c1:=hs3.facts
 simp only [CellsAt,Nat.reduceAdd,and_true] at c1;rw [ecv] at c1;have LA:=hQ (len_A x.p s.pool _ _ (hs3.drew.pull1 (A1:=PoolA x.p s.pool)));have RA:=hQ (refs_any x.p s.pool _ _ (hs3.drew.pull1 (A1:=PoolA x.p s.pool)));rw [← j.now.tw.cs] at LA;rw [← j.now.tw.rf] at RA;have hn2:(rs.counts.length:Int)≤65536:=by have:=okr.now.n2;omega
 have HS2:=hQ hs2;have HOX:=hQ okx;have HJ:=hQ j;obtain⟨k0,k1,k2,k3,k4,k5,k6,k7,k8,k9,k10,k11,k12,k13,k14,k15⟩:=hkd;clear hF hs1 hs2 hs3 j ll wl bk wk okp okx okr ecv;go_enter Tryz.func10,Tryz.ntmps10
 go_wp2_with fail
 refine wS 396 [0,1,2,3,4,5,6,8,9,10,11,12,13,14,15] [(7,[16,17,18,19,20,21,22,23,24,26,27,28,29,30,31,32],[0,1,2,3,4,5,8,9,10,11,12,13,14,15]),(25,[33,34,35],[0,1,2,3,4,5,8,9,10,11,12,13,14,16,18,19,20,21,22,23,26,27,28,29,30,31,32,15])] ?_;refine wpQ_cut [0,1,2,3,4,5,6,8,9,10,11,12,13,14] [15] ?_;refine wpQ_all _ rfl rfl ?_;simp only [pick,pQ];iterate 14 (go_big_quiet_step (fail))
 refine wpQuiet_nil ?_;refine wpQ_step rfl rfl (fun K hK=> ?_);go_simp;refine hK _ ?_;clear hK K;refine wpQ_nil ?_;refine wpRest_act rfl ?_;go_wp2_with fail
 refine LA.out.mono ?_;rintro e w1 ⟨rfl,rfl⟩;go_wp2;refine onN_mk ?_;refine wpQ_all _ rfl rfl ?_;simp only [pick,pQ];iterate 16 (go_big_quiet_step (fail))
 refine wpQuiet_nil ⟨?_,?_⟩
 · refine chk_cut [0,1,2,3,4,5,8,9,10,11,12,13,14] [15] ?_ (chk_cons (yieldF_of rfl rfl rfl rfl (by go_simp)) chk_nil)
   refine chk_all _ rfl rfl ?_;simp only [pick,Same,pQ,and_true];repeat' (first | apply And.intro | (go_big_quiet_step (fail);exact wpQuiet_nil rfl))
 refine wpRest_act rfl ?_;go_wp2_with fail
 refine RA.out.mono ?_;rintro e w1 ⟨rfl,rfl⟩;go_wp2;refine onN_mk ?_;refine wpQ_all _ rfl rfl ?_;simp only [pick,pQ];iterate 3 (go_big_quiet_step (fail))
 refine wpQuiet_nil ⟨?_,?_⟩
 · refine chk_cut [0,1,2,3,4,5,8,9,10,11,12,13,14,16,18,19,20,21,22,23,26,27,28,29,30,31,32] [15] ?_ (chk_cons (yieldF_of rfl rfl rfl rfl (by go_simp)) chk_nil)
   refine chk_all _ rfl rfl ?_;simp only [pick,Same,pQ,and_true];repeat' (first | apply And.intro | (go_big_quiet_step (fail);exact wpQuiet_nil rfl))
 refine wpRest_nil ?_;go_wp2;go_ret;obtain⟨ll,wl,bk,wk⟩:=HOK.out;exact⟨by simp,HST.out.drew,⟨s,H,rs,gs,fl,l,kv,ws,h,tv,xv,bs⟩,⟨HJ.out,ll,wl,bk,wk⟩,(vault_shut (v:=v) HOX.out HS2.out.drew).to⟩
end Go.Proofs.YtbobcmimkonnoaaGreat.Az
namespace Go.Proofs.YtbobcmimkonnoaaGreat.Bz
open ChangeShapes WideShapes ChangeAt RowKit Sl Cop D2 M3 Q3 M2 N2 E4 G4 Z4 J4 Q4 L6 P6 M7 Q7 B9 K9 Ly Y4 W6 X6 Qy Y6 Z6 B7 Ry Sy Ty L9 E6 F4
theorem lundo_any(wb v r k:Nat)(z:LawS)(ok:LOK z k)(kind N K pk pl nx:Int)(ai ad:Option Addr)(mi ci md cd:Nat)(hK: -9223372036854775808≤K∧K≤9223372036854775807)(F:Pr)(w:World)(hF:OwnL (lawL wb v r z [F]) w):
 Calls Tryz.prog 56 #[.pointer (some ⟨wb,0,none⟩),.agg #[.int .i64 kind,.int .i64 N,.int .i64 K,.int .i64 pk,.int .i64 pl,.slice ai mi ci,.slice ad md cd,.int .i64 nx]] w fun e w'=>e= .returned (.bool true)∧Stays w w'∧DoneH wb v r k F w':=by
 obtain⟨s,H,rs,gs,fl,l,kv,ws,h,tv,xv,bs⟩:=z;obtain⟨j,ll,wl,bk,wk⟩:=ok;dsimp only at j ll wl bk wk;have hb:=Join.bound j (hF.pull1 (A1:=VaultA v s));have hs1:=hF.alloc (opC11 kind N K pk pl (.slice ai mi ci) (.slice ad md cd) nx);have HST:=hQ ((Stays.refl w).alloc (opC11 kind N K pk pl (.slice ai mi ci) (.slice ad md cd) nx));have c1:=hs1.facts;simp only [CellsAt,Nat.reduceAdd,and_true] at c1
 have HOK:=hQ (And.intro ll (And.intro wl (And.intro bk wk)));have HJ:=hQ j;have HB:=hQ hb;have HS1:=hQ hs1;by_cases hk0:0≤K
 · obtain⟨mk,hmk⟩:∃mk,fl+(l.length:Int)=mk:=⟨_,rfl⟩
   have MR:=hQ (rmarkH_any r rs gs fl l hb _ _ (hs1.drew.pull1 (A1:=RefH r rs gs fl l)));rw [hmk] at MR hb
   have hm0:0≤mk:=by
    obtain⟨_,b1,_⟩:=vault_ok (hF.pull1 (A1:=VaultA v s));have:=j.fe
    omega
   have hr1: -9223372036854775808≤mk-K:=by omega
   have hr2:mk-K≤9223372036854775807:=by omega
   clear hF hs1 j ll wl bk wk hb hmk;go_enter Tryz.func56,Tryz.ntmps56
   go_wp2_with fail
   refine wS 47 [0,1,2,3,5,6] [(4,[7,8],[0,1,2,5,6])] ?_;refine wpQ_all _ rfl rfl ?_;simp only [pick,pQ];iterate 6 (go_big_quiet_step (fail))
   refine wpQuiet_nil ?_;refine wpRest_act rfl ?_;go_wp2_with fail
   refine MR.out.mono ?_;rintro e w1 ⟨rfl,nn,rfl⟩;go_wp2;refine onN_mk ?_;refine wpQ_all _ rfl rfl ?_;simp only [pick,pQ];iterate 2 (go_big_quiet_step (fail))
   refine wpQuiet_nil ⟨?_,?_⟩
   · exact cQ
   refine wpRest_nil ?_;generalize mk-K=tq at*;have hs2:=HS1.out.drewN (1+nn);have HST1:=hQ (HST.out.drewN (1+nn));clear HST HS1 MR;obtain⟨b,Q,hV,hR⟩:=pair_undo (v:=v) (r:=r) HJ.out HB.out tq;have hbb:(b == b)=true:=by simp
   have V:=hQ (hV _ _ (hs2.pull1 (A1:=VaultA v s)));have HR:=hQ hR;clear hV hR hs2;go_wp2_with fail
   refine V.out.mono ?_;rintro e w3 ⟨s',H',hq,rfl,st3,hs3⟩;have hs4:=OwnL.of1 hs3;clear c1;have c1:=hs4.facts;simp only [CellsAt,Nat.reduceAdd,and_true] at c1;have R:=hQ (HR.out s' H' hq _ _ (hs4.drew.pull1 (A1:=RefH r rs gs fl l)));have HST3:=hQ (HST1.out.trans st3);clear hs3 hs4 st3 V HR HST1 hq;go_wp2_with fail
   refine wS 47 [0,1,2,3,4,5] [(6,[7,8,9,10,11,12,14,15,16,17],[0,1,2,3]),(13,[],[0,1,2,3,7,9,10,11,14,15,16,17]),(18,[19,20,21],[0,1,2,3,7,9,10,11,14,15,16])] ?_;refine wpQ_all _ rfl rfl ?_;simp only [pick,pQ];iterate 6 (go_big_quiet_step (fail))
   refine wpQuiet_nil ?_;refine wpRest_act rfl ?_;go_wp2_with fail
   refine R.out.mono ?_;rintro e w4 ⟨rfl,st4,rs',gs',l',j',hl',hs5⟩;have hs6:=OwnL.of1 hs5;clear c1;have c1:=hs6.facts;simp only [CellsAt,Nat.reduceAdd,and_true] at c1;have hb':=Join.bound j' (hs6.pull1 (A1:=VaultA v s'));have MV:=hQ (vmark_A v s' _ _ (hs6.pull1 (A1:=VaultA v s')));rw [j'.len.2, ← j'.fe] at MV;have HST4:=hQ (HST3.out.drew.trans st4);have HS6:=hQ hs6;have HJ':=hQ (And.intro j' hl')
   have HB':=hQ hb';clear hs5 hs6 st4 R HST3 j' hl' hb';go_wp2;refine onN_mk ?_;refine wpQ_all _ rfl rfl ?_;simp only [pick,pQ];iterate 10 (go_big_quiet_step (fail))
   refine wpQuiet_nil ⟨?_,?_⟩
   · exact cQ
   refine wpRest_act rfl ?_;go_wp2_with fail
   refine MV.out.mono ?_;rintro e w5 ⟨rfl,ho⟩;have hs7:OwnL _ w5:=⟨HS6.out.sat.only ho⟩;clear c1;have c1:=hs7.facts;simp only [CellsAt,Nat.reduceAdd,and_true] at c1;have MR2:=hQ (rmarkH_any r rs' gs' fl l' HB'.out _ _ (hs7.pull1 (A1:=RefH r rs' gs' fl l')));have HST5:=hQ (HST4.out.trans ho.st);have HS7:=hQ hs7;clear hs7 ho HS6 HST4 MV;go_wp2;refine onN_mk ?_;refine wpQ_nil ⟨?_,?_⟩
   · exact cQ
   refine wpRest_act rfl ?_;go_wp2_with fail
   refine MR2.out.mono ?_;rintro e w6 ⟨rfl,n2,rfl⟩;go_wp2;refine onN_mk ?_;refine wpQ_all _ rfl rfl ?_;simp only [pick,pQ];iterate 3 (go_big_quiet_step (fail))
   refine wpQuiet_nil ⟨?_,?_⟩
   · exact cQ
   refine wpRest_nil ?_;go_wp2;go_ret;obtain⟨ll,wl,bk,wk⟩:=HOK.out;have hl2:=HJ'.out.2;exact⟨by simp,HST5.out.drewN n2,⟨s',H',rs',gs',fl,l',kv,ws,h,tv,xv,bs⟩,⟨HJ'.out.1,by show l'.length+k≤ _;omega,wl,bk,wk⟩,(HS7.out.drewN n2).to⟩
 · clear hF hs1 j ll wl bk wk hb
   go_enter Tryz.func56,Tryz.ntmps56
   go_wp2_with fail
   obtain⟨tq,hto⟩:∃tq,tq=N:=⟨_,rfl⟩;have hs2:=HS1.out;have HST1:=hQ HST.out;clear HST HS1;subst hto;obtain⟨b,Q,hV,hR⟩:=pair_undo (v:=v) (r:=r) HJ.out HB.out tq;have hbb:(b == b)=true:=by simp
   have V:=hQ (hV _ _ (hs2.pull1 (A1:=VaultA v s)));have HR:=hQ hR;clear hV hR hs2;go_wp2_with fail
   refine V.out.mono ?_;rintro e w3 ⟨s',H',hq,rfl,st3,hs3⟩;have hs4:=OwnL.of1 hs3;clear c1;have c1:=hs4.facts;simp only [CellsAt,Nat.reduceAdd,and_true] at c1;have R:=hQ (HR.out s' H' hq _ _ (hs4.drew.pull1 (A1:=RefH r rs gs fl l)));have HST3:=hQ (HST1.out.trans st3);clear hs3 hs4 st3 V HR HST1 hq;go_wp2_with fail
   refine wS 47 [0,1,2,3,4,5] [(6,[7,8,9,10,11,12,14,15,16,17],[0,1,2,3]),(13,[],[0,1,2,3,7,9,10,11,14,15,16,17]),(18,[19,20,21],[0,1,2,3,7,9,10,11,14,15,16])] ?_;refine wpQ_all _ rfl rfl ?_;simp only [pick,pQ];iterate 6 (go_big_quiet_step (fail))
   refine wpQuiet_nil ?_;refine wpRest_act rfl ?_;go_wp2_with fail
   refine R.out.mono ?_;rintro e w4 ⟨rfl,st4,rs',gs',l',j',hl',hs5⟩;have hs6:=OwnL.of1 hs5;clear c1;have c1:=hs6.facts;simp only [CellsAt,Nat.reduceAdd,and_true] at c1;have hb':=Join.bound j' (hs6.pull1 (A1:=VaultA v s'));have MV:=hQ (vmark_A v s' _ _ (hs6.pull1 (A1:=VaultA v s')));rw [j'.len.2, ← j'.fe] at MV;have HST4:=hQ (HST3.out.drew.trans st4);have HS6:=hQ hs6;have HJ':=hQ (And.intro j' hl')
   have HB':=hQ hb';clear hs5 hs6 st4 R HST3 j' hl' hb';go_wp2;refine onN_mk ?_;refine wpQ_all _ rfl rfl ?_;simp only [pick,pQ];iterate 10 (go_big_quiet_step (fail))
   refine wpQuiet_nil ⟨?_,?_⟩
   · exact cQ
   refine wpRest_act rfl ?_;go_wp2_with fail
   refine MV.out.mono ?_;rintro e w5 ⟨rfl,ho⟩;have hs7:OwnL _ w5:=⟨HS6.out.sat.only ho⟩;clear c1;have c1:=hs7.facts;simp only [CellsAt,Nat.reduceAdd,and_true] at c1;have MR2:=hQ (rmarkH_any r rs' gs' fl l' HB'.out _ _ (hs7.pull1 (A1:=RefH r rs' gs' fl l')));have HST5:=hQ (HST4.out.trans ho.st);have HS7:=hQ hs7;clear hs7 ho HS6 HST4 MV;go_wp2;refine onN_mk ?_;refine wpQ_nil ⟨?_,?_⟩
   · exact cQ
   refine wpRest_act rfl ?_;go_wp2_with fail
   refine MR2.out.mono ?_;rintro e w6 ⟨rfl,n2,rfl⟩;go_wp2;refine onN_mk ?_;refine wpQ_all _ rfl rfl ?_;simp only [pick,pQ];iterate 3 (go_big_quiet_step (fail))
   refine wpQuiet_nil ⟨?_,?_⟩
   · exact cQ
   refine wpRest_nil ?_;go_wp2;go_ret;obtain⟨ll,wl,bk,wk⟩:=HOK.out;have hl2:=HJ'.out.2;exact⟨by simp,HST5.out.drewN n2,⟨s',H',rs',gs',fl,l',kv,ws,h,tv,xv,bs⟩,⟨HJ'.out.1,by show l'.length+k≤ _;omega,wl,bk,wk⟩,(HS7.out.drewN n2).to⟩
theorem do12_any(wb v r k:Nat)(z:LawS)(ok:LOK z k)(kind N K pk pl nx:Int)(ai ad:Option Addr)(mi ci md cd:Nat)(hK: -9223372036854775808≤K∧K≤9223372036854775807)(hkd:kind=12)(F:Pr)(w:World)(hF:OwnL (lawL wb v r z [F]) w):
 Calls Tryz.prog 10 #[.pointer (some ⟨wb,0,none⟩),.agg #[.int .i64 kind,.int .i64 N,.int .i64 K,.int .i64 pk,.int .i64 pl,.slice ai mi ci,.slice ad md cd,.int .i64 nx]] w fun e w'=>e= .returned (.bool true)∧Stays w w'∧DoneH wb v r k F w':=by
 obtain⟨s,H,rs,gs,fl,l,kv,ws,h,tv,xv,bs⟩:=z;obtain⟨j,ll,wl,bk,wk⟩:=ok;dsimp only at j ll wl bk wk;have okp:=(vault_ok (hF.pull1 (A1:=VaultA v s))).1;have hs1:=hF.alloc (opC11 kind N K pk pl (.slice ai mi ci) (.slice ad md cd) nx);have HST:=hQ ((Stays.refl w).alloc (opC11 kind N K pk pl (.slice ai mi ci) (.slice ad md cd) nx));have c1:=hs1.facts;simp only [CellsAt,Nat.reduceAdd,and_true] at c1
 have HOK:=hQ (And.intro ll (And.intro wl (And.intro bk wk)));have HK:=hQ hK;clear hK
 have X:=hQ (lundo_any wb v r k ⟨s,H,rs,gs,fl,l,kv,ws,h,tv,xv,bs⟩ ⟨j,ll,wl,bk,wk⟩ kind N K pk pl nx ai ad mi ci md cd HK.out (starL [Pr.pts w.heap.size (opC11 kind N K pk pl (.slice ai mi ci) (.slice ad md cd) nx),F]) _
  ⟨(hs1.to (M:= [VaultA v s,RefH r rs gs fl l,workO wb v r kv tv xv,BRest tv xv bs,WksRow kv ws,Pr.own h,Pr.pts w.heap.size (opC11 kind N K pk pl (.slice ai mi ci) (.slice ad md cd) nx),F])).sat.perm (by simp only [starL,Pr.star_emp])⟩)
 subst hkd;clear hF hs1 j ll wl bk wk okp;go_enter Tryz.func10,Tryz.ntmps10
 go_wp2_with fail
 refine X.out.mono ?_;rintro e w1 ⟨rfl,st1,z',ok',hs2⟩;have HS2:=hQ hs2;have HOK':=hQ ok';have HST1:=hQ (HST.out.trans st1);clear hs2 ok' st1 X c1;go_wp2;go_ret;exact⟨rfl,HST1.out,z',HOK'.out,(HS2.out.flat).to⟩
end Go.Proofs.YtbobcmimkonnoaaGreat.Bz
namespace Go.Proofs.YtbobcmimkonnoaaGreat.Dz
open ChangeShapes WideShapes ChangeAt RowKit Sl Cop D2 M3 Q3 M2 N2 E4 G4 Z4 J4 Q4 L6 P6 M7 Q7 B9 K9 Ly Y4 W6 X6 Qy Y6 Z6 B7 Ry Sy Ty L9 E6 F4
theorem infoKept:(Tryz.prog.info? 106).map (fun i=>(i.zero,i.size,i.bytes))=some (some (.agg #[.nilFunc,.slice none 0 0]),2,32):=by kernel_rfl
theorem do14_any(wb v r k:Nat)(z:LawS)(ok:LOK z (k+1))(kind N K pk pl nx:Int)(ai ad:Option Addr)(mi ci md cd:Nat)(hK: -9223372036854775808≤K∧K≤9223372036854775807)(hkd:kind=14)(F:Pr)(w:World)(hF:OwnL (lawL wb v r z [F]) w):
 Calls Tryz.prog 10 #[.pointer (some ⟨wb,0,none⟩),.agg #[.int .i64 kind,.int .i64 N,.int .i64 K,.int .i64 pk,.int .i64 pl,.slice ai mi ci,.slice ad md cd,.int .i64 nx]] w fun e w'=>e= .returned (.bool true)∧Stays w w'∧DoneH wb v r k F w':=by
 obtain⟨s,H,rs,gs,fl,l,kv,ws,h,tv,xv,bs⟩:=z;obtain⟨j,ll,wl,bk,wk⟩:=ok;dsimp only at j ll wl bk wk;have okp:=(vault_ok (hF.pull1 (A1:=VaultA v s))).1;have hs1:=hF.alloc (opC11 kind N K pk pl (.slice ai mi ci) (.slice ad md cd) nx);have HST:=hQ ((Stays.refl w).alloc (opC11 kind N K pk pl (.slice ai mi ci) (.slice ad md cd) nx));have c1:=hs1.facts;simp only [CellsAt,Nat.reduceAdd,and_true] at c1
 have HOK:=hQ (And.intro ll (And.intro wl (And.intro bk wk)));have HK:=hQ hK;clear hK;have V:=hQ (vpages_any v s N j.now.tw.fit _ _ (hs1.drew.pull1 (A1:=VaultA v s)))
 have HL:=hQ (And.intro (nums_same j.now.tw N) (And.intro (nums_fit j.now.tw.fit (pagesIn s.pool N)) (show (numsOf s (pagesIn s.pool N)).length≤65536 by
  unfold numsOf
  rw [List.length_map]
  exact Nat.le_trans (pagesTo_len _ _ _) okp.n2)))
 have HJ:=hQ j;obtain⟨L,hL⟩:∃L,numsOf s (pagesIn s.pool N)=L:=⟨_,rfl⟩;rw [hL] at V HL;obtain⟨nw,hnw⟩:∃nw,ws.length=nw:=⟨_,rfl⟩;obtain⟨ak,ck,ekv⟩:=Row.shape (hs1.pull1 (A1:=WksRow kv ws));rw [hnw] at ekv;subst ekv;have HNW:=hQ hnw;have hnw3:nw≤1048576:=by omega
 obtain⟨j0,hj,hy0,hy1,hy2⟩:=info_parts infoKept;subst hkd;clear hF hs1 j ll wl bk wk okp hL hnw;go_enter Tryz.func10,Tryz.ntmps10
 go_wp2_with fail
 refine wS 396 [0,1,2,3,4,5,6,7,8,9,10,12,13,14,15,16,17] [(11,[],[0,1,2,3,4,5,6,7,9,12,13,14,15,16,17]),(18,[19],[0,1,2,3,4,5,6,7,9,12,13,14,16]),(20,[],[0,1,2,3,4,5,6,7,9,12,13,14,16]),(21,[22,23],[0,1,2,3,5,6,7,9,12,13,14,16]),(24,[],[22])] ?_;refine wpQ_all _ rfl rfl ?_;simp only [pick,pQ];iterate 17 (go_big_quiet_step (fail))
 refine wpQuiet_nil ?_;refine wpRest_act rfl ?_;go_wp2_with fail
 refine V.out.mono ?_;rintro e w1 ⟨st1,h1,fv,rfl,hwk,hs2⟩;obtain⟨lb,lv0,rfl,hwk1,hwk2⟩:=hwk;have hs3:=OwnL.of2 hs2;clear c1;have c1:=hs3.facts;simp only [CellsAt,Nat.reduceAdd,and_true] at c1;have R:=hQ (rpagesH_any r rs gs fl l N _ _ (hs3.pull1 (A1:=RefH r rs gs fl l)));rw [← HL.out.1] at R
 have HWK:=hQ (show WalkIn h1 (.func (.func 117) #[] #[.pointer (some ⟨lb,0,none⟩)]) L from⟨lb,lv0,rfl,hwk1,hwk2⟩);have HST1:=hQ (HST.out.drew.trans st1);clear hs2 hs3 st1 V HST hwk1 hwk2;go_wp2;refine onN_mk ?_;refine wpQ_nil ⟨?_,?_⟩
 · exact cQ
 refine wpRest_act rfl ?_;go_wp2_with fail
 refine R.out.mono ?_;rintro e w2 ⟨st2,lv,h2,rfl,hwn,hs4⟩;obtain⟨al,cl,rfl,_⟩:=nums_rd hwn;have hs5:=OwnL.of2 hs4;clear c1;have c1:=hs5.facts;simp only [CellsAt,Nat.reduceAdd,and_true] at c1;obtain⟨hd1,hs6⟩:=(hs5.pull2 (A1:=Pr.own h) (A2:=Pr.own h1)).own_join;obtain⟨hd2,hs7⟩:=((OwnL.of1 hs6).pull2 (A1:=Pr.own (h.un h1)) (A2:=Pr.own h2)).own_join
 have hsub:h.sub ((h.un h1).un h2):=(Hp.sub_un_left h h1).trans (Hp.sub_un_left (h.un h1) h2);have hwk2:=HWK.out.sub ((Hp.sub_un_right hd1).trans (Hp.sub_un_left (h.un h1) h2));obtain⟨xs2,y1,y2,y3⟩:=hwn;have hwn2:NumsIn ((h.un h1).un h2) (.slice al L.length cl) L:=⟨xs2,y1,y2.sub (Hp.sub_un_right hd2),fun i hx hl=>⟨(y3 i hx hl).1.sub (Hp.sub_un_right hd2),(y3 i hx hl).2.sub (Hp.sub_un_right hd2)⟩⟩
 have HWE:=hQ (show WkOk ((h.un h1).un h2) ⟨.func (.func 117) #[] #[.pointer (some ⟨lb,0,none⟩)],.slice al L.length cl,L⟩ from⟨hwk2,hwn2,HL.out.2.1,HL.out.2.2⟩);have hs8:=OwnL.of1 hs7;obtain⟨hs9,hn9⟩:=hs8.fresh [.func (.func 117) #[] #[.pointer (some ⟨lb,0,none⟩)],.slice al L.length cl] 106 w2.heap.size rfl
 have hs10:=hs9.to (M:= [WksRow (.slice ak nw ck) ws,Pr.own ((h.un h1).un h2),RefH r rs gs fl l,VaultA v s,workO wb v r (.slice ak nw ck) tv xv,BRest tv xv bs,F]);dsimp only [WksRow] at hs10;rw [HNW.out] at hs10;have A1:=hQ hs10.sat;have HNEW:=hQ hn9;have HSUB:=hQ hsub
 have HST2:=hQ ((HST1.out.trans st2).alloc (.cells [Value.func (.func 117) #[] #[.pointer (some ⟨lb,0,none⟩)],.slice al L.length cl].toArray 106));clear hs4 hs5 hs6 hs7 hs8 hs9 hs10 hn9 hd1 hd2 hsub hwk2 hwn2 y1 y2 y3 st2 R HST1 HWK;go_wp2;refine onN_mk ?_;refine wpQ_all _ rfl rfl ?_;simp only [pick,pQ];iterate 1 (go_big_quiet_step (fail))
 refine wpQuiet_nil ⟨?_,?_⟩
 · exact cQ
 refine wpRest_act rfl ?_;go_wp2;refine onN_mk ?_;refine wpQ_nil ⟨?_,?_⟩
 · exact cQ
 refine wpRest_act rfl ?_;refine wpList_appN rfl _ _ _ rfl 106 j0 (.agg #[.nilFunc,.slice none 0 0]) 2 32 Tryz.underlying84 hj hy0 hy1 hy2 rfl _ _ _ rfl A1.out ⟨w2.heap.size,0,none⟩ 1 1 [.func (.func 117) #[] #[.pointer (some ⟨lb,0,none⟩)],.slice al L.length cl] rfl rfl HNEW.out (by simp [Value.oneCell']) (by simp only [maxLen];omega) (by omega) (fun v7 w7 hs11 hg11 K0 hK0=> ?_)
 obtain⟨a7,c7,e7,_,_⟩:=Row.read hs11;subst e7;go_simp;refine hK0 _ ?_;clear hK0 K0;have hs12:=OwnL.of1 hs11;have HS12:=hQ hs12;have HST7:=hQ (HST2.out.of_grown hg11);clear c1;have c1:=hs12.facts;simp only [CellsAt,Nat.reduceAdd,and_true] at c1;clear hs11 hs12 hg11 A1 HNEW HST2;refine wpList_nil ?_;refine onN_mk ?_;refine wpQ_all _ rfl rfl ?_;simp only [pick,pQ];iterate 2 (go_big_quiet_step (fail))
 refine wpQuiet_nil ⟨?_,?_⟩
 · exact cQ
 refine wpRest_act rfl ?_;go_wp2;refine onN_mk ?_;refine wpQ_nil ⟨?_,?_⟩
 · exact cQ
 refine wpRest_nil ?_;have hs13:=HS12.out.set wb 2 (.slice a7 (nw+1) c7);have HS13:=hQ hs13;have HST8:=hQ (HST7.out.setCell ⟨wb,2,none⟩ (.slice a7 (nw+1) c7));clear hs13 c1 HS12 HST7;go_wp2;go_ret;obtain⟨ll,wl,bk,wk⟩:=HOK.out;have hnw2:=HNW.out
 refine⟨rfl,HST8.out,⟨s,H,rs,gs,fl,l,.slice a7 (nw+1) c7,ws++ [⟨.func (.func 117) #[] #[.pointer (some ⟨lb,0,none⟩)],.slice al L.length cl,L⟩],(h.un h1).un h2,tv,xv,bs⟩,⟨HJ.out.le (Nat.le_succ k),by show l.length+k≤ _;omega,by show (ws++ [_]).length+k≤ _;rw [List.length_append,List.length_singleton];omega,bk.sub HSUB.out,fun x hx=> ?_⟩,?_⟩
 · rcases List.mem_append.1 hx with hx | hx
   · exact(wk x hx).sub HSUB.out
   · rw [List.mem_singleton.1 hx];exact HWE.out
 · have h14:=HS13.out
   dsimp only [lawL,WksRow];rw [List.length_append,List.flatMap_append,List.length_singleton,HNW.out,List.flatMap_singleton];dsimp only [wkCells];exact h14.to
end Go.Proofs.YtbobcmimkonnoaaGreat.Dz
