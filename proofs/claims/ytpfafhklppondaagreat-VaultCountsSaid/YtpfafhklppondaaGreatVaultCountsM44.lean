/- The law's do, kind by kind; the conditions stand as hypotheses. -/
import Derived.Test.YtpfafhklppondaaGreatVaultCountsM40
import Derived.Test.YtpfafhklppondaaGreatVaultCountsM33
import Derived.Test.YtpfafhklppondaaGreatVaultCountsM01
import Derived.Test.YtpfafhklppondaaGreatVaultCountsM12
import Derived.Test.YtpfafhklppondaaGreatVaultCountsM35
import Derived.Test.YtpfafhklppondaaGreatVaultCountsM17
set_option maxRecDepth 100000
set_option maxHeartbeats 16000000
namespace Go.Proofs.YtpfafhklppondaaGreat.Fz
open ChangeShapes WideShapes ChangeAt RowKit Sl Cop M2 P3 X3 Q2 X2 J4 L4 E5 P4 X4 Q6 Y6 X7 Z7 K9 V9 Qy G5 E7 F7 Uy G7 J7 K7 Xy Az Bz Q9 K6 K4
theorem do2_tell(wb v r k:Nat)(z:LawS)(ok:LOK z (k+1))(kind N K pk pl nx:Int)(ai ad:Option Addr)(mi ci md cd:Nat)(hK: -9223372036854775808≤K∧K≤9223372036854775807)(hkd:kind=2)(P:VaultS→Prop)(hP:∀a b s' H',QShadow z.s z.H N a b s' H'→P s')(F:Pr)(w:World)(hF:OwnL (lawL wb v r z [F]) w):
 Calls Tryz.prog 27 #[.pointer (some ⟨wb,0,none⟩),.agg #[.int .i64 kind,.int .i64 N,.int .i64 K,.int .i64 pk,.int .i64 pl,.slice ai mi ci,.slice ad md cd,.int .i64 nx]] w fun e w'=>e= .returned (.bool true)∧Stays w w'∧DoneP wb v r k P F w':=by
 obtain⟨s,H,rs,gs,fl,l,kv,ws,h,tv,xv,bs⟩:=z;obtain⟨j,ll,wl,bk,wk⟩:=ok;dsimp only at j ll wl bk wk hP;have HPP:=hQ hP;clear hP;have okp:=(vault_ok (hF.pull1 (A1:=VaultA v s))).1;have hs1:=hF.alloc (opC11 kind N K pk pl (.slice ai mi ci) (.slice ad md cd) nx);have HST:=hQ ((Stays.refl w).alloc (opC11 kind N K pk pl (.slice ai mi ci) (.slice ad md cd) nx));have c1:=hs1.facts
 simp only [CellsAt,Nat.reduceAdd,and_true] at c1;have HOK:=hQ (And.intro ll (And.intro wl (And.intro bk wk)));have HK:=hQ hK;clear hK;obtain⟨hV,hR⟩:=pair_shadowQ (H:=H) (v:=v) (r:=r) j okp (by omega) N;have V:=hQ (hV _ _ (hs1.drew.pull1 (A1:=VaultA v s)));have HR:=hQ hR;subst hkd;clear hF hs1 j ll wl bk wk okp hV hR;go_enter Tryz.func27,Tryz.ntmps27
 go_wp2_with fail
 refine wS 396 [0,1,2,3,4,5] [(6,[7,8,9,10,11],[0,1,2,4])] ?_;refine wpQ_all _ rfl rfl ?_;simp only [pick,pQ];iterate 6 (go_big_quiet_step (fail))
 refine wpQuiet_nil ?_;refine wpRest_act rfl ?_;go_wp2_with fail
 refine V.out.mono ?_;rintro e w1 ⟨a,b,s',H',hq,rfl,st1,hs2⟩;have HQQ:=hQ (HPP.out a b s' H' hq);have hs3:=OwnL.of1 hs2;clear c1;have c1:=hs3.facts;simp only [CellsAt,Nat.reduceAdd,and_true] at c1;have R:=hQ (HR.out a b s' H' hq _ _ (hs3.drew.pull1 (A1:=RefH r rs gs fl l)));have HST1:=hQ (HST.out.drew.trans st1);clear hs2 hs3 st1 V HR hq HST;go_wp2;refine onN_mk ?_;refine wpQ_all _ rfl rfl ?_
 simp only [pick,pQ];iterate 5 (go_big_quiet_step (fail))
 refine wpQuiet_nil ⟨?_,?_⟩
 · exact cQ
 refine wpRest_nil ?_;go_wp2_with fail
 refine wS 396 [0,1,2,3,4,5] [(6,[7,8,9,10,11],[0,1,2,4])] ?_;refine wpQ_all _ rfl rfl ?_;simp only [pick,pQ];iterate 6 (go_big_quiet_step (fail))
 refine wpQuiet_nil ?_;refine wpRest_act rfl ?_;go_wp2_with fail
 refine R.out.mono ?_;rintro e w2 ⟨rfl,st2,rs',gs',l',j',hl',hs4⟩;have hs5:=OwnL.of1 hs4;clear c1;have c1:=hs5.facts;simp only [CellsAt,Nat.reduceAdd,and_true] at c1;have HS5:=hQ hs5;have HST2:=hQ (HST1.out.drew.trans st2);have HJ:=hQ (And.intro j' hl');clear hs4 hs5 st2 R j' hl' HST1;go_wp2;refine onN_mk ?_;refine wpQ_all _ rfl rfl ?_;simp only [pick,pQ];iterate 5 (go_big_quiet_step (fail))
 refine wpQuiet_nil ⟨?_,?_⟩
 · exact cQ
 refine wpRest_nil ?_;go_wp2;go_ret;obtain⟨ll,wl,bk,wk⟩:=HOK.out;have hl2:=HJ.out.2;exact⟨rfl,HST2.out,⟨s',H',rs',gs',fl,l',kv,ws,h,tv,xv,bs⟩,⟨HJ.out.1,by show l'.length+k≤ _;omega,by show ws.length+k≤ _;omega,bk,wk⟩,HQQ.out,HS5.out.to⟩
theorem do4_tell(wb v r k:Nat)(z:LawS)(ok:LOK z (k+1))(kind N K pk pl nx:Int)(ai ad:Option Addr)(mi ci md cd:Nat)(hK: -9223372036854775808≤K∧K≤9223372036854775807)(hkd:kind=4)(P:VaultS→Prop)(hP:∀b s' H',QKeep z.s z.H N b s' H'→P s')(F:Pr)(w:World)(hF:OwnL (lawL wb v r z [F]) w):
 Calls Tryz.prog 27 #[.pointer (some ⟨wb,0,none⟩),.agg #[.int .i64 kind,.int .i64 N,.int .i64 K,.int .i64 pk,.int .i64 pl,.slice ai mi ci,.slice ad md cd,.int .i64 nx]] w fun e w'=>e= .returned (.bool true)∧Stays w w'∧DoneP wb v r k P F w':=by
 obtain⟨s,H,rs,gs,fl,l,kv,ws,h,tv,xv,bs⟩:=z;obtain⟨j,ll,wl,bk,wk⟩:=ok;dsimp only at j ll wl bk wk hP;have HPP:=hQ hP;clear hP;have okp:=(vault_ok (hF.pull1 (A1:=VaultA v s))).1;have hs1:=hF.alloc (opC11 kind N K pk pl (.slice ai mi ci) (.slice ad md cd) nx);have HST:=hQ ((Stays.refl w).alloc (opC11 kind N K pk pl (.slice ai mi ci) (.slice ad md cd) nx));have c1:=hs1.facts
 simp only [CellsAt,Nat.reduceAdd,and_true] at c1;have HOK:=hQ (And.intro ll (And.intro wl (And.intro bk wk)));have HK:=hQ hK;clear hK;obtain⟨hV,hR⟩:=pair_keepQ (H:=H) (v:=v) (r:=r) j okp (by omega) N;have V:=hQ (hV _ _ (hs1.drew.pull1 (A1:=VaultA v s)));have HR:=hQ hR;subst hkd;clear hF hs1 j ll wl bk wk okp hV hR;go_enter Tryz.func27,Tryz.ntmps27
 go_wp2_with fail
 refine wS 396 [0,1,2,3,4,5] [(6,[7],[0,1,2,4])] ?_;refine wpQ_all _ rfl rfl ?_;simp only [pick,pQ];iterate 6 (go_big_quiet_step (fail))
 refine wpQuiet_nil ?_;refine wpRest_act rfl ?_;go_wp2_with fail
 refine V.out.mono ?_;rintro e w1 ⟨b,s',H',hq,rfl,st1,hs2⟩;have HQQ:=hQ (HPP.out b s' H' hq);have hs3:=OwnL.of1 hs2;clear c1;have c1:=hs3.facts;simp only [CellsAt,Nat.reduceAdd,and_true] at c1;have R:=hQ (HR.out b s' H' hq _ _ (hs3.drew.pull1 (A1:=RefH r rs gs fl l)));have HST1:=hQ (HST.out.drew.trans st1);clear hs2 hs3 st1 V HR hq HST;go_wp2;refine onN_mk ?_;refine wpQ_all _ rfl rfl ?_
 simp only [pick,pQ];iterate 1 (go_big_quiet_step (fail))
 refine wpQuiet_nil ⟨?_,?_⟩
 · exact cQ
 refine wpRest_nil ?_;go_wp2_with fail
 refine wS 396 [0,1,2,3,4,5,6] [(7,[8,9],[0,1,2,3,5])] ?_;refine wpQ_all _ rfl rfl ?_;simp only [pick,pQ];iterate 7 (go_big_quiet_step (fail))
 refine wpQuiet_nil ?_;refine wpRest_act rfl ?_;go_wp2_with fail
 refine R.out.mono ?_;rintro e w2 ⟨rfl,st2,rs',gs',l',j',hl',hs4⟩;have hs5:=OwnL.of1 hs4;clear c1;have c1:=hs5.facts;simp only [CellsAt,Nat.reduceAdd,and_true] at c1;have HS5:=hQ hs5;have HST2:=hQ (HST1.out.drew.trans st2);have HJ:=hQ (And.intro j' hl');clear hs4 hs5 st2 R j' hl' HST1;go_wp2;refine onN_mk ?_;refine wpQ_all _ rfl rfl ?_;simp only [pick,pQ];iterate 2 (go_big_quiet_step (fail))
 refine wpQuiet_nil ⟨?_,?_⟩
 · exact cQ
 refine wpRest_nil ?_;go_wp2;go_ret;obtain⟨ll,wl,bk,wk⟩:=HOK.out;have hl2:=HJ.out.2;exact⟨rfl,HST2.out,⟨s',H',rs',gs',fl,l',kv,ws,h,tv,xv,bs⟩,⟨HJ.out.1,by show l'.length+k≤ _;omega,by show ws.length+k≤ _;omega,bk,wk⟩,HQQ.out,HS5.out.to⟩
end Go.Proofs.YtpfafhklppondaaGreat.Fz
namespace Go.Proofs.YtpfafhklppondaaGreat.Hz
open ChangeShapes WideShapes ChangeAt RowKit Sl Cop M2 P3 X3 Q2 X2 J4 L4 E5 P4 X4 Q6 Y6 X7 Z7 K9 V9 Qy G5 E7 F7 Uy G7 J7 K7 Xy Az Bz Q9 K6 K4 Sy F6 Y3
theorem tally_same(s:PoolS)(ok:PoolOk s)(k:Int):s.tally k=((tallyTo s k s.counts.length:Nat):Int):=by
 have hlen:=ok.len
 have e0:s.counts.zip s.last=(List.range s.counts.length).map fun i=>(s.counts.getD i 0,s.last.getD i false):=by
  apply List.ext_getElem
  · simp [hlen]
  · intro i h1 h2
    simp only [List.length_zip] at h1;have h3:i<s.counts.length:=by omega
    have h4:i<s.last.length:=by omega
    simp [h3,h4]
 have e1:∀i,i<s.counts.length→s.state ((i:Int)+1)=stateOf (s.counts.getD i 0) (s.last.getD i false):=fun i hi=>by
  have ht:s.there ((i:Int)+1):=⟨by omega,by omega⟩;rw [state_there ht,count_idx hi];unfold PoolS.lasts;rw [show ((i:Int)+1).toNat-1=i by omega]
 have e2:s.many k=tallyTo s k s.counts.length:=by
  unfold PoolS.many tallyTo;rw [e0,List.filter_map,List.length_map];congr 1
  refine List.filter_congr fun i hi=> ?_
  rw [e1 i (List.mem_range.1 hi)];rfl
 unfold PoolS.tally;split
 · rename_i hk
   have e3:tallyTo s k s.counts.length=0:=by
    unfold tallyTo;rw [List.length_eq_zero_iff,List.filter_eq_nil_iff];intro i hi;rw [e1 i (List.mem_range.1 hi)];unfold stateOf;simp only [beq_iff_eq];split<;>split<;>omega
   rw [e3];rfl
 · rw [e2]
theorem tallyTo_same {s:VaultS}{rs:PoolS}{gs:List PageV}(tw:Go.Cop.Twin s rs gs)(k:Int):tallyTo rs k rs.counts.length=tallyTo s.pool k s.pool.counts.length:=by
 unfold tallyTo;rw [tw.cs];congr 1
 refine List.filter_congr fun i _=> ?_
 rw [tw.state]
theorem do7_any(wb v r k:Nat)(z:LawS)(ok:LOK z k)(kind N K pk pl nx:Int)(ai ad:Option Addr)(mi ci md cd:Nat)(hK: -9223372036854775808≤K∧K≤9223372036854775807)(hkd:kind=7)(F:Pr)(w:World)(hF:OwnL (lawL wb v r z [F]) w):
 Calls Tryz.prog 27 #[.pointer (some ⟨wb,0,none⟩),.agg #[.int .i64 kind,.int .i64 N,.int .i64 K,.int .i64 pk,.int .i64 pl,.slice ai mi ci,.slice ad md cd,.int .i64 nx]] w fun e w'=>e= .returned (.bool true)∧Stays w w'∧DoneH wb v r k F w':=by
 obtain⟨s,H,rs,gs,fl,l,kv,ws,h,tv,xv,bs⟩:=z;obtain⟨j,ll,wl,bk,wk⟩:=ok;dsimp only at j ll wl bk wk;have okp:=(vault_ok (hF.pull1 (A1:=VaultA v s))).1;have hs1:=hF.alloc (opC11 kind N K pk pl (.slice ai mi ci) (.slice ad md cd) nx);have HST:=hQ ((Stays.refl w).alloc (opC11 kind N K pk pl (.slice ai mi ci) (.slice ad md cd) nx));have c1:=hs1.facts;simp only [CellsAt,Nat.reduceAdd,and_true] at c1
 have HOK:=hQ (And.intro ll (And.intro wl (And.intro bk wk)));have HK:=hQ hK;clear hK;obtain⟨x,okx,hs2⟩:=vault_open (v:=v) (s:=s) hs1;clear c1;have c1:=hs2.facts;simp only [CellsAt,Nat.reduceAdd,and_true] at c1;obtain⟨aa,ca,F',hA⟩:=refH_refA (hs2.drew.pull1 (A1:=RefH r rs gs fl l));have CA:=hQ (count_A x.p s.pool N _ _ (hs2.drew.pull1 (A1:=PoolA x.p s.pool)))
 have SA:=hQ (pool_state x.p s.pool N _ _ (hs2.drew.pull1 (A1:=PoolA x.p s.pool)));have CR:=hQ (rcount_any r rs gs ⟨.slice aa l.length ca,fl,false⟩ N _ _ hA);have SR:=hQ (rstate_any r rs gs ⟨.slice aa l.length ca,fl,false⟩ N _ _ hA);rw [j.now.tw.count] at CR;rw [j.now.tw.state] at SR;have HS2:=hQ hs2;have HOX:=hQ okx;have HJ:=hQ j;subst hkd;generalize s.pool.count N=cn at CA CR
 generalize s.pool.state N=sn at SA SR;clear hF hs1 hs2 j ll wl bk wk okp okx hA;go_enter Tryz.func27,Tryz.ntmps27
 go_wp2_with fail
 refine wS 396 [0,1,2,3,4,5,6,7,8,10,11,12,13,14,15] [(9,[],[0,1,2,3,4,5,7,10,11,12,13,14,15]),(16,[17,18,19,20,21,22,23,24,25,26,27,29,30,31,32,33,34],[0,1,2,3,4,5,7,10,11,12,14]),(28,[],[0,1,2,3,4,5,7,10,11,12,14,17,19,20,21,22,23,24,26,29,30,31,32,33,34]),(35,[36,37,38],[0,1,2,3,4,5,7,10,11,12,14,17,19,20,21,22,23,24,26,29,30,31,33])] ?_;refine wpQ_all _ rfl rfl ?_;simp only [pick,pQ]
 iterate 15 (go_big_quiet_step (fail))
 refine wpQuiet_nil ?_;refine wpRest_act rfl ?_;go_wp2_with fail
 refine CA.out.mono ?_;rintro e w1 ⟨rfl,rfl⟩;go_wp2;refine onN_mk ?_;refine wpQ_nil ⟨?_,?_⟩
 · exact cQ
 refine wpRest_act rfl ?_;go_wp2_with fail
 refine CR.out.mono ?_;rintro e w1 ⟨rfl,rfl⟩;go_wp2;refine onN_mk ?_;refine wpQ_all _ rfl rfl ?_;simp only [pick,pQ];iterate 17 (go_big_quiet_step (fail))
 refine wpQuiet_nil ⟨?_,?_⟩
 · exact cQ
 refine wpRest_act rfl ?_;go_wp2_with fail
 refine SA.out.mono ?_;rintro e w1 ⟨rfl,rfl⟩;go_wp2;refine onN_mk ?_;refine wpQ_nil ⟨?_,?_⟩
 · exact cQ
 refine wpRest_act rfl ?_;go_wp2_with fail
 refine SR.out.mono ?_;rintro e w1 ⟨rfl,rfl⟩;go_wp2;refine onN_mk ?_;refine wpQ_all _ rfl rfl ?_;simp only [pick,pQ];iterate 3 (go_big_quiet_step (fail))
 refine wpQuiet_nil ⟨?_,?_⟩
 · exact cQ
 refine wpRest_nil ?_;go_wp2;go_ret;obtain⟨ll,wl,bk,wk⟩:=HOK.out;exact⟨by simp,HST.out.drew,⟨s,H,rs,gs,fl,l,kv,ws,h,tv,xv,bs⟩,⟨HJ.out,ll,wl,bk,wk⟩,(vault_shut (v:=v) HOX.out HS2.out.drew).to⟩
theorem do8_any(wb v r k:Nat)(z:LawS)(ok:LOK z k)(kind N K pk pl nx:Int)(ai ad:Option Addr)(mi ci md cd:Nat)(hK: -9223372036854775808≤K∧K≤9223372036854775807)(hkd:kind=8)(F:Pr)(w:World)(hF:OwnL (lawL wb v r z [F]) w):
 Calls Tryz.prog 27 #[.pointer (some ⟨wb,0,none⟩),.agg #[.int .i64 kind,.int .i64 N,.int .i64 K,.int .i64 pk,.int .i64 pl,.slice ai mi ci,.slice ad md cd,.int .i64 nx]] w fun e w'=>e= .returned (.bool true)∧Stays w w'∧DoneH wb v r k F w':=by
 obtain⟨s,H,rs,gs,fl,l,kv,ws,h,tv,xv,bs⟩:=z;obtain⟨j,ll,wl,bk,wk⟩:=ok;dsimp only at j ll wl bk wk;have okp:=(vault_ok (hF.pull1 (A1:=VaultA v s))).1;have hs1:=hF.alloc (opC11 kind N K pk pl (.slice ai mi ci) (.slice ad md cd) nx);have HST:=hQ ((Stays.refl w).alloc (opC11 kind N K pk pl (.slice ai mi ci) (.slice ad md cd) nx));have c1:=hs1.facts;simp only [CellsAt,Nat.reduceAdd,and_true] at c1
 have HOK:=hQ (And.intro ll (And.intro wl (And.intro bk wk)));have HK:=hQ hK;clear hK;obtain⟨x,okx,hs2⟩:=vault_open (v:=v) (s:=s) hs1;clear c1;have c1:=hs2.facts;simp only [CellsAt,Nat.reduceAdd,and_true] at c1;obtain⟨aa,ca,F',hA⟩:=refH_refA (hs2.drew.pull1 (A1:=RefH r rs gs fl l));have TA:=hQ (tally_all x.p s.pool N _ _ (hs2.drew.pull1 (A1:=PoolA x.p s.pool)))
 have TR:=hQ (rtally_any r rs gs ⟨.slice aa l.length ca,fl,false⟩ N _ _ hA);rw [tallyTo_same j.now.tw, ← tally_same s.pool okp] at TR;have HS2:=hQ hs2;have HOX:=hQ okx;have HJ:=hQ j;subst hkd;generalize s.pool.tally N=tn at TA TR;clear hF hs1 hs2 j ll wl bk wk okp okx hA;go_enter Tryz.func27,Tryz.ntmps27
 go_wp2_with fail
 refine wS 396 [0,1,2,3,4,5,6,7,8,10,11,12,13,14,15] [(9,[],[0,1,2,3,4,5,7,10,11,12,13,14,15]),(16,[17,18],[0,1,2,3,4,5,7,10,11,12,14])] ?_;refine wpQ_all _ rfl rfl ?_;simp only [pick,pQ];iterate 15 (go_big_quiet_step (fail))
 refine wpQuiet_nil ?_;refine wpRest_act rfl ?_;go_wp2_with fail
 refine TA.out.mono ?_;rintro e w1 ⟨rfl,rfl⟩;go_wp2;refine onN_mk ?_;refine wpQ_nil ⟨?_,?_⟩
 · exact cQ
 refine wpRest_act rfl ?_;go_wp2_with fail
 refine TR.out.mono ?_;rintro e w1 ⟨rfl,rfl⟩;go_wp2;refine onN_mk ?_;refine wpQ_all _ rfl rfl ?_;simp only [pick,pQ];iterate 2 (go_big_quiet_step (fail))
 refine wpQuiet_nil ⟨?_,?_⟩
 · exact cQ
 refine wpRest_nil ?_;go_wp2;go_ret;obtain⟨ll,wl,bk,wk⟩:=HOK.out;exact⟨by simp,HST.out.drew,⟨s,H,rs,gs,fl,l,kv,ws,h,tv,xv,bs⟩,⟨HJ.out,ll,wl,bk,wk⟩,(vault_shut (v:=v) HOX.out HS2.out.drew).to⟩
end Go.Proofs.YtpfafhklppondaaGreat.Hz
namespace Go.Proofs.YtpfafhklppondaaGreat.Mz
open ChangeShapes WideShapes ChangeAt RowKit Sl Cop M2 P3 X3 Q2 X2 J4 L4 E5 P4 X4 Q6 Y6 X7 Z7 K9 V9 Qy G5 E7 F7 Uy G7 J7 K7 Xy Az Bz Q9 K6 K4
theorem do10_any(wb v r k:Nat)(z:LawS)(ok:LOK z k)(kind N K pk pl nx:Int)(ai ad:Option Addr)(mi ci md cd:Nat)(hK: -9223372036854775808≤K∧K≤9223372036854775807)(hkd:kind=10)(F:Pr)(w:World)(hF:OwnL (lawL wb v r z [F]) w):
 Calls Tryz.prog 27 #[.pointer (some ⟨wb,0,none⟩),.agg #[.int .i64 kind,.int .i64 N,.int .i64 K,.int .i64 pk,.int .i64 pl,.slice ai mi ci,.slice ad md cd,.int .i64 nx]] w fun e w'=>e= .returned (.bool true)∧Stays w w'∧DoneH wb v r k F w':=by
 obtain⟨s,H,rs,gs,fl,l,kv,ws,h,tv,xv,bs⟩:=z;obtain⟨j,ll,wl,bk,wk⟩:=ok;dsimp only at j ll wl bk wk;have okp:=(vault_ok (hF.pull1 (A1:=VaultA v s))).1;have hs1:=hF.alloc (opC11 kind N K pk pl (.slice ai mi ci) (.slice ad md cd) nx);have HST:=hQ ((Stays.refl w).alloc (opC11 kind N K pk pl (.slice ai mi ci) (.slice ad md cd) nx));have c1:=hs1.facts;simp only [CellsAt,Nat.reduceAdd,and_true] at c1
 have HOK:=hQ (And.intro ll (And.intro wl (And.intro bk wk)));have HK:=hQ hK;clear hK;have V:=hQ (vpages_any v s N j.now.tw.fit _ _ (hs1.drew.pull1 (A1:=VaultA v s)))
 have HL:=hQ (And.intro (nums_same j.now.tw N) (And.intro (nums_fit j.now.tw.fit (pagesIn s.pool N)) (show (numsOf s (pagesIn s.pool N)).length≤65536 by
  unfold numsOf
  rw [List.length_map]
  exact Nat.le_trans (pagesTo_len _ _ _) okp.n2)))
 have HJ:=hQ j;obtain⟨L,hL⟩:∃L,numsOf s (pagesIn s.pool N)=L:=⟨_,rfl⟩;rw [hL] at V HL;subst hkd;clear hF hs1 j ll wl bk wk okp hL;go_enter Tryz.func27,Tryz.ntmps27
 go_wp2_with fail
 refine wS 396 [0,1,2,3,4,5,6,8,9,10,11,12,13,15,16] [(7,[],[0,1,2,3,5,8,9,10,11,12,13,15,16]),(14,[],[0,1,2,3,5,8,9,10,12,15,16]),(17,[18],[1,2,3,5,8,9,10,12,15])] ?_;refine wpQ_all _ rfl rfl ?_;simp only [pick,pQ];iterate 15 (go_big_quiet_step (fail))
 refine wpQuiet_nil ?_;refine wpRest_act rfl ?_;go_wp2_with fail
 refine V.out.mono ?_;rintro e w1 ⟨st1,h1,fv,rfl,hwk,hs2⟩;have hs3:=OwnL.of2 hs2;clear c1;have c1:=hs3.facts;simp only [CellsAt,Nat.reduceAdd,and_true] at c1;have R:=hQ (rpagesH_any r rs gs fl l N _ _ (hs3.pull1 (A1:=RefH r rs gs fl l)));rw [← HL.out.1] at R;have HWK:=hQ hwk;have HST1:=hQ (HST.out.drew.trans st1);clear hs2 hs3 st1 V HST hwk;go_wp2;refine onN_mk ?_;refine wpQ_nil ⟨?_,?_⟩
 · exact cQ
 refine wpRest_act rfl ?_;go_wp2_with fail
 refine R.out.mono ?_;rintro e w2 ⟨st2,lv,h2,rfl,hwn,hs4⟩;have hs5:=OwnL.of2 hs4;clear c1;have c1:=hs5.facts;simp only [CellsAt,Nat.reduceAdd,and_true] at c1;obtain⟨ll,wl,bk,wk⟩:=HOK.out;obtain⟨hd1,hs6⟩:=(hs5.pull2 (A1:=Pr.own h) (A2:=Pr.own h1)).own_join;obtain⟨hd2,hs7⟩:=((OwnL.of1 hs6).pull2 (A1:=Pr.own (h.un h1)) (A2:=Pr.own h2)).own_join
 have hsub:h.sub ((h.un h1).un h2):=(Hp.sub_un_left h h1).trans (Hp.sub_un_left (h.un h1) h2);have hs8:=book_close (h:=(h.un h1).un h2) (wb:=wb) (v:=v) (r:=r) (kv:=kv) (tv:=tv) (xv:=xv) (bs:=bs) (bk.sub hsub) (OwnL.of1 hs7);have hwk2:=HWK.out.sub ((Hp.sub_un_right hd1).trans (Hp.sub_un_left (h.un h1) h2));obtain⟨xs2,y1,y2,y3⟩:=hwn
 have hwn2:NumsIn ((h.un h1).un h2) lv L:=⟨xs2,y1,y2.sub (Hp.sub_un_right hd2),fun i hx hl=>⟨(y3 i hx hl).1.sub (Hp.sub_un_right hd2),(y3 i hx hl).2.sub (Hp.sub_un_right hd2)⟩⟩;have GO:=hQ (goes_any wb v r kv ((h.un h1).un h2) fv lv L hwk2 hwn2 HL.out.2.1 HL.out.2.2 K _ _ (hs8.pull2 (A1:=BookE wb v r kv ((h.un h1).un h2)) (A2:=Pr.own ((h.un h1).un h2))));have HSUB:=hQ hsub
 have HST2:=hQ (HST1.out.trans st2);clear hs4 hs5 hs6 hs7 hs8 hd1 hd2 hsub hwk2 hwn2 y1 y2 y3 ll wl bk wk st2 R HST1 HWK;go_wp2;refine onN_mk ?_;refine wpQ_nil ⟨?_,?_⟩
 · exact cQ
 refine wpRest_act rfl ?_;go_wp2_with fail
 refine GO.out.mono ?_;rintro e w3 ⟨rfl,st3,hs9⟩;obtain⟨tv2,xv2,bs2,bk2,hs10⟩:=book_open (wb:=wb) (v:=v) (r:=r) (kv:=kv) (h:=(h.un h1).un h2) (OwnL.of2 hs9);clear c1;have c1:=hs10.facts;simp only [CellsAt,Nat.reduceAdd,and_true] at c1;have HS10:=hQ hs10;have HST3:=hQ (HST2.out.trans st3);have HBK:=hQ bk2;clear hs9 hs10 st3 bk2 GO HST2;go_wp2;refine onN_mk ?_;refine wpQ_all _ rfl rfl ?_
 simp only [pick,pQ];iterate 1 (go_big_quiet_step (fail))
 refine wpQuiet_nil ⟨?_,?_⟩
 · exact cQ
 refine wpRest_nil ?_;go_wp2;go_ret;obtain⟨ll,wl,bk,wk⟩:=HOK.out;exact⟨rfl,HST3.out,⟨s,H,rs,gs,fl,l,kv,ws,(h.un h1).un h2,tv2,xv2,bs2⟩,⟨HJ.out,ll,wl,HBK.out,fun x hx=>(wk x hx).sub HSUB.out⟩,HS10.out.to⟩
end Go.Proofs.YtpfafhklppondaaGreat.Mz
