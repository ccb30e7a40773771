/- The law's do, kind by kind; the conditions stand as hypotheses. -/
import Derived.Test.YtbobcmimkonnoaaGreatVaultLoadsM42
import Derived.Test.YtbobcmimkonnoaaGreatVaultLoadsM34
import Derived.Test.YtbobcmimkonnoaaGreatVaultLoadsM04
import Derived.Test.YtbobcmimkonnoaaGreatVaultLoadsM12
import Derived.Test.YtbobcmimkonnoaaGreatVaultLoadsM38
import Derived.Test.YtbobcmimkonnoaaGreatVaultLoadsM17
import Derived.Test.YtbobcmimkonnoaaGreatVaultLoadsM01
set_option maxRecDepth 100000
set_option maxHeartbeats 16000000
namespace Go.Proofs.YtbobcmimkonnoaaGreat.Wy
open ChangeShapes WideShapes ChangeAt RowKit Sl Cop D2 M3 Q3 M2 N2 E4 G4 Z4 J4 Q4 L6 P6 M7 Q7 B9 K9 Ly Y4 W6 X6 Qy Y6 Z6 B7 Ry Sy Ty L9 E6 F4
theorem do2_tell(wb v r k:Nat)(z:LawS)(ok:LOK z (k+1))(kind N K pk pl nx:Int)(ai ad:Option Addr)(mi ci md cd:Nat)(hK: -9223372036854775808≤K∧K≤9223372036854775807)(hkd:kind=2)(P:VaultS→Prop)(hP:∀a b s' H',QShadow z.s z.H N a b s' H'→P s')(F:Pr)(w:World)(hF:OwnL (lawL wb v r z [F]) w):
 Calls Tryz.prog 10 #[.pointer (some ⟨wb,0,none⟩),.agg #[.int .i64 kind,.int .i64 N,.int .i64 K,.int .i64 pk,.int .i64 pl,.slice ai mi ci,.slice ad md cd,.int .i64 nx]] w fun e w'=>e= .returned (.bool true)∧Stays w w'∧DoneP wb v r k P F w':=by
 obtain⟨s,H,rs,gs,fl,l,kv,ws,h,tv,xv,bs⟩:=z;obtain⟨j,ll,wl,bk,wk⟩:=ok;dsimp only at j ll wl bk wk hP;have HPP:=hQ hP;clear hP;have okp:=(vault_ok (hF.pull1 (A1:=VaultA v s))).1;have hs1:=hF.alloc (opC11 kind N K pk pl (.slice ai mi ci) (.slice ad md cd) nx);have HST:=hQ ((Stays.refl w).alloc (opC11 kind N K pk pl (.slice ai mi ci) (.slice ad md cd) nx));have c1:=hs1.facts
 simp only [CellsAt,Nat.reduceAdd,and_true] at c1;have HOK:=hQ (And.intro ll (And.intro wl (And.intro bk wk)));have HK:=hQ hK;clear hK;obtain⟨hV,hR⟩:=pair_shadowQ (H:=H) (v:=v) (r:=r) j okp (by omega) N;have V:=hQ (hV _ _ (hs1.drew.pull1 (A1:=VaultA v s)));have HR:=hQ hR;subst hkd;clear hF hs1 j ll wl bk wk okp hV hR;go_enter Tryz.func10,Tryz.ntmps10
 go_wp2_with fail
 refine wS 396 [0,1,2,3,4,5] [(6,[7,8,9,10,11],[0,1,2,4])] ?_;refine wpQ_all _ rfl rfl ?_;simp only [pick,pQ];iterate 6 (go_big_quiet_step (fail))
 refine wpQuiet_nil ?_;refine wpRest_act rfl ?_;go_wp2_with fail
 refine V.out.mono ?_;rintro e w1 ⟨a,b,s',H',hq,rfl,st1,hs2⟩;have HQQ:=hQ (HPP.out a b s' H' hq);have hs3:=OwnL.of1 hs2;clear c1;have c1:=hs3.facts;simp only [CellsAt,Nat.reduceAdd,and_true] at c1;have R:=hQ (HR.out a b s' H' hq _ _ (hs3.drew.pull1 (A1:=RefH r rs gs fl l)));have HST1:=hQ (HST.out.drew.trans st1);clear hs2 hs3 st1 V HR hq HST;go_wp2;refine onN_mk ?_;refine wpQ_all _ rfl rfl ?_
 simp only [pick,pQ];iterate 5 (go_big_quiet_step (fail))
 refine wpQuiet_nil ⟨?_,?_⟩
 · exact cQ
 refine wpRest_nil ?_;go_wp2_with fail
 refine wS 396 [0,1,2,3,4,5] [(6,[7,8,9,10,11],[0,1,2,4])] ?_;refine wpQ_all _ rfl rfl ?_;simp only [pick,pQ];iterate 6 (go_big_quiet_step (fail))
 refine wpQuiet_nil ?_;refine wpRest_act rfl ?_;go_wp2_with fail
 refine R.out.mono ?_;rintro e w2 ⟨rfl,st2,rs',gs',l',j',hl',hs4⟩;have hs5:=OwnL.of1 hs4;clear c1;have c1:=hs5.facts;simp only [CellsAt,Nat.reduceAdd,and_true] at c1;have HS5:=hQ hs5;have HST2:=hQ (HST1.out.drew.trans st2);have HJ:=hQ (And.intro j' hl');clear hs4 hs5 st2 R j' hl' HST1;go_wp2;refine onN_mk ?_;refine wpQ_all _ rfl rfl ?_;simp only [pick,pQ];iterate 5 (go_big_quiet_step (fail))
 refine wpQuiet_nil ⟨?_,?_⟩
 · exact cQ
 refine wpRest_nil ?_;go_wp2;go_ret;obtain⟨ll,wl,bk,wk⟩:=HOK.out;have hl2:=HJ.out.2;exact⟨rfl,HST2.out,⟨s',H',rs',gs',fl,l',kv,ws,h,tv,xv,bs⟩,⟨HJ.out.1,by show l'.length+k≤ _;omega,by show ws.length+k≤ _;omega,bk,wk⟩,HQQ.out,HS5.out.to⟩
theorem do2_any(wb v r k:Nat)(z:LawS)(ok:LOK z (k+1))(kind N K pk pl nx:Int)(ai ad:Option Addr)(mi ci md cd:Nat)(hK: -9223372036854775808≤K∧K≤9223372036854775807)(hkd:kind=2)(F:Pr)(w:World)(hF:OwnL (lawL wb v r z [F]) w):
 Calls Tryz.prog 10 #[.pointer (some ⟨wb,0,none⟩),.agg #[.int .i64 kind,.int .i64 N,.int .i64 K,.int .i64 pk,.int .i64 pl,.slice ai mi ci,.slice ad md cd,.int .i64 nx]] w fun e w'=>e= .returned (.bool true)∧Stays w w'∧DoneH wb v r k F w':=by
 refine(do2_tell wb v r k z ok kind N K pk pl nx ai ad mi ci md cd hK hkd (fun _=>True) (fun _ _ _ _ _=>trivial) F w hF).mono ?_;rintro e w' ⟨h1,h2,h3⟩;exact⟨h1,h2,h3.done⟩
theorem do4_tell(wb v r k:Nat)(z:LawS)(ok:LOK z (k+1))(kind N K pk pl nx:Int)(ai ad:Option Addr)(mi ci md cd:Nat)(hK: -9223372036854775808≤K∧K≤9223372036854775807)(hkd:kind=4)(P:VaultS→Prop)(hP:∀b s' H',QKeep z.s z.H N b s' H'→P s')(F:Pr)(w:World)(hF:OwnL (lawL wb v r z [F]) w):
 Calls Tryz.prog 10 #[.pointer (some ⟨wb,0,none⟩),.agg #[.int .i64 kind,.int .i64 N,.int .i64 K,.int .i64 pk,.int .i64 pl,.slice ai mi ci,.slice ad md cd,.int .i64 nx]] w fun e w'=>e= .returned (.bool true)∧Stays w w'∧DoneP wb v r k P F w':=by
 obtain⟨s,H,rs,gs,fl,l,kv,ws,h,tv,xv,bs⟩:=z;obtain⟨j,ll,wl,bk,wk⟩:=ok;dsimp only at j ll wl bk wk hP;have HPP:=hQ hP;clear hP;have okp:=(vault_ok (hF.pull1 (A1:=VaultA v s))).1;have hs1:=hF.alloc (opC11 kind N K pk pl (.slice ai mi ci) (.slice ad md cd) nx);have HST:=hQ ((Stays.refl w).alloc (opC11 kind N K pk pl (.slice ai mi ci) (.slice ad md cd) nx));have c1:=hs1.facts
 simp only [CellsAt,Nat.reduceAdd,and_true] at c1;have HOK:=hQ (And.intro ll (And.intro wl (And.intro bk wk)));have HK:=hQ hK;clear hK;obtain⟨hV,hR⟩:=pair_keepQ (H:=H) (v:=v) (r:=r) j okp (by omega) N;have V:=hQ (hV _ _ (hs1.drew.pull1 (A1:=VaultA v s)));have HR:=hQ hR;subst hkd;clear hF hs1 j ll wl bk wk okp hV hR;go_enter Tryz.func10,Tryz.ntmps10
 go_wp2_with fail
 refine wS 396 [0,1,2,3,4,5] [(6,[7],[0,1,2,4])] ?_;refine wpQ_all _ rfl rfl ?_;simp only [pick,pQ];iterate 6 (go_big_quiet_step (fail))
 refine wpQuiet_nil ?_;refine wpRest_act rfl ?_;go_wp2_with fail
 refine V.out.mono ?_;rintro e w1 ⟨b,s',H',hq,rfl,st1,hs2⟩;have HQQ:=hQ (HPP.out b s' H' hq);have hs3:=OwnL.of1 hs2;clear c1;have c1:=hs3.facts;simp only [CellsAt,Nat.reduceAdd,and_true] at c1;have R:=hQ (HR.out b s' H' hq _ _ (hs3.drew.pull1 (A1:=RefH r rs gs fl l)));have HST1:=hQ (HST.out.drew.trans st1);clear hs2 hs3 st1 V HR hq HST;go_wp2;refine onN_mk ?_;refine wpQ_all _ rfl rfl ?_
 simp only [pick,pQ];iterate 1 (go_big_quiet_step (fail))
 refine wpQuiet_nil ⟨?_,?_⟩
 · exact cQ
 refine wpRest_nil ?_;go_wp2_with fail
 refine wS 396 [0,1,2,3,4,5,6] [(7,[8,9],[0,1,2,3,5])] ?_;refine wpQ_all _ rfl rfl ?_;simp only [pick,pQ];iterate 7 (go_big_quiet_step (fail))
 refine wpQuiet_nil ?_;refine wpRest_act rfl ?_;go_wp2_with fail
 refine R.out.mono ?_;rintro e w2 ⟨rfl,st2,rs',gs',l',j',hl',hs4⟩;have hs5:=OwnL.of1 hs4;clear c1;have c1:=hs5.facts;simp only [CellsAt,Nat.reduceAdd,and_true] at c1;have HS5:=hQ hs5;have HST2:=hQ (HST1.out.drew.trans st2);have HJ:=hQ (And.intro j' hl');clear hs4 hs5 st2 R j' hl' HST1;go_wp2;refine onN_mk ?_;refine wpQ_all _ rfl rfl ?_;simp only [pick,pQ];iterate 2 (go_big_quiet_step (fail))
 refine wpQuiet_nil ⟨?_,?_⟩
 · exact cQ
 refine wpRest_nil ?_;go_wp2;go_ret;obtain⟨ll,wl,bk,wk⟩:=HOK.out;have hl2:=HJ.out.2;exact⟨rfl,HST2.out,⟨s',H',rs',gs',fl,l',kv,ws,h,tv,xv,bs⟩,⟨HJ.out.1,by show l'.length+k≤ _;omega,by show ws.length+k≤ _;omega,bk,wk⟩,HQQ.out,HS5.out.to⟩
theorem do4_any(wb v r k:Nat)(z:LawS)(ok:LOK z (k+1))(kind N K pk pl nx:Int)(ai ad:Option Addr)(mi ci md cd:Nat)(hK: -9223372036854775808≤K∧K≤9223372036854775807)(hkd:kind=4)(F:Pr)(w:World)(hF:OwnL (lawL wb v r z [F]) w):
 Calls Tryz.prog 10 #[.pointer (some ⟨wb,0,none⟩),.agg #[.int .i64 kind,.int .i64 N,.int .i64 K,.int .i64 pk,.int .i64 pl,.slice ai mi ci,.slice ad md cd,.int .i64 nx]] w fun e w'=>e= .returned (.bool true)∧Stays w w'∧DoneH wb v r k F w':=by
 refine(do4_tell wb v r k z ok kind N K pk pl nx ai ad mi ci md cd hK hkd (fun _=>True) (fun _ _ _ _=>trivial) F w hF).mono ?_;rintro e w' ⟨h1,h2,h3⟩;exact⟨h1,h2,h3.done⟩
theorem do5_any(wb v r k:Nat)(z:LawS)(ok:LOK z (k+1))(kind N K pk pl nx:Int)(ai ad:Option Addr)(mi ci md cd:Nat)(hK: -9223372036854775808≤K∧K≤9223372036854775807)(hkd:kind=5)(F:Pr)(w:World)(hF:OwnL (lawL wb v r z [F]) w):
 Calls Tryz.prog 10 #[.pointer (some ⟨wb,0,none⟩),.agg #[.int .i64 kind,.int .i64 N,.int .i64 K,.int .i64 pk,.int .i64 pl,.slice ai mi ci,.slice ad md cd,.int .i64 nx]] w fun e w'=>e= .returned (.bool true)∧Stays w w'∧DoneH wb v r k F w':=by
 obtain⟨s,H,rs,gs,fl,l,kv,ws,h,tv,xv,bs⟩:=z;obtain⟨j,ll,wl,bk,wk⟩:=ok;dsimp only at j ll wl bk wk;have okp:=(vault_ok (hF.pull1 (A1:=VaultA v s))).1;have hs1:=hF.alloc (opC11 kind N K pk pl (.slice ai mi ci) (.slice ad md cd) nx);have HST:=hQ ((Stays.refl w).alloc (opC11 kind N K pk pl (.slice ai mi ci) (.slice ad md cd) nx));have c1:=hs1.facts;simp only [CellsAt,Nat.reduceAdd,and_true] at c1
 have HOK:=hQ (And.intro ll (And.intro wl (And.intro bk wk)));have HK:=hQ hK;clear hK;obtain⟨Q,hV,hR⟩:=pair_drop (v:=v) (r:=r) j okp (by omega) N;have V:=hQ (hV _ _ (hs1.drew.pull1 (A1:=VaultA v s)));have HR:=hQ hR;subst hkd;clear hF hs1 j ll wl bk wk okp hV hR;go_enter Tryz.func10,Tryz.ntmps10
 go_wp2_with fail
 refine wS 396 [0,1,2,3,4,5] [(6,[7],[0,1,2,4])] ?_;refine wpQ_all _ rfl rfl ?_;simp only [pick,pQ];iterate 6 (go_big_quiet_step (fail))
 refine wpQuiet_nil ?_;refine wpRest_act rfl ?_;go_wp2_with fail
 refine V.out.mono ?_;rintro e w1 ⟨b,s',H',hq,rfl,st1,hs2⟩;have hs3:=OwnL.of1 hs2;clear c1;have c1:=hs3.facts;simp only [CellsAt,Nat.reduceAdd,and_true] at c1;have R:=hQ (HR.out b s' H' hq _ _ (hs3.drew.pull1 (A1:=RefH r rs gs fl l)));have HST1:=hQ (HST.out.drew.trans st1);clear hs2 hs3 st1 V HR hq HST;go_wp2;refine onN_mk ?_;refine wpQ_all _ rfl rfl ?_;simp only [pick,pQ]
 iterate 1 (go_big_quiet_step (fail))
 refine wpQuiet_nil ⟨?_,?_⟩
 · exact cQ
 refine wpRest_nil ?_;go_wp2_with fail
 refine wS 396 [0,1,2,3,4,5,6] [(7,[8,9],[0,1,2,3,5])] ?_;refine wpQ_all _ rfl rfl ?_;simp only [pick,pQ];iterate 7 (go_big_quiet_step (fail))
 refine wpQuiet_nil ?_;refine wpRest_act rfl ?_;go_wp2_with fail
 refine R.out.mono ?_;rintro e w2 ⟨rfl,st2,rs',gs',l',j',hl',hs4⟩;have hs5:=OwnL.of1 hs4;clear c1;have c1:=hs5.facts;simp only [CellsAt,Nat.reduceAdd,and_true] at c1;have HS5:=hQ hs5;have HST2:=hQ (HST1.out.drew.trans st2);have HJ:=hQ (And.intro j' hl');clear hs4 hs5 st2 R j' hl' HST1;go_wp2;refine onN_mk ?_;refine wpQ_all _ rfl rfl ?_;simp only [pick,pQ];iterate 2 (go_big_quiet_step (fail))
 refine wpQuiet_nil ⟨?_,?_⟩
 · exact cQ
 refine wpRest_nil ?_;go_wp2;go_ret;obtain⟨ll,wl,bk,wk⟩:=HOK.out;have hl2:=HJ.out.2;exact⟨rfl,HST2.out,⟨s',H',rs',gs',fl,l',kv,ws,h,tv,xv,bs⟩,⟨HJ.out.1,by show l'.length+k≤ _;omega,by show ws.length+k≤ _;omega,bk,wk⟩,HS5.out.to⟩
end Go.Proofs.YtbobcmimkonnoaaGreat.Wy
namespace Go.Proofs.YtbobcmimkonnoaaGreat.Yy
open ChangeShapes WideShapes ChangeAt RowKit Sl Cop D2 M3 Q3 M2 N2 E4 G4 Z4 J4 Q4 L6 P6 M7 Q7 B9 K9 Ly Y4 W6 X6 Qy Y6 Z6 B7 Ry Sy Ty L9 E6 F4 Ny Z5 U3
theorem tally_same(s:PoolS)(ok:PoolOk s)(k:Int):s.tally k=((tallyTo s k s.counts.length:Nat):Int):=by
 have hlen:=ok.len
 have e0:s.counts.zip s.last=(List.range s.counts.length).map fun i=>(s.counts.getD i 0,s.last.getD i false):=by
  apply List.ext_getElem
  · simp [hlen]
  · intro i h1 h2
    simp only [List.length_zip] at h1;have h3:i<s.counts.length:=by omega
    have h4:i<s.last.length:=by omega
    simp [h3,h4]
 have e1:∀i,i<s.counts.length→s.state ((i:Int)+1)=stateOf (s.counts.getD i 0) (s.last.getD i false):=fun i hi=>by
  have ht:s.there ((i:Int)+1):=⟨by omega,by omega⟩;rw [state_there ht,count_idx hi];unfold PoolS.lasts;rw [show ((i:Int)+1).toNat-1=i by omega]
 have e2:s.many k=tallyTo s k s.counts.length:=by
  unfold PoolS.many tallyTo;rw [e0,List.filter_map,List.length_map];congr 1
  refine List.filter_congr fun i hi=> ?_
  rw [e1 i (List.mem_range.1 hi)];rfl
 unfold PoolS.tally;split
 · rename_i hk
   have e3:tallyTo s k s.counts.length=0:=by
    unfold tallyTo;rw [List.length_eq_zero_iff,List.filter_eq_nil_iff];intro i hi;rw [e1 i (List.mem_range.1 hi)];unfold stateOf;simp only [beq_iff_eq];split<;>split<;>omega
   rw [e3];rfl
 · rw [e2]
theorem tallyTo_same {s:VaultS}{rs:PoolS}{gs:List PageV}(tw:Go.Cop.Twin s rs gs)(k:Int):tallyTo rs k rs.counts.length=tallyTo s.pool k s.pool.counts.length:=by
 unfold tallyTo;rw [tw.cs];congr 1
 refine List.filter_congr fun i _=> ?_
 rw [tw.state]
theorem do7_any(wb v r k:Nat)(z:LawS)(ok:LOK z k)(kind N K pk pl nx:Int)(ai ad:Option Addr)(mi ci md cd:Nat)(hK: -9223372036854775808≤K∧K≤9223372036854775807)(hkd:kind=7)(F:Pr)(w:World)(hF:OwnL (lawL wb v r z [F]) w):
 Calls Tryz.prog 10 #[.pointer (some ⟨wb,0,none⟩),.agg #[.int .i64 kind,.int .i64 N,.int .i64 K,.int .i64 pk,.int .i64 pl,.slice ai mi ci,.slice ad md cd,.int .i64 nx]] w fun e w'=>e= .returned (.bool true)∧Stays w w'∧DoneH wb v r k F w':=by
 obtain⟨s,H,rs,gs,fl,l,kv,ws,h,tv,xv,bs⟩:=z;obtain⟨j,ll,wl,bk,wk⟩:=ok;dsimp only at j ll wl bk wk;have okp:=(vault_ok (hF.pull1 (A1:=VaultA v s))).1;have hs1:=hF.alloc (opC11 kind N K pk pl (.slice ai mi ci) (.slice ad md cd) nx);have HST:=hQ ((Stays.refl w).alloc (opC11 kind N K pk pl (.slice ai mi ci) (.slice ad md cd) nx));have c1:=hs1.facts;simp only [CellsAt,Nat.reduceAdd,and_true] at c1
 have HOK:=hQ (And.intro ll (And.intro wl (And.intro bk wk)));have HK:=hQ hK;clear hK;obtain⟨x,okx,hs2⟩:=vault_open (v:=v) (s:=s) hs1;clear c1;have c1:=hs2.facts;simp only [CellsAt,Nat.reduceAdd,and_true] at c1;obtain⟨aa,ca,F',hA⟩:=refH_refA (hs2.drew.pull1 (A1:=RefH r rs gs fl l));have CA:=hQ (count_A x.p s.pool N _ _ (hs2.drew.pull1 (A1:=PoolA x.p s.pool)))
 have SA:=hQ (pool_state x.p s.pool N _ _ (hs2.drew.pull1 (A1:=PoolA x.p s.pool)));have CR:=hQ (rcount_any r rs gs ⟨.slice aa l.length ca,fl,false⟩ N _ _ hA);have SR:=hQ (rstate_any r rs gs ⟨.slice aa l.length ca,fl,false⟩ N _ _ hA);rw [j.now.tw.count] at CR;rw [j.now.tw.state] at SR;have HS2:=hQ hs2;have HOX:=hQ okx;have HJ:=hQ j;subst hkd;generalize s.pool.count N=cn at CA CR
 generalize s.pool.state N=sn at SA SR;clear hF hs1 hs2 j ll wl bk wk okp okx hA;go_enter Tryz.func10,Tryz.ntmps10
 go_wp2_with fail
 refine wS 396 [0,1,2,3,4,5,6,7,8,10,11,12,13,14,15] [(9,[],[0,1,2,3,4,5,7,10,11,12,13,14,15]),(16,[17,18,19,20,21,22,23,24,25,26,27,29,30,31,32,33,34],[0,1,2,3,4,5,7,10,11,12,14]),(28,[],[0,1,2,3,4,5,7,10,11,12,14,17,19,20,21,22,23,24,26,29,30,31,32,33,34]),(35,[36,37,38],[0,1,2,3,4,5,7,10,11,12,14,17,19,20,21,22,23,24,26,29,30,31,33])] ?_;refine wpQ_all _ rfl rfl ?_;simp only [pick,pQ]
 iterate 15 (go_big_quiet_step (fail))
 refine wpQuiet_nil ?_;refine wpRest_act rfl ?_;go_wp2_with fail
 refine CA.out.mono ?_;rintro e w1 ⟨rfl,rfl⟩;go_wp2;refine onN_mk ?_;refine wpQ_nil ⟨?_,?_⟩
 · exact cQ
 refine wpRest_act rfl ?_;go_wp2_with fail
 refine CR.out.mono ?_;rintro e w1 ⟨rfl,rfl⟩;go_wp2;refine onN_mk ?_;refine wpQ_all _ rfl rfl ?_;simp only [pick,pQ];iterate 17 (go_big_quiet_step (fail))
 refine wpQuiet_nil ⟨?_,?_⟩
 · exact cQ
 refine wpRest_act rfl ?_;go_wp2_with fail
 refine SA.out.mono ?_;rintro e w1 ⟨rfl,rfl⟩;go_wp2;refine onN_mk ?_;refine wpQ_nil ⟨?_,?_⟩
 · exact cQ
 refine wpRest_act rfl ?_;go_wp2_with fail
 refine SR.out.mono ?_;rintro e w1 ⟨rfl,rfl⟩;go_wp2;refine onN_mk ?_;refine wpQ_all _ rfl rfl ?_;simp only [pick,pQ];iterate 3 (go_big_quiet_step (fail))
 refine wpQuiet_nil ⟨?_,?_⟩
 · exact cQ
 refine wpRest_nil ?_;go_wp2;go_ret;obtain⟨ll,wl,bk,wk⟩:=HOK.out;exact⟨by simp,HST.out.drew,⟨s,H,rs,gs,fl,l,kv,ws,h,tv,xv,bs⟩,⟨HJ.out,ll,wl,bk,wk⟩,(vault_shut (v:=v) HOX.out HS2.out.drew).to⟩
theorem do8_any(wb v r k:Nat)(z:LawS)(ok:LOK z k)(kind N K pk pl nx:Int)(ai ad:Option Addr)(mi ci md cd:Nat)(hK: -9223372036854775808≤K∧K≤9223372036854775807)(hkd:kind=8)(F:Pr)(w:World)(hF:OwnL (lawL wb v r z [F]) w):
 Calls Tryz.prog 10 #[.pointer (some ⟨wb,0,none⟩),.agg #[.int .i64 kind,.int .i64 N,.int .i64 K,.int .i64 pk,.int .i64 pl,.slice ai mi ci,.slice ad md cd,.int .i64 nx]] w fun e w'=>e= .returned (.bool true)∧Stays w w'∧DoneH wb v r k F w':=by
 obtain⟨s,H,rs,gs,fl,l,kv,ws,h,tv,xv,bs⟩:=z;obtain⟨j,ll,wl,bk,wk⟩:=ok;dsimp only at j ll wl bk wk;have okp:=(vault_ok (hF.pull1 (A1:=VaultA v s))).1;have hs1:=hF.alloc (opC11 kind N K pk pl (.slice ai mi ci) (.slice ad md cd) nx);have HST:=hQ ((Stays.refl w).alloc (opC11 kind N K pk pl (.slice ai mi ci) (.slice ad md cd) nx));have c1:=hs1.facts;simp only [CellsAt,Nat.reduceAdd,and_true] at c1
 have HOK:=hQ (And.intro ll (And.intro wl (And.intro bk wk)));have HK:=hQ hK;clear hK;obtain⟨x,okx,hs2⟩:=vault_open (v:=v) (s:=s) hs1;clear c1;have c1:=hs2.facts;simp only [CellsAt,Nat.reduceAdd,and_true] at c1;obtain⟨aa,ca,F',hA⟩:=refH_refA (hs2.drew.pull1 (A1:=RefH r rs gs fl l));have TA:=hQ (tally_all x.p s.pool N _ _ (hs2.drew.pull1 (A1:=PoolA x.p s.pool)))
 have TR:=hQ (rtally_any r rs gs ⟨.slice aa l.length ca,fl,false⟩ N _ _ hA);rw [tallyTo_same j.now.tw, ← tally_same s.pool okp] at TR;have HS2:=hQ hs2;have HOX:=hQ okx;have HJ:=hQ j;subst hkd;generalize s.pool.tally N=tn at TA TR;clear hF hs1 hs2 j ll wl bk wk okp okx hA;go_enter Tryz.func10,Tryz.ntmps10
 go_wp2_with fail
 refine wS 396 [0,1,2,3,4,5,6,7,8,10,11,12,13,14,15] [(9,[],[0,1,2,3,4,5,7,10,11,12,13,14,15]),(16,[17,18],[0,1,2,3,4,5,7,10,11,12,14])] ?_;refine wpQ_all _ rfl rfl ?_;simp only [pick,pQ];iterate 15 (go_big_quiet_step (fail))
 refine wpQuiet_nil ?_;refine wpRest_act rfl ?_;go_wp2_with fail
 refine TA.out.mono ?_;rintro e w1 ⟨rfl,rfl⟩;go_wp2;refine onN_mk ?_;refine wpQ_nil ⟨?_,?_⟩
 · exact cQ
 refine wpRest_act rfl ?_;go_wp2_with fail
 refine TR.out.mono ?_;rintro e w1 ⟨rfl,rfl⟩;go_wp2;refine onN_mk ?_;refine wpQ_all _ rfl rfl ?_;simp only [pick,pQ];iterate 2 (go_big_quiet_step (fail))
 refine wpQuiet_nil ⟨?_,?_⟩
 · exact cQ
 refine wpRest_nil ?_;go_wp2;go_ret;obtain⟨ll,wl,bk,wk⟩:=HOK.out;exact⟨by simp,HST.out.drew,⟨s,H,rs,gs,fl,l,kv,ws,h,tv,xv,bs⟩,⟨HJ.out,ll,wl,bk,wk⟩,(vault_shut (v:=v) HOX.out HS2.out.drew).to⟩
theorem do11_any(wb v r k:Nat)(z:LawS)(ok:LOK z k)(kind N K pk pl nx:Int)(ai ad:Option Addr)(mi ci md cd:Nat)(hK: -9223372036854775808≤K∧K≤9223372036854775807)(hkd:kind=11)(F:Pr)(w:World)(hF:OwnL (lawL wb v r z [F]) w):
 Calls Tryz.prog 10 #[.pointer (some ⟨wb,0,none⟩),.agg #[.int .i64 kind,.int .i64 N,.int .i64 K,.int .i64 pk,.int .i64 pl,.slice ai mi ci,.slice ad md cd,.int .i64 nx]] w fun e w'=>e= .returned (.bool true)∧Stays w w'∧DoneH wb v r k F w':=by
 obtain⟨s,H,rs,gs,fl,l,kv,ws,h,tv,xv,bs⟩:=z;obtain⟨j,ll,wl,bk,wk⟩:=ok;dsimp only at j ll wl bk wk;have okp:=(vault_ok (hF.pull1 (A1:=VaultA v s))).1;have hs1:=hF.alloc (opC11 kind N K pk pl (.slice ai mi ci) (.slice ad md cd) nx);have HST:=hQ ((Stays.refl w).alloc (opC11 kind N K pk pl (.slice ai mi ci) (.slice ad md cd) nx));have c1:=hs1.facts;simp only [CellsAt,Nat.reduceAdd,and_true] at c1
 have HOK:=hQ (And.intro ll (And.intro wl (And.intro bk wk)));have HK:=hQ hK;clear hK;obtain⟨n1,n2⟩:=j.len;have hb:=Join.bound j (hs1.pull1 (A1:=VaultA v s));have MV:=hQ (vmark_A v s _ _ (hs1.drew.pull1 (A1:=VaultA v s)));have HB:=hQ hb;rw [n2, ← j.fe] at MV;have HS1:=hQ hs1;have HJ:=hQ j;subst hkd;clear hF hs1 j ll wl bk wk okp hb n1 n2;go_enter Tryz.func10,Tryz.ntmps10
 go_wp2_with fail
 refine wS 396 [0,1,2,3,5,6,7,8] [(4,[],[0,1,2,5,6,7,8]),(9,[10,11],[0,1,2,5,6,7])] ?_;refine wpQ_all _ rfl rfl ?_;simp only [pick,pQ];iterate 8 (go_big_quiet_step (fail))
 refine wpQuiet_nil ?_;refine wpRest_act rfl ?_;go_wp2_with fail
 refine MV.out.mono ?_;rintro e w1 ⟨rfl,ho⟩;have hs2:OwnL _ w1:=⟨HS1.out.drew.sat.only ho⟩;clear c1;have c1:=hs2.facts;simp only [CellsAt,Nat.reduceAdd,and_true] at c1;have MR:=hQ (rmarkH_any r rs gs fl l HB.out _ _ (hs2.pull1 (A1:=RefH r rs gs fl l)));have HS2:=hQ hs2;have HST1:=hQ (HST.out.drew.trans ho.st);clear hs2 ho MV HS1 HST;go_wp2;refine onN_mk ?_;refine wpQ_nil ⟨?_,?_⟩
 · exact cQ
 refine wpRest_act rfl ?_;go_wp2_with fail
 refine MR.out.mono ?_;rintro e w2 ⟨rfl,nn,rfl⟩;go_wp2;refine onN_mk ?_;refine wpQ_all _ rfl rfl ?_;simp only [pick,pQ];iterate 2 (go_big_quiet_step (fail))
 refine wpQuiet_nil ⟨?_,?_⟩
 · exact cQ
 refine wpRest_nil ?_;go_wp2;go_ret;obtain⟨ll,wl,bk,wk⟩:=HOK.out;exact⟨by simp,HST1.out.drewN nn,⟨s,H,rs,gs,fl,l,kv,ws,h,tv,xv,bs⟩,⟨HJ.out,ll,wl,bk,wk⟩,(HS2.out.drewN nn).to⟩
theorem do13_any(wb v r k:Nat)(z:LawS)(ok:LOK z (k+1))(kind N K pk pl nx:Int)(ai ad:Option Addr)(mi ci md cd:Nat)(hK: -9223372036854775808≤K∧K≤9223372036854775807)(hkd:kind=13)(F:Pr)(w:World)(hF:OwnL (lawL wb v r z [F]) w):
 Calls Tryz.prog 10 #[.pointer (some ⟨wb,0,none⟩),.agg #[.int .i64 kind,.int .i64 N,.int .i64 K,.int .i64 pk,.int .i64 pl,.slice ai mi ci,.slice ad md cd,.int .i64 nx]] w fun e w'=>e= .returned (.bool true)∧Stays w w'∧DoneH wb v r k F w':=by
 obtain⟨s,H,rs,gs,fl,l,kv,ws,h,tv,xv,bs⟩:=z;obtain⟨j,ll,wl,bk,wk⟩:=ok;dsimp only at j ll wl bk wk;have okp:=(vault_ok (hF.pull1 (A1:=VaultA v s))).1;have hs1:=hF.alloc (opC11 kind N K pk pl (.slice ai mi ci) (.slice ad md cd) nx);have HST:=hQ ((Stays.refl w).alloc (opC11 kind N K pk pl (.slice ai mi ci) (.slice ad md cd) nx));have c1:=hs1.facts;simp only [CellsAt,Nat.reduceAdd,and_true] at c1
 have HOK:=hQ (And.intro ll (And.intro wl (And.intro bk wk)));have HK:=hQ hK;clear hK;have hb:=Join.bound j (hs1.pull1 (A1:=VaultA v s));obtain⟨hV,hR⟩:=pair_settle (v:=v) (r:=r) j okp hb;have V:=hQ (hV _ _ (hs1.pull1 (A1:=VaultA v s)));have HR:=hQ hR;subst hkd;clear hF hs1 j ll wl bk wk okp hb hV hR;go_enter Tryz.func10,Tryz.ntmps10
 go_wp2_with fail
 refine V.out.mono ?_;rintro e w1 ⟨rfl,st1,hs2⟩;have hs3:=OwnL.of1 hs2;clear c1;have c1:=hs3.facts;simp only [CellsAt,Nat.reduceAdd,and_true] at c1;have R:=hQ (HR.out _ _ (hs3.pull1 (A1:=RefH r rs gs fl l)));have HST1:=hQ (HST.out.trans st1);clear hs2 hs3 st1 V HR HST;go_wp2_with fail
 refine R.out.mono ?_;rintro e w2 ⟨rfl,st2,rs',gs',fl',j',hs4⟩;have HS5:=hQ (OwnL.of1 hs4);have HST2:=hQ (HST1.out.trans st2);have HJ:=hQ j';clear hs4 st2 R j' HST1 c1;go_wp2;go_ret;obtain⟨ll,wl,bk,wk⟩:=HOK.out;exact⟨rfl,HST2.out,⟨s.settled,[],rs',gs',fl',[],kv,ws,h,tv,xv,bs⟩,⟨HJ.out,by show 0+k≤ _;omega,by show ws.length+k≤ _;omega,bk,wk⟩,HS5.out.to⟩
end Go.Proofs.YtbobcmimkonnoaaGreat.Yy
namespace Go.Proofs.YtbobcmimkonnoaaGreat.Zy
open ChangeShapes WideShapes ChangeAt RowKit Sl Cop D2 M3 Q3 M2 N2 E4 G4 Z4 J4 Q4 L6 P6 M7 Q7 B9 K9 Ly Y4 W6 X6 Qy Y6 Z6 B7 Ry Sy Ty L9 E6 F4 Ny Z5 U3
theorem do9_any(wb v r k:Nat)(z:LawS)(ok:LOK z k)(kind N K pk pl nx:Int)(ai ad:Option Addr)(mi ci md cd:Nat)(hK: -9223372036854775808≤K∧K≤9223372036854775807)(hkd:kind=9)(F:Pr)(w:World)(hF:OwnL (lawL wb v r z [F]) w):
 Calls Tryz.prog 10 #[.pointer (some ⟨wb,0,none⟩),.agg #[.int .i64 kind,.int .i64 N,.int .i64 K,.int .i64 pk,.int .i64 pl,.slice ai mi ci,.slice ad md cd,.int .i64 nx]] w fun e w'=>e= .returned (.bool true)∧Stays w w'∧DoneH wb v r k F w':=by
 obtain⟨s,H,rs,gs,fl,l,kv,ws,h,tv,xv,bs⟩:=z;obtain⟨j,ll,wl,bk,wk⟩:=ok;dsimp only at j ll wl bk wk;have okp:=(vault_ok (hF.pull1 (A1:=VaultA v s))).1;have hs1:=hF.alloc (opC11 kind N K pk pl (.slice ai mi ci) (.slice ad md cd) nx);have HST:=hQ ((Stays.refl w).alloc (opC11 kind N K pk pl (.slice ai mi ci) (.slice ad md cd) nx));have c1:=hs1.facts;simp only [CellsAt,Nat.reduceAdd,and_true] at c1
 have HOK:=hQ (And.intro ll (And.intro wl (And.intro bk wk)));have HK:=hQ hK;clear hK;obtain⟨x,okx,hs2⟩:=vault_open (v:=v) (s:=s) hs1;clear c1;have c1:=hs2.facts;simp only [CellsAt,Nat.reduceAdd,and_true] at c1;have CA:=hQ (counts_A x.p s.pool _ _ (hs2.pull1 (A1:=PoolA x.p s.pool)));rw [← j.now.tw.cs] at CA;have hn2:rs.counts.length≤65536:=by rw [j.lenC];exact okp.n2
 have hn3:(rs.counts.length:Int)≤65536:=by omega
 have HN2:=hQ hn2;have HOX:=hQ okx;have HJ:=hQ j;subst hkd;clear hF hs1 hs2 j ll wl bk wk okp okx hn2;go_enter Tryz.func10,Tryz.ntmps10
 go_wp2_with fail
 refine CA.out.mono ?_;rintro e w1 ⟨v',rfl,hs3,st1⟩;obtain⟨ag,cg,rfl⟩:=Row.shape hs3;have hs4:=OwnL.of2 hs3;obtain⟨yr,okr,hs5⟩:=refH_open (r:=r) (s:=rs) (gs:=gs) (fl:=fl) (l:=l) hs4;obtain⟨ac,cc,ecv⟩:=Row.shape (hs5.pull1 (A1:=IntsRow yr.cv rs.counts));have HCV:=hQ ecv;obtain⟨a1,ha1,hs6⟩:=hs5.arena (IntsRow yr.cv rs.counts)
 obtain⟨a2,ha2,hs7⟩:=hs6.arena (IntsRow (.slice ag rs.counts.length cg) rs.counts);clear c1;have c1:=hs7.facts;simp only [CellsAt,Nat.reduceAdd,and_true] at c1;rw [ecv] at c1
 have EQ:=hQ (eqints_same a2 a1 (.slice ag rs.counts.length cg) (.slice ac rs.counts.length cc) rs.counts (Row.rowIn ha2) (by have h5:RowIn a1 1 yr.cv rs.counts.length (rs.counts.map (Value.int .i64)):=Row.rowIn ha1;rw [ecv] at h5;exact h5) HN2.out w1 hs7.le (hs7.pull1 (A1:=Pr.own a1)).own);have HA:=hQ (And.intro ha1 (And.intro ha2 okr));have HS7:=hQ hs7;have HST1:=hQ (HST.out.trans st1)
 clear hs3 hs4 hs5 hs6 hs7 st1 CA HST ha1 ha2 okr ecv;go_wp2_with fail
 refine EQ.out.mono ?_;rintro e w2 ⟨rfl,ho⟩;have hs8:=(HS7.out.ext ho.heap).back (IntsRow (.slice ag rs.counts.length cg) rs.counts) HA.out.2.1;have hs9:=refH_shut (r:=r) (fl:=fl) HA.out.2.2 (hs8.back (IntsRow yr.cv rs.counts) HA.out.1);have hs10:=vault_shut (v:=v) HOX.out hs9
 have hs11:=hs10.to (M:= [IntsRow (.slice ag rs.counts.length cg) rs.counts,VaultA v s,RefH r rs gs fl l,workO wb v r kv tv xv,BRest tv xv bs,WksRow kv ws,Pr.own h,F]);have HS11:=hQ hs11.sat;have HST2:=hQ (HST1.out.trans ho.st);obtain⟨R,hR⟩:∃R,R=starL [VaultA v s,RefH r rs gs fl l,workO wb v r kv tv xv,BRest tv xv bs,WksRow kv ws,Pr.own h,F]:=⟨_,rfl⟩;have HRR:=hQ hR
 have hs12:Sat ((Row 3 1 (.slice ag rs.counts.length cg) rs.counts.length (rs.counts.map (Value.int .i64))).star R) w2:=by rw [hR];exact HS11.out
 have HS12:=hQ hs12;clear hs8 hs9 hs10 hs11 hs12 ho EQ HS7 HS11 HA c1 hR;go_wp2;go_loopw [21] (fun i wr=> ∃(m:Nat) (xs:List Value),m≤rs.counts.length∧i= .int .i64 m∧Stays w wr∧Hid (xs.length=rs.counts.length)∧Sat ((Row 3 1 (.slice ag rs.counts.length cg) rs.counts.length xs).star R) wr) (fun i _=>rs.counts.length-(intOf i).toNat)
 case atStart=>exact⟨0,_,Nat.zero_le _,rfl,HST2.out,hQ (by simp),HS12.out⟩
 case round=>
  obtain⟨m,xs,hm,rfl,hst,hxl,hs⟩:=hrel;clear HS12 HST2;rcases Nat.lt_or_ge m rs.counts.length with hlt | hge
  · obtain⟨b,u,rfl,_,q1,q2,q3⟩:=Row.at1 hs m hlt
    have N1:=hQ (Row.put1 hs m (by rw [hxl.out];exact hlt) (.int .i64 9));have HSTK:=hQ hst;clear hs hst;go_wp2;exact⟨⟨m+1,xs.set m (.int .i64 9),by omega,congrArg (Value.int .i64) (by omega),HSTK.out.setCell _ _,hQ (by rw [List.length_set];exact hxl.out),N1.out⟩,by simp [intOf];omega⟩
  · have HS:=hQ hs
    have HSTK:=hQ hst;clear hs hst;go_wp2;go_ret;have h9:=HS.out.right;rw [HRR.out] at h9;obtain⟨ll,wl,bk,wk⟩:=HOK.out;exact⟨rfl,HSTK.out,⟨s,H,rs,gs,fl,l,kv,ws,h,tv,xv,bs⟩,⟨HJ.out,ll,wl,bk,wk⟩,⟨h9⟩⟩
end Go.Proofs.YtbobcmimkonnoaaGreat.Zy
