/- (*Vault).Write of any page; the conditions stand as hypotheses. -/
import Derived.Test.YtpfafhklppondaaGreatVaultCountsM29
import Derived.Test.YtpfafhklppondaaGreatVaultCountsM23
import Derived.Test.YtpfafhklppondaaGreatVaultCountsM30
import Derived.Test.YtpfafhklppondaaGreatVaultCountsM22
import Derived.Test.YtpfafhklppondaaGreatVaultCountsM01
set_option maxRecDepth 100000
set_option maxHeartbeats 16000000
namespace Go.Proofs.YtpfafhklppondaaGreat.M9
open ChangeShapes WideShapes ChangeAt RowKit Sl Cop M2 P3 X3 G4 Q2 X2 J4 L4 V4 Y4 B5 D5 P4 X6 F6 Y6 L7 M7 P7 E4 E5 Q7 W7 Y7 E9 G9
abbrev wrS(s:VaultS)(n:Int)(g:PageV):VaultS:= { s with on:=fun m=>if m=n then some g else s.on m }
theorem write1_any(v:Nat)(s:VaultS)(ab:Nat)(mark:Int)(VB NB PB:Nat)(n:Int)(hnb:1≤n∧n≤65536)(hp:Hp)(vi vd:Value)(g:PageV)(fit:Fit g)(hg:PageIn hp (pageV g.kind g.level vi vd g.next) g)(F:Pr)(w:World)
 (hF:Sat ((VMA v s ab mark []).star ((Pr.pts VB (.cells #[.pointer (some ⟨v,0,none⟩)] 24)).star ((Pr.pts NB (.cells #[.int .i64 n] 3)).star ((Pr.pts PB (.cells #[.int .i64 g.kind,.int .i64 g.level,vi,vd,.int .i64 g.next] 37)).star ((Pr.own hp).star F))))) w):
 Calls Tryz.prog 158 #[.pointer (some ⟨ab,0,none⟩),.pointer (some ⟨VB,0,none⟩),.pointer (some ⟨NB,0,none⟩),.pointer (some ⟨PB,0,none⟩)] w fun e w'=>
  Stays w w'∧e= .returned (.int .i64 0)∧Sat ((VMA v (wrS s n g) ab mark [(n,s.on n)]).star ((Pr.own hp).star F)) w':=by
 have hs0:=OwnL.in5 hF;obtain⟨vi0,vd0,ee,hi0,hb0⟩:=id hg;simp only [pageV,Value.agg.injEq,Array.mk.injEq,List.cons.injEq,and_true,true_and] at ee;obtain⟨rfl,rfl⟩:=ee;obtain⟨ai,ci,rfl,_,_⟩:=items_rd hi0;obtain⟨ad,cd,rfl⟩:=bytes_shape hb0;have c1:=hs0.facts;simp only [CellsAt,Nat.reduceAdd,and_true] at c1
 have C:=hQ (copied_any hp _ g hg (by have:=fit.n;omega) (fun y hy=>by have:=fit.k y hy;omega) (by have:=fit.d;omega) _ _ (hs0.drew.pull1 (A1:=Pr.own hp)));clear hF hs0 hi0 hb0 hg;go_enter Tryz.func158,Tryz.ntmps158
 go_wp2_with fail
 refine wS 12 [0,1,2,3] [(4,[],[0,1,2]),(5,[],[])] ?_;refine wpQ_all _ rfl rfl ?_;simp only [pick,pQ];iterate 4 (go_big_quiet_step (fail))
 refine wpQuiet_nil ?_;refine wpRest_act rfl ?_;go_wp2_with fail
 refine C.out.mono ?_;rintro e w3 ⟨pv,h',rfl,hpv,hs4,st4⟩;have hs5:=OwnL.of2 hs4;have P:=hQ (vput_M v s ab mark [] n hnb h' pv g hpv (by simp) _ _ (hs5.pull2 (A1:=VMA v s ab mark []) (A2:=Pr.own h')));clear c1;have c1:=hs5.facts;simp only [CellsAt,Nat.reduceAdd,and_true] at c1;have HST4:=hQ ((Stays.refl w).drew.trans st4);clear hs4 hs5 st4 C hpv;go_wp2;refine onN_mk ?_;refine wpQ_nil ⟨?_,?_⟩
 · exact cQ
 refine wpRest_act rfl ?_;go_wp2_with fail
 refine P.out.mono ?_;rintro e w4 ⟨rfl,st5,hs6⟩;rw [List.nil_append] at hs6;have HS6:=hQ (OwnL.of1 hs6);clear hs6 P c1;go_wp2;refine onN_mk (wpQ_nil ⟨chk_nil,wpRest_nil ?_⟩);go_wp2;go_ret;exact⟨HST4.out.trans st5,rfl,HS6.out.end3⟩
def WrPost(v:Nat)(s:VaultS)(n:Int)(g:PageV)(hp:Hp)(F:Pr)(w:World)(e:Ending)(w':World):Prop:=Stays w w'∧
 ((ownP s.pool n=false∧e= .returned (.int .i64 15)∧Sat ((VaultA v s).star ((Pr.own hp).star F)) w')∨
  (ownP s.pool n=true∧checkP g≠0∧e= .returned (.int .i64 (checkP g))∧Sat ((VaultA v s).star ((Pr.own hp).star F)) w')∨
  (ownP s.pool n=true∧checkP g=0∧e= .returned (.int .i64 0)∧Mid s (wrS s n g) [(n,s.on n)]∧Sat ((VaultA v ((wrS s n g).acted ⟨s.pool.mark,[(n,s.on n)]⟩)).star ((Pr.own hp).star F)) w'))
theorem own_bd {s:PoolS}(ok:PoolOk s){n:Int}(h:ownP s n=true):1≤n∧n≤65536:=by
 unfold ownP at h;simp only [Bool.and_eq_true,decide_eq_true_eq] at h;have ht:=there_of_count (by omega:s.count n≠0);exact⟨ht.1,by have:=ht.2;have:=ok.n2;omega⟩
theorem vwrite_any(v:Nat)(s:VaultS)(n:Int)(hp:Hp)(pv:Value)(g:PageV)(hg:PageIn hp pv g)(hu:∀x∈g.items,U8 x.key)(hvm:s.floor+s.acts.length<1099511627776)(F:Pr)(w:World)
 (hF:Sat ((VaultA v s).star ((Pr.own hp).star F)) w):
 Calls Tryz.prog 137 #[.pointer (some ⟨v,0,none⟩),.int .i64 n,pv] w fun e w'=>WrPost v s n g hp F w e w':=by
 have hs0:=OwnL.in2 hF;have okp:=(vault_ok hF).1;obtain⟨vi,vd,rfl,hi0,hb0⟩:=id hg;obtain⟨ai,ci,rfl,_,_⟩:=items_rd hi0;obtain⟨ad,cd,rfl⟩:=bytes_shape hb0;have hs1:=((hs0.alloc (.cells #[.pointer (some ⟨v,0,none⟩)] 24)).alloc (.cells #[.int .i64 n] 3)).alloc (.cells #[.int .i64 g.kind,.int .i64 g.level,.slice ai g.items.length ci,.slice ad g.data.length cd,.int .i64 g.next] 37)
 have es:(w.alloc (.cells #[.pointer (some ⟨v,0,none⟩)] 24)).heap.size=w.heap.size+1:=by simp
 have es2:((w.alloc (.cells #[.pointer (some ⟨v,0,none⟩)] 24)).alloc (.cells #[.int .i64 n] 3)).heap.size=w.heap.size+1+1:=by simp
 rw [es,es2] at hs1;have HST:=hQ ((((Stays.refl w).alloc (.cells #[.pointer (some ⟨v,0,none⟩)] 24)).alloc (.cells #[.int .i64 n] 3)).alloc (.cells #[.int .i64 g.kind,.int .i64 g.level,.slice ai g.items.length ci,.slice ad g.data.length cd,.int .i64 g.next] 37));have c1:=hs1.facts;simp only [CellsAt,Nat.reduceAdd,and_true] at c1;have OW:=hQ (own_any v s n _ _ (hs1.pull1 (A1:=VaultA v s)))
 have C:=hQ (check_any g hp _ hg hu _ _ (hs1.pull1 (A1:=Pr.own hp)));have HS1:=hQ hs1;have HG:=hQ hg;have HOKP:=hQ okp;obtain⟨B,hB⟩:∃B,B=ownP s.pool n:=⟨_,rfl⟩;rw [← hB] at OW;have HBB:=hQ hB;obtain⟨E,hE⟩:∃E,E=checkP g:=⟨_,rfl⟩;rw [← hE] at C;have HE:=hQ hE;clear hF hs0 hs1 hi0 hb0 hg es es2 okp hB hE hu;go_enter Tryz.func137,Tryz.ntmps137
 go_wp2_with fail
 refine OW.out.mono ?_;rintro e w1 ⟨rfl,rfl⟩;cases B with
 | false=>
   clear OW C;go_wp2;go_ret;exact⟨HST.out,.inl ⟨HBB.out.symm,rfl,HS1.out.end3⟩⟩
 | true=>
   go_wp2_with fail
   refine C.out.mono ?_;rintro e w2 ⟨rfl,hs2,st2⟩;have hs3:=OwnL.of1 hs2;by_cases h0:E=0
   · subst h0
     have hnb:=own_bd HOKP.out HBB.out.symm;have fit:=fit_of_check HE.out.symm
     have D:=hQ (do_any v s 158 #[.pointer (some ⟨w.heap.size,0,none⟩),.pointer (some ⟨w.heap.size+1,0,none⟩),.pointer (some ⟨w.heap.size+1+1,0,none⟩)] (fun _:Unit=>0) (fun _=>True) (fun _=>wrS s n g) (fun _=> [(n,s.on n)])
      (fun _=>(Pr.own hp).star F) _ _ (hs3.end6 (A1:=VaultA v s) (A2:=Pr.pts w.heap.size (.cells #[.pointer (some ⟨v,0,none⟩)] 24)) (A3:=Pr.pts (w.heap.size+1) (.cells #[.int .i64 n] 3)) (A4:=Pr.pts (w.heap.size+1+1) (.cells #[.int .i64 g.kind,.int .i64 g.level,.slice ai g.items.length ci,.slice ad g.data.length cd,.int .i64 g.next] 37)) (A5:=Pr.own hp) (A6:=F)) hvm (fun _ _=>rfl)
      (fun z _=>(Mid.refl s).set (some g) hnb (by simp)) (fun ab wx hwx=>(write1_any v s ab s.pool.mark w.heap.size (w.heap.size+1) (w.heap.size+1+1) n hnb hp _ _ g fit HG.out F wx hwx).mono (by
        rintro e w' ⟨h1,h2,h3⟩
        exact⟨h1,(),trivial,h2,h3⟩)))
     clear c1;have c1:=hs3.facts;simp only [CellsAt,Nat.reduceAdd,and_true] at c1;have HMID:=hQ (show Mid s (wrS s n g) [(n,s.on n)] from(Mid.refl s).set (some g) hnb (by simp));clear hs2 hs3 C OW;go_wp2_with fail
     refine D.out.mono ?_;rintro e w3 ⟨st3,z,_,rfl,hs5⟩;rw [if_pos trivial] at hs5;have HS5:=hQ hs5;clear hs5 D c1;go_wp2;go_ret;exact⟨(HST.out.trans st2).trans st3,.inr (.inr ⟨HBB.out.symm,HE.out.symm,rfl,HMID.out,HS5.out⟩)⟩
   · have hne:(E != 0)=true:=by rw [bne_iff_ne];exact h0
     have HH:=hQ h0;have HS3:=hQ hs3;clear h0 hs2 hs3 C OW;go_wp2;go_ret;exact⟨HST.out.trans st2,.inr (.inl ⟨HBB.out.symm,by rw [← HE.out];exact HH.out,by rw [← HE.out];rfl,HS3.out.end3⟩)⟩
end Go.Proofs.YtpfafhklppondaaGreat.M9
namespace Go.Proofs.YtpfafhklppondaaGreat.N9
open ChangeShapes WideShapes ChangeAt RowKit Sl Cop M2 P3 X3 G4 Q2 X2 J4 L4 V4 Y4 B5 D5 P4 Y6 M7 P7 E4 E5 W7 Y7 E9 E7 Q6
theorem take1_any(v:Nat)(s:VaultS)(ab:Nat)(mark:Int)(VB NB:Nat)(n:Int)(h0:s.pool.count n≠0)(hcr:CR s.pool)(hfit:((s.on n).getD ⟨0,0,[],[],0⟩).items.length≤65535)(hm:s.pool.floor+s.pool.acts.length+65540<1099511627776)(F:Pr)(w:World)
 (hF:Sat ((VMA v s ab mark []).star ((Pr.pts VB (.cells #[.pointer (some ⟨v,0,none⟩)] 24)).star ((Pr.pts NB (.cells #[.int .i64 n] 3)).star F))) w):
 Calls Tryz.prog 142 #[.pointer (some ⟨ab,0,none⟩),.pointer (some ⟨VB,0,none⟩),.pointer (some ⟨NB,0,none⟩)] w fun e w'=>
  Stays w w'∧e= .returned (.int .i64 (leaveR s n).1)∧Sat ((VMA v (leaveR s n).2.1 ab mark (leaveR s n).2.2).star F) w':=by
 have hs0:=OwnL.in3 hF;have c1:=hs0.facts;simp only [CellsAt,and_true] at c1;have LV:=hQ (leave_any v s ab mark [] n h0 hcr hfit (by simp) hm _ w hs0.pull1);obtain⟨L,hL⟩:∃L,leaveR s n=L:=⟨_,rfl⟩;rw [hL,List.nil_append] at LV;rw [hL];clear hF hs0 h0 hcr hfit hm hL;go_enter Tryz.func142,Tryz.ntmps142
 go_wp2_with fail
 refine LV.out.mono ?_;rintro e w1 ⟨st,rfl,hs1⟩;have HS1:=hQ (OwnL.of1 hs1);have HST:=hQ st;clear hs1 st LV c1;go_wp2;go_ret;exact⟨HST.out,rfl,HS1.out.end2⟩
def TvPost(v:Nat)(s:VaultS)(n:Int)(F:Pr)(w:World)(e:Ending)(w':World):Prop:=Stays w w'∧
 ((s.pool.count n=0∧e= .returned (.tuple #[zeroPage,.int .i64 15])∧Sat ((VaultA v s).star F) w')∨
  (s.pool.count n≠0∧(leaveR s n).1≠0∧e= .returned (.tuple #[zeroPage,.int .i64 (leaveR s n).1])∧Sat ((VaultA v s).star F) w')∨
  (s.pool.count n≠0∧(leaveR s n).1=0∧Mid s (leaveR s n).2.1 (leaveR s n).2.2∧∃t:ToldX,e= .returned (.tuple #[t.pv,.int .i64 0])∧s.on n=some t.g∧Sat ((PgOwn t).star ((VaultA v ((leaveR s n).2.1.acted ⟨s.pool.mark,(leaveR s n).2.2⟩)).star F)) w'))
theorem vtake_any(v:Nat)(s:VaultS)(n:Int)(hfit:∀n g,s.on n=some g→Fit g)(hon:s.pool.count n≠0→∃g,s.on n=some g)(hcr:CR s.pool)(hm:s.pool.floor+s.pool.acts.length+65545<1099511627776)(hvm:s.floor+s.acts.length<1099511627776)(F:Pr)(w:World)
 (hF:Sat ((VaultA v s).star F) w):
 Calls Tryz.prog 78 #[.pointer (some ⟨v,0,none⟩),.int .i64 n] w fun e w'=>TvPost v s n F w e w':=by
 have hs0:=OwnL.in1 hF;have okp:=(vault_ok hF).1;have hs1:=((hs0.alloc (.cells #[.pointer (some ⟨v,0,none⟩)] 24)).alloc (.cells #[.int .i64 n] 3)).alloc (pageC 0 0 (.slice none 0 0) (.slice none 0 0) 0);have es:(w.alloc (.cells #[.pointer (some ⟨v,0,none⟩)] 24)).heap.size=w.heap.size+1:=by simp
 have es2:((w.alloc (.cells #[.pointer (some ⟨v,0,none⟩)] 24)).alloc (.cells #[.int .i64 n] 3)).heap.size=w.heap.size+1+1:=by simp
 rw [es,es2] at hs1;have HST:=hQ ((((Stays.refl w).alloc (.cells #[.pointer (some ⟨v,0,none⟩)] 24)).alloc (.cells #[.int .i64 n] 3)).alloc (pageC 0 0 (.slice none 0 0) (.slice none 0 0) 0));have c1:=hs1.facts;simp only [CellsAt,Nat.reduceAdd,and_true] at c1;by_cases h0:s.pool.count n=0
 · have RD:=hQ (read_none v s n _ _ (hs1.pull1 (A1:=VaultA v s)) h0)
   have HS1:=hQ hs1;have H0:=hQ h0;clear hF hs0 hs1 es es2 okp hfit hon hcr hm hvm h0;go_enter Tryz.func78,Tryz.ntmps78
   go_wp2_with fail
   refine RD.out.mono ?_;rintro e w1 ⟨rfl,ho⟩;have hs2:=(⟨HS1.out.sat.only ho⟩:OwnL _ w1).alloc (pageC 0 0 (.slice none 0 0) (.slice none 0 0) 0);have HS2:=hQ hs2;have HST2:=hQ ((HST.out.trans ho.st).alloc (pageC 0 0 (.slice none 0 0) (.slice none 0 0) 0));clear c1;have c1:=hs2.facts;simp only [CellsAt,Nat.reduceAdd,and_true] at c1;clear hs2 ho RD;go_wp2
   have h5:=((((HS2.out.set (w.heap.size+1+1) 0 (.int .i64 0)).set (w.heap.size+1+1) 1 (.int .i64 0)).set (w.heap.size+1+1) 2 (.slice none 0 0)).set (w.heap.size+1+1) 3 (.slice none 0 0)).set (w.heap.size+1+1) 4 (.int .i64 0)
   refine bodyPost_ret (results_cell_row_tmp rfl _ _ (w.heap.size+1+1) _ rfl (run_loadVar_row _ (w.heap.size+1+1) _ _ _ _ _ (h5.pts (w.heap.size+1+1)).pts_heap Tryz.underlying37 rfl infoPage)) rfl ?_;exact⟨((((HST2.out.setCell _ _).setCell _ _).setCell _ _).setCell _ _).setCell _ _,.inl ⟨H0.out,rfl,h5.end2⟩⟩
 · obtain⟨g,hg⟩:=hon h0
   have fit:=hfit n g hg;have hth:=there_of_count h0;have hnb:1≤n∧n≤65536:=⟨hth.1,by have:=hth.2;have:=okp.n2;omega⟩;have RD:=hQ (read_rows v s n hnb g fit _ _ (hs1.pull1 (A1:=VaultA v s)) h0 hg)
   have hmid:Mid s (leaveR s n).2.1 (leaveR s n).2.2:=by
    have:=leave_mid (Mid.refl s) okp hcr h0 (by rw [hg];have:=fit.n;show g.items.length≤ _;omega) (by simp) (by omega)
    simpa using this
   have T1:=hQ (fun ab F wx hwx=>take1_any v s ab s.pool.mark w.heap.size (w.heap.size+1) n h0 hcr (by rw [hg];have:=fit.n;show g.items.length≤ _;omega) (by omega) F wx hwx);have H0:=hQ (And.intro h0 hg);have HM:=hQ hmid;obtain⟨P,hP⟩:∃P,P=TvPost v s n F w:=⟨_,rfl⟩;rw [← hP];have HP:=hQ hP;obtain⟨L,hL⟩:∃L,leaveR s n=L:=⟨_,rfl⟩;rw [hL] at T1 HM;have HL:=hQ hL
   clear hF hs0 hs1 es es2 okp hfit hon hcr hm h0 hg fit hth hmid hP hL;go_enter Tryz.func78,Tryz.ntmps78
   go_wp2_with fail
   refine RD.out.mono ?_;rintro e w1 ⟨st1,t,rfl,htg,hs2⟩;obtain⟨hyl,h3⟩:=pgOwn_iff.1 hs2;obtain⟨ai,ci,e1⟩:=Row.shape h3;obtain⟨ad,cd,e2⟩:=Row.shape h3.right.right;obtain⟨vi,vd,ys,gg⟩:=t;dsimp only at htg e1 e2 hyl h3;subst htg e1 e2;have hs3:=(OwnL.of2 hs2).alloc (pageC gg.kind gg.level (.slice ai gg.items.length ci) (.slice ad gg.data.length cd) gg.next)
   have HST3:=hQ ((HST.out.trans st1).alloc (pageC gg.kind gg.level (.slice ai gg.items.length ci) (.slice ad gg.data.length cd) gg.next));clear c1;have c1:=hs3.facts;simp only [CellsAt,Nat.reduceAdd,and_true] at c1
   have D:=hQ (do_any v s 142 #[.pointer (some ⟨w.heap.size,0,none⟩),.pointer (some ⟨w.heap.size+1,0,none⟩)] (fun _:Unit=>L.1) (fun _=>True) (fun _=>L.2.1) (fun _=>L.2.2)
    (fun _=>starL [Pr.pts w1.heap.size (pageC gg.kind gg.level (.slice ai gg.items.length ci) (.slice ad gg.data.length cd) gg.next),PgOwn ⟨.slice ai gg.items.length ci,.slice ad gg.data.length cd,ys,gg⟩,Pr.pts (w.heap.size+1+1) (pageC 0 0 (.slice none 0 0) (.slice none 0 0) 0),F]) _ _ (hs3.pull3 (A1:=VaultA v s) (A2:=Pr.pts w.heap.size (.cells #[.pointer (some ⟨v,0,none⟩)] 24)) (A3:=Pr.pts (w.heap.size+1) (.cells #[.int .i64 n] 3))) hvm (fun _ _=>rfl)
    (fun _ _=>HM.out) (fun ab wx hwx=>(T1.out ab _ wx hwx).mono (fun e w' ⟨a,b,c⟩=>⟨a,(),trivial,b,c⟩)))
   clear hs2 hs3 h3 st1 RD T1 hyl;rw [show ToldX.pv ⟨.slice ai gg.items.length ci,.slice ad gg.data.length cd,ys,gg⟩=pageV gg.kind gg.level (.slice ai gg.items.length ci) (.slice ad gg.data.length cd) gg.next from rfl];go_wp2_with fail
   refine D.out.mono ?_;rintro e w2 ⟨st2,_,_,rfl,hs4⟩;have HST4:=hQ (HST3.out.trans st2);obtain⟨er,her⟩:∃er,L.1=er:=⟨_,rfl⟩;rw [her] at hs4;rw [her];by_cases he:er=0
   · rw [if_pos he] at hs4
     subst he;have hs5:=OwnL.of1 hs4;have HS5:=hQ hs5;clear c1;have c1:=hs5.facts;simp only [CellsAt,Nat.reduceAdd,and_true] at c1;have HER:=hQ her;clear hs4 hs5 D her;go_wp2
     have h5:=((((HS5.out.set (w.heap.size+1+1) 0 (.int .i64 gg.kind)).set (w.heap.size+1+1) 1 (.int .i64 gg.level)).set (w.heap.size+1+1) 2 (.slice ai gg.items.length ci)).set (w.heap.size+1+1) 3 (.slice ad gg.data.length cd)).set (w.heap.size+1+1) 4 (.int .i64 gg.next)
     refine bodyPost_ret (results_cell_row_tmp rfl _ _ (w.heap.size+1+1) _ rfl (run_loadVar_row _ (w.heap.size+1+1) _ _ _ _ _ (h5.pts (w.heap.size+1+1)).pts_heap Tryz.underlying37 rfl infoPage)) rfl ?_;rw [HP.out]
     refine⟨((((HST4.out.setCell _ _).setCell _ _).setCell _ _).setCell _ _).setCell _ _,.inr (.inr ⟨H0.out.1,by rw [HL.out];exact HER.out,by rw [HL.out];exact HM.out,⟨.slice ai gg.items.length ci,.slice ad gg.data.length cd,ys,gg⟩,rfl,H0.out.2,?_⟩)⟩;rw [HL.out];exact h5.end3
   · rw [if_neg he] at hs4
     have hb:(er != 0)=true:=by rw [bne_iff_ne];exact he
     have hs5:=OwnL.of1 hs4;have HS5:=hQ hs5;clear c1;have c1:=hs5.facts;simp only [CellsAt,Nat.reduceAdd,and_true] at c1;have HER:=hQ her;have HEN:=hQ he;clear hs4 hs5 D her he;go_wp2
     have h5:=((((HS5.out.set (w.heap.size+1+1) 0 (.int .i64 0)).set (w.heap.size+1+1) 1 (.int .i64 0)).set (w.heap.size+1+1) 2 (.slice none 0 0)).set (w.heap.size+1+1) 3 (.slice none 0 0)).set (w.heap.size+1+1) 4 (.int .i64 0)
     refine bodyPost_ret (results_cell_row_tmp rfl _ _ (w.heap.size+1+1) _ rfl (run_loadVar_row _ (w.heap.size+1+1) _ _ _ _ _ (h5.pts (w.heap.size+1+1)).pts_heap Tryz.underlying37 rfl infoPage)) rfl ?_;rw [HP.out];exact⟨((((HST4.out.setCell _ _).setCell _ _).setCell _ _).setCell _ _).setCell _ _,.inr (.inl ⟨H0.out.1,by rw [HL.out,HER.out];exact HEN.out,by rw [HL.out,HER.out];rfl,h5.end2⟩)⟩
end Go.Proofs.YtpfafhklppondaaGreat.N9
namespace Go.Proofs.YtpfafhklppondaaGreat.U9
open ChangeShapes WideShapes ChangeAt RowKit Sl Cop Q2 X2 D3 J4 P4 U4 Z4 Q6 Z6 C9
theorem eqpage_sized(ha hb:Hp)(va vb:Value)(g:PageV)(h1:PageIn ha va g)(h2:PageIn hb vb g)(hf:SzP g)(w:World)(l1:ha.le w)(l2:hb.le w):
 Calls Tryz.prog 39 #[va,vb] w fun e w'=>e= .returned (.bool true)∧Only w w':=by
 obtain⟨i1,d1,rfl,hi1,hd1⟩:=h1;obtain⟨i2,d2,rfl,hi2,hd2⟩:=h2;obtain⟨a1,c1,rfl,_,rd1⟩:=items_rd hi1;obtain⟨a3,c3,rfl,_,rd2⟩:=items_rd hi2;obtain⟨a2,c2,rfl⟩:=bytes_shape hd1;obtain⟨a4,c4,rfl⟩:=bytes_shape hd2;obtain⟨k,l,its,dat,nx⟩:=g;dsimp only at*;have hn1:(its.length:Int)≤2199023255488:=by have:=hf.n;dsimp only at this;omega
 have hdl:dat.length≤9000000000000000000:=by have:=hf.d;dsimp only at this;omega
 have hkk:∀y∈its,y.key.length≤9000000000000000000∧y.value.length≤9000000000000000000:=fun y hy=>by have:=hf.k y hy;omega
 obtain⟨w0,hw0⟩:∃w0,(w.alloc (pageC k l (.slice a1 its.length c1) (.slice a2 dat.length c2) nx)).alloc (pageC k l (.slice a3 its.length c3) (.slice a4 dat.length c4) nx)=w0:=⟨_,rfl⟩;have ho0:Only w w0:=hw0 ▸ ((Only.refl w).alloc _).alloc _
 have facts:∀wr,Only w0 wr→(wr.cell? ⟨w.heap.size,0,none⟩=some (.int .i64 k)∧wr.cell? ⟨w.heap.size,1,none⟩=some (.int .i64 l)∧wr.cell? ⟨w.heap.size,2,none⟩=some (.slice a1 its.length c1)∧wr.cell? ⟨w.heap.size,3,none⟩=some (.slice a2 dat.length c2)∧wr.cell? ⟨w.heap.size,4,none⟩=some (.int .i64 nx))∧
  (wr.cell? ⟨w.heap.size+1,0,none⟩=some (.int .i64 k)∧wr.cell? ⟨w.heap.size+1,1,none⟩=some (.int .i64 l)∧wr.cell? ⟨w.heap.size+1,2,none⟩=some (.slice a3 its.length c3)∧wr.cell? ⟨w.heap.size+1,3,none⟩=some (.slice a4 dat.length c4)∧wr.cell? ⟨w.heap.size+1,4,none⟩=some (.int .i64 nx))∧ha.le wr∧hb.le wr∧w.heap.size+1<wr.heap.size:=by
  intro wr ho;subst hw0;have s1:Sat ((Pr.pts w.heap.size (pageC k l (.slice a1 its.length c1) (.slice a2 dat.length c2) nx)).star Pr.emp) (w.alloc (pageC k l (.slice a1 its.length c1) (.slice a2 dat.length c2) nx)):=(sat_emp w).alloc _;have s2:=s1.alloc (pageC k l (.slice a3 its.length c3) (.slice a4 dat.length c4) nx)
  rw [show (w.alloc (pageC k l (.slice a1 its.length c1) (.slice a2 dat.length c2) nx)).heap.size=w.heap.size+1 by simp] at s2;have s3:=s2.only ho;obtain⟨p0,p1,p2,p3,p4,_,_⟩:=pts5 s3.right;obtain⟨r0,r1,r2,r3,r4,_,zz⟩:=pts5 s3;exact⟨⟨p0,p1,p2,p3,p4⟩,⟨r0,r1,r2,r3,r4⟩,le_only (le_only l1 ho0) ho,le_only (le_only l2 ho0) ho,zz⟩
 have FA:=hQ facts;have HO0:=hQ ho0;have RD1:=hQ rd1;have RD2:=hQ rd2;have HD1:=hQ hd1;have HD2:=hQ hd2;have HK:=hQ hkk;clear facts ho0 rd1 rd2 hd1 hd2 hi1 hi2 l1 l2 hkk hf;obtain⟨⟨p0,p1,p2,p3,p4⟩,⟨r0,r1,r2,r3,r4⟩,e1,e2,z⟩:=FA.out w0 (Only.refl _);go_enter Tryz.func39,Tryz.ntmps39
 go_wp2_with fail
 refine(eq_same ha hb _ _ dat HD1.out HD2.out hdl _ e1 e2).mono ?_;rintro e w1 ⟨rfl,ho1⟩;clear p0 p1 p2 p3 p4 r0 r1 r2 r3 r4 e1 e2 z;go_wp2_with fail
 go_loopw [5] (fun i wr=> ∃r:Nat,r≤its.length∧i= .int .i64 r∧Only w0 wr) (fun i _=>its.length-(intOf i).toNat)
 case atStart=>exact⟨0,Nat.zero_le _,rfl,ho1⟩
 case round=>
  obtain⟨r,hr,rfl,ho⟩:=hrel;obtain⟨⟨p0,p1,p2,p3,p4⟩,⟨r0,r1,r2,r3,r4⟩,e1,e2,z⟩:=FA.out wr ho;rcases Nat.lt_or_ge r its.length with hlt | hge
  · obtain⟨b1,o1,ak1,ck1,av1,cv1,rfl,hbk1,hbv1,hc1⟩:=RD1.out r hlt
    obtain⟨b2,o2,ak2,ck2,av2,cv2,rfl,hbk2,hbv2,hc2⟩:=RD2.out r hlt;obtain⟨s0,s1,s2,s3⟩:=hc1 wr e1;obtain⟨t0,t1,t2,t3⟩:=hc2 wr e2;have HX:=hQ (HK.out its[r] (List.getElem_mem hlt));have HC1:=hQ hc1;have HC2:=hQ hc2;have HO:=hQ ho;clear hc1 hc2 ho;generalize its[r]=x at*;go_wp2_with fail
    refine wS 61 [0,1,2,3,4,5,6,7,8,9] [(10,[11],[0,1,2,3,5,6,7,8])] ?_;refine wpQ_all _ rfl rfl ?_;simp only [pick,pQ];iterate 10 (go_big_quiet_step (fail))
    refine wpQuiet_nil ?_;refine wpRest_act rfl ?_;go_wp2_with fail
    refine(eqitem_same ha hb _ _ x ⟨_,_,rfl,hbk1,hbv1⟩ ⟨_,_,rfl,hbk2,hbv2⟩ HX.out _ (le_only e1 ((Only.refl _).drew)) (le_only e2 ((Only.refl _).drew))).mono ?_;rintro e w2 ⟨rfl,ho2⟩;have HO2:=hQ (HO.out.drew.trans ho2);clear p0 p1 p2 p3 p4 r0 r1 r2 r3 r4 e1 e2 z s0 s1 s2 s3 t0 t1 t2 t3;obtain⟨⟨p0,p1,p2,p3,p4⟩,⟨r0,r1,r2,r3,r4⟩,e1,e2,z⟩:=FA.out w2 HO2.out;obtain⟨s0,s1,s2,s3⟩:=HC1.out w2 e1
    obtain⟨t0,t1,t2,t3⟩:=HC2.out w2 e2;go_wp2;refine onN_mk ?_;refine wpQ_all _ rfl rfl ?_;simp only [pick,pQ];iterate 1 (go_big_quiet_step (fail))
    refine wpQuiet_nil ⟨?_,?_⟩
    · exact cQ
    refine wpRest_nil ?_;go_wp2;go_roundw
    case rel=>exact⟨r+1,by omega,congrArg (Value.int .i64) (by omega),HO2.out⟩
    case measure=>simp [intOf];omega
  · have hrl:r=its.length:=by omega
    subst hrl;have HO:=hQ ho;clear ho;go_wp2;go_ret;exact⟨rfl,HO0.out.trans HO.out⟩
end Go.Proofs.YtpfafhklppondaaGreat.U9
namespace Go.Proofs.YtpfafhklppondaaGreat.X9
open ChangeShapes WideShapes ChangeAt RowKit Sl Cop P3 G4 Q2 X2 D3 J4 L4 P4 Q6 Y6 T8 X8 Z8 C9 U9
theorem sp_item {ib:Nat}{bs:List (Nat × Nat)}{its:List ItemV}{k:Nat}{F:Pr}{w:World}(h:Sat ((SpRow ib bs its).star F) w)(hl:bs.length=its.length)(hk:k<its.length):
 w.cell? ⟨ib,k*4,none⟩=some (.slice (some ⟨(bs[k]'(by omega)).1,0,none⟩) its[k].key.length (its[k].key.length+64))∧w.cell? ⟨ib,k*4+1,none⟩=some (.slice (some ⟨(bs[k]'(by omega)).2,0,none⟩) its[k].value.length (its[k].value.length+64)):=by
 obtain⟨⟨h1,h2,_,_⟩,_⟩:=z_rd h (spL_len _ _ _) (k:=k) (by rw [spL_len];omega)
 have e:(spL bs its (its.length+2))[k]'(by rw [spL_len];omega)=(kvOf (bs[k]'(by omega)) its[k],its[k]):=by
  rw [spL_at (by omega)];unfold spZ;rw [if_pos (by omega),dif_pos hk];simp [List.getD,List.getElem?_eq_getElem (show k<bs.length by omega)]
 rw [e] at h1 h2;exact⟨h1,h2⟩
theorem sp_ext {ib:Nat}{bs:List (Nat × Nat)}{its:List ItemV}{k:Nat}{F:Pr}{w:World}(h:Sat ((SpRow ib bs its).star F) w)(h1:its.length≤k)(h2:k<its.length+2):
 w.cell? ⟨ib,k*4,none⟩=some (.slice none 0 0)∧w.cell? ⟨ib,k*4+1,none⟩=some (.slice none 0 0)∧w.cell? ⟨ib,k*4+2,none⟩=some (.int .i64 (-5-(k:Int)))∧w.cell? ⟨ib,k*4+3,none⟩=some (.int .i64 (-9)):=by
 obtain⟨h3,_⟩:=z_rd h (spL_len _ _ _) (k:=k) (by rw [spL_len];omega)
 have e:(spL bs its (its.length+2))[k]'(by rw [spL_len];omega)=extZ k:=by
  rw [spL_at (by omega)];unfold spZ;rw [if_pos h2,dif_neg (by omega)]
 rw [e] at h3;exact h3
theorem keptpage_any(x:SpX)(g:PageV)(hbl:x.bs.length=g.items.length)(hz:SzP g)(h:Hp)(v:Value)(hv:PageIn h v g)(F:Pr)(w:World)
 (hF:Sat ((SpRow x.ib x.bs g.items).star ((big wholeOf (x.bs.zip g.items)).star ((WholeRow x.db g.data).star ((Pr.own h).star F)))) w):
 Calls Tryz.prog 26 #[x.pv g,v] w fun e w'=>e= .returned (.bool true)∧Only w w':=by
 obtain⟨vi,vd,rfl,hi,hdd⟩:=id hv;obtain⟨ai,ci,rfl,_,rd⟩:=items_rd hi;obtain⟨ad,cd,rfl⟩:=bytes_shape hdd;obtain⟨ib,db,bs⟩:=x;dsimp only at hbl hF
 obtain⟨w0,hw0⟩:∃w0,(w.alloc (pageC g.kind g.level (.slice (some ⟨ib,0,none⟩) g.items.length (g.items.length+2)) (.slice (some ⟨db,0,none⟩) g.data.length (g.data.length+64)) g.next)).alloc (pageC g.kind g.level (.slice ai g.items.length ci) (.slice ad g.data.length cd) g.next)=w0:=⟨_,rfl⟩;have ho0:Only w w0:=hw0 ▸ ((Only.refl w).alloc _).alloc _
 have hs0:=((OwnL.in4 hF).alloc (pageC g.kind g.level (.slice (some ⟨ib,0,none⟩) g.items.length (g.items.length+2)) (.slice (some ⟨db,0,none⟩) g.data.length (g.data.length+64)) g.next)).alloc (pageC g.kind g.level (.slice ai g.items.length ci) (.slice ad g.data.length cd) g.next)
 rw [hw0,show (w.alloc (pageC g.kind g.level (.slice (some ⟨ib,0,none⟩) g.items.length (g.items.length+2)) (.slice (some ⟨db,0,none⟩) g.data.length (g.data.length+64)) g.next)).heap.size=w.heap.size+1 by simp] at hs0
 have EQ:=hQ (show ∀wr,Only w0 wr→Calls Tryz.prog 39 #[pageV g.kind g.level (.slice (some ⟨ib,0,none⟩) g.items.length (g.items.length+2)) (.slice (some ⟨db,0,none⟩) g.data.length (g.data.length+64)) g.next,pageV g.kind g.level (.slice ai g.items.length ci) (.slice ad g.data.length cd) g.next] wr fun e w'=>e= .returned (.bool true)∧Only wr w' by
  intro wr ho
  have hs:=hs0.ext ho.heap
  have h2:Sat ((SpRows ⟨ib,db,bs⟩ g).star (starL _)) wr:=(hs.join3 (SpRow ib bs g.items) (big wholeOf (bs.zip g.items)) (WholeRow db g.data)).sat
  obtain⟨ha,hq,h3⟩:=h2.toOwn
  exact eqpage_sized ha h _ _ g (spRows_in hbl hq) hv hz wr h3.own (hs.pull1 (A1:=Pr.own h)).own)
 have KD:=hQ (show ∀wr,Only w0 wr→Calls Tryz.prog 75 #[.slice (some ⟨db,0,none⟩) g.data.length (g.data.length+64),.slice ad g.data.length cd] wr fun e w'=>e= .returned (.bool true)∧Only wr w' by
  intro wr ho
  have hs:=hs0.ext ho.heap
  exact kept_any db g.data h _ hdd hz.d _ wr (hs.pull2 (A1:=WholeRow db g.data) (A2:=Pr.own h)))
 have KK:=hQ (show ∀wr,Only w0 wr→∀k (hk:k<g.items.length) a c,Bytes h (.slice a g.items[k].key.length c) g.items[k].key→Calls Tryz.prog 75 #[.slice (some ⟨(bs[k]'(by omega)).1,0,none⟩) g.items[k].key.length (g.items[k].key.length+64),.slice a g.items[k].key.length c] wr fun e w'=>e= .returned (.bool true)∧Only wr w' by
  intro wr ho k hk a c hx
  have hbk:k<bs.length:=by omega
  have hs:=hs0.ext ho.heap
  have hzk:k<(bs.zip g.items).length:=by simp;omega
  have h1:=(hs.take wholeOf (bs.zip g.items) k hzk).sat
  rw [show (bs.zip g.items)[k]=(bs[k],g.items[k]) by simp] at h1
  have h2:Sat (((WholeRow bs[k].1 g.items[k].key).star (WholeRow bs[k].2 g.items[k].value)).star _) wr:=h1
  rw [Pr.star_assoc] at h2
  have h3:=OwnL.of2 h2
  exact kept_any _ g.items[k].key h _ hx (hz.k _ (List.getElem_mem hk)).1 _ wr (h3.pull2 (A1:=WholeRow bs[k].1 g.items[k].key) (A2:=Pr.own h)))
 have KV:=hQ (show ∀wr,Only w0 wr→∀k (hk:k<g.items.length) a c,Bytes h (.slice a g.items[k].value.length c) g.items[k].value→Calls Tryz.prog 75 #[.slice (some ⟨(bs[k]'(by omega)).2,0,none⟩) g.items[k].value.length (g.items[k].value.length+64),.slice a g.items[k].value.length c] wr fun e w'=>e= .returned (.bool true)∧Only wr w' by
  intro wr ho k hk a c hx
  have hbk:k<bs.length:=by omega
  have hs:=hs0.ext ho.heap
  have hzk:k<(bs.zip g.items).length:=by simp;omega
  have h1:=(hs.take wholeOf (bs.zip g.items) k hzk).sat
  rw [show (bs.zip g.items)[k]=(bs[k],g.items[k]) by simp] at h1
  have h2:Sat (((WholeRow bs[k].1 g.items[k].key).star (WholeRow bs[k].2 g.items[k].value)).star _) wr:=h1
  rw [Pr.star_assoc] at h2
  have h3:=OwnL.of2 h2
  exact kept_any _ g.items[k].value h _ hx (hz.k _ (List.getElem_mem hk)).2 _ wr (h3.pull2 (A1:=WholeRow bs[k].2 g.items[k].value) (A2:=Pr.own h)))
 have HS0:=hQ hs0;have HO0:=hQ ho0;have RD:=hQ rd;have HBL:=hQ hbl;have hn0:(g.items.length:Int)≤2199023255488:=by have:=hz.n;omega
 clear hs0 ho0 rd hi hdd hv hF hz;have c1:=HS0.out.facts;simp only [CellsAt,Nat.reduceAdd,and_true] at c1;rw [show SpX.pv ⟨ib,db,bs⟩ g=pageV g.kind g.level (.slice (some ⟨ib,0,none⟩) g.items.length (g.items.length+2)) (.slice (some ⟨db,0,none⟩) g.data.length (g.data.length+64)) g.next from rfl];go_enter Tryz.func26,Tryz.ntmps26
 go_wp2_with fail
 refine(EQ.out w0 (Only.refl _)).mono ?_;rintro e w1 ⟨rfl,ho1⟩;clear c1;have c1:=(HS0.out.ext ho1.heap).facts;simp only [CellsAt,Nat.reduceAdd,and_true] at c1;go_wp2_with fail
 refine(KD.out w1 ho1).mono ?_;rintro e w2 ⟨rfl,ho2⟩;have ho2:=ho1.trans ho2;clear c1 ho1;have c1:=(HS0.out.ext ho2.heap).facts;simp only [CellsAt,Nat.reduceAdd,and_true] at c1;clear EQ KD;go_wp2_with fail
 clear c1;go_loopw [6] (fun i wr=> ∃k:Nat,k≤g.items.length+2∧i= .int .i64 k∧Only w0 wr) (fun i _=>g.items.length+2-(intOf i).toNat)
 case atStart=>exact⟨0,Nat.zero_le _,rfl,ho2⟩
 case round=>
  obtain⟨k,hk,rfl,ho⟩:=hrel;have hs:=HS0.out.ext ho.heap;have c1:=hs.facts;simp only [CellsAt,Nat.reduceAdd,and_true] at c1;rcases Nat.lt_or_ge k (g.items.length+2) with hlt | hge
  · rcases Nat.lt_or_ge k g.items.length with hl1 | hl1
    · obtain⟨b,off,ak,ck,av,cv,rfl,hb1,hb2,hcell⟩:=RD.out k hl1
      obtain⟨r0,r1,r2,r3⟩:=hcell wr (hs.pull1 (A1:=Pr.own h)).own;obtain⟨s0,s1⟩:=sp_item (hs.pull1 (A1:=SpRow ib bs g.items)) HBL.out hl1;have HC:=hQ hcell;have V:=hQ (fun wx (hx:Only w0 wx)=>KK.out wx hx k hl1 ak ck hb1);have V2:=hQ (fun wx (hx:Only w0 wx)=>KV.out wx hx k hl1 av cv hb2)
      have SI:=hQ (fun wx (hx:Only w0 wx)=>sp_item ((HS0.out.ext hx.heap).pull1 (A1:=SpRow ib bs g.items)) HBL.out hl1);have HO:=hQ ho;clear hs ho hb1 hb2 hcell KK KV;generalize bs[k]'(by omega)=p at*;go_wp2_with fail
      refine wS 99 [0,1,2,3,4,5,6,7,8,9,10,11] [(12,[13,14,15,16,17,18,19,20,21,22,23,24,25,26],[0,1,2,3,4,6,7,8,9,10]),(27,[28,29],[0,1,2,3,4,6,7,8,9,10,13,15,16,17,18,19,21,22,23,24,25])] ?_;refine wpQ_all _ rfl rfl ?_;simp only [pick,pQ];iterate 12 (go_big_quiet_step (fail))
      refine wpQuiet_nil ?_;refine wpRest_act rfl ?_;go_wp2_with fail
      refine(V.out _ HO.out.drew).mono ?_;rintro e w3 ⟨rfl,ho3⟩;have HO3:=hQ (HO.out.drew.trans ho3);clear c1 r0 r1 r2 r3 s0 s1 ho3;have hs:=HS0.out.ext HO3.out.heap;have c1:=hs.facts;simp only [CellsAt,Nat.reduceAdd,and_true] at c1;obtain⟨r0,r1,r2,r3⟩:=HC.out w3 (hs.pull1 (A1:=Pr.own h)).own;obtain⟨s0,s1⟩:=SI.out w3 HO3.out;clear hs;go_wp2;refine onN_mk ?_;refine wpQ_all _ rfl rfl ?_
      simp only [pick,pQ];iterate 14 (go_big_quiet_step (fail))
      refine wpQuiet_nil ⟨?_,?_⟩
      · exact cQ
      refine wpRest_act rfl ?_;go_wp2_with fail
      refine(V2.out _ HO3.out).mono ?_;rintro e w4 ⟨rfl,ho4⟩;have HO4:=hQ (HO3.out.trans ho4);clear c1 r0 r1 r2 r3 s0 s1 ho4;have hs:=HS0.out.ext HO4.out.heap;have c1:=hs.facts;simp only [CellsAt,Nat.reduceAdd,and_true] at c1;obtain⟨r0,r1,r2,r3⟩:=HC.out w4 (hs.pull1 (A1:=Pr.own h)).own;obtain⟨s0,s1⟩:=SI.out w4 HO4.out;clear hs;go_wp2;refine onN_mk ?_;refine wpQ_all _ rfl rfl ?_;simp only [pick,pQ]
      iterate 2 (go_big_quiet_step (fail))
      refine wpQuiet_nil ⟨?_,?_⟩
      · exact cQ
      refine wpRest_nil ?_;go_wp2;refine⟨⟨k+1,by omega,congrArg (Value.int .i64) (by omega),HO4.out⟩,by simp [intOf];omega⟩
    · obtain⟨s0,s1,s2,s3⟩:=sp_ext (hs.pull1 (A1:=SpRow ib bs g.items)) hl1 hlt
      have HO:=hQ ho;clear hs ho;go_wp2;refine⟨⟨k+1,by omega,congrArg (Value.int .i64) (by omega),HO.out⟩,by simp [intOf];omega⟩
  · have hkl:k=g.items.length+2:=by omega
    subst hkl;have HO:=hQ ho;clear hs ho;go_wp2;go_ret;exact⟨rfl,HO0.out.trans HO.out⟩
end Go.Proofs.YtpfafhklppondaaGreat.X9
