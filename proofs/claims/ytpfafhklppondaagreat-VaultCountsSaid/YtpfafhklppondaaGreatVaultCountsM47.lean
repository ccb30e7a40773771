/- The law's step, kind 3; the conditions stand as hypotheses. -/
import Derived.Test.YtpfafhklppondaaGreatVaultCountsM41
import Derived.Lib.SmallJoins
import Derived.Test.YtpfafhklppondaaGreatVaultCountsM01
set_option maxRecDepth 100000
set_option maxHeartbeats 16000000
namespace Go.Proofs.YtpfafhklppondaaGreat.Vz
open ChangeShapes WideShapes ChangeAt RowKit Sl Cop M2 P3 X3 G4 Q2 X2 J4 L4 P4 Q6 X6 G5 F7 Sy K4 E5 Bz Vy Wy Zy Yy F6 Z6 Sz
theorem step3(x v k:Nat)(rv lv:Value)(s:VaultS)(roots:List Int)(ls:List NumV)(ok:PlOK s roots ls (k+2))(kind N K pk pl nx:Int)(ai ad:Option Addr)(mi ci md cd:Nat)(hkd:kind.tmod 7=3)(F:Pr)(w:World)(hF:OwnL (plL x v rv lv s roots ls [F]) w):
 Calls Tryz.prog 8 #[.pointer (some ⟨x,0,none⟩),.agg #[.int .i64 kind,.int .i64 N,.int .i64 K,.int .i64 pk,.int .i64 pl,.slice ai mi ci,.slice ad md cd,.int .i64 nx]] w fun e w'=>e= .returned (.bool true)∧Stays w w'∧PlDone x v k F w':=by
 obtain⟨ar,cr,rfl⟩:=Row.shape (hF.pull1 (A1:=IntsRow rv roots));have hs0:=(hF.alloc (.cells #[.pointer (some ⟨x,0,none⟩)] 28)).alloc (opC11 kind N K pk pl (.slice ai mi ci) (.slice ad md cd) nx);rw [show (w.alloc (.cells #[.pointer (some ⟨x,0,none⟩)] 28)).heap.size=w.heap.size+1 by simp] at hs0
 have HST:=hQ (((Stays.refl w).alloc (.cells #[.pointer (some ⟨x,0,none⟩)] 28)).alloc (opC11 kind N K pk pl (.slice ai mi ci) (.slice ad md cd) nx));have hrl:=ok.rl;have RT:=hQ (root_any x v (.slice ar roots.length cr) lv s roots ls _ (by omega) N _ (pl_pack hs0));have HS0:=hQ hs0;have HOK:=hQ ok;clear hF hs0 ok;go_enter Tryz.func8,Tryz.ntmps8
 go_wp2_with fail
 refine RT.out.mono ?_;rintro e w1 ⟨⟨i,rfl,hi⟩,ho⟩;have hs1:=HS0.out.ext ho.heap;have HST1:=hQ (HST.out.trans ho.st);clear RT HS0 HST ho;generalize w.heap.size+1=BO at*;generalize w.heap.size=BP at*;have c1:=hs1.facts;simp only [CellsAt,Nat.reduceAdd,and_true] at c1;rcases hi with⟨rfl,hr0⟩ | ⟨j,hj,rfl⟩
 · have HE:=hQ (show PlDone x v k F w1 from⟨.slice ar roots.length cr,lv,s,roots,ls,HOK.out.le (by omega),hs1.to⟩)
   clear hs1 hr0 hrl HOK;go_wp2;go_ret;exact⟨rfl,HST1.out,HE.out⟩
 · obtain⟨br,rfl,k1,kf1⟩:=irow_at (hs1.pull1 (A1:=IntsRow (.slice ar roots.length cr) roots)) hj
   have z1:=World.block_lt_of_cell? _ _ k1;have hj3:(j:Int)≤120:=by omega
   have HJ:=hQ hj;have HR0:((roots.count roots[j]:Nat):Int)≠0:=by have:=List.count_pos_iff.2 (List.getElem_mem hj);omega
   have SH:=hQ (pl_shadow v s _ ls (k+1) HOK.out.inv roots[j] HR0 (fun m=>by have:=List.count_le_length (a:=m) (l:=roots);omega) _ w1.drew (hs1.drew.pull1 (A1:=VaultA v s)));have HSH:=hQ (HOK.out.inv.sh roots[j] (HOK.out.inv.root HR0));clear hs1 HR0;generalize hrj:roots[j]=rj at*;have HRJ:=hQ hrj;clear hrj hj;have hjl:=HJ.out;go_wp2_with fail
   refine wS 300 [0,1,2,3,4,5,6,7,8,9,10] [(11,[12,13,14,15,16],[0,1,2,4,5,6,7,8,9])] ?_;refine wpQ_all _ rfl rfl ?_;simp only [pick,pQ];iterate 11 (go_big_quiet_step (fail))
   refine wpQuiet_nil ?_;refine wpRest_act rfl ?_;go_wp2_with fail
   refine SH.out.mono ?_;rintro e w2 ⟨st2,(⟨htl,rfl,hs2⟩ | ⟨m,sT,rfl,hInv,hst3,hct1,hon1,hon2,hs2⟩)⟩
   · have hs3:=OwnL.of1 hs2
     have HE:=hQ (show PlDone x v k F w2 from⟨.slice (some ⟨br,0,none⟩) roots.length cr,lv,s,roots,ls,HOK.out.le (by omega),hs3.to⟩);have HST2:=hQ (HST1.out.drew.trans st2);obtain⟨xx,okx,hs4⟩:=vault_open (v:=v) (s:=s) hs3;clear c1;have c1:=hs4.facts;simp only [CellsAt,Nat.reduceAdd,and_true] at c1;have T:=hQ (tally_all xx.p s.pool 1 _ _ (hs4.pull1 (A1:=PoolA xx.p s.pool)));rw [htl] at T
     clear hs2 hs3 hs4 okx st2;go_wp2;refine onN_mk ?_;refine wpQ_all _ rfl rfl ?_;simp only [pick,pQ];iterate 5 (go_big_quiet_step (fail))
     refine wpQuiet_nil ⟨?_,?_⟩
     · exact cQ
     refine wpRest_nil ?_;go_wp2_with fail
     refine T.out.mono ?_;rintro e w7 ⟨rfl,rfl⟩;go_wp2;go_ret;exact⟨rfl,HST2.out,HE.out⟩
   · have hs3:=OwnL.of1 hs2
     have HS3:=hQ hs3;have HST2:=hQ (HST1.out.drew.trans st2);have RD:=hQ (read_step (v:=v) hInv rj);have RN:=hQ (read_root (v:=v) hInv (n:=m) (by omega));have HIN:=hQ (And.intro hInv (And.intro hst3 (And.intro hct1 (And.intro hon1 hon2))));have kk:=ints_cell (hs3.pull1 (A1:=IntsRow (.slice (some ⟨br,0,none⟩) roots.length cr) roots)) HJ.out;rw [show roots[j]'HJ.out=rj from HRJ.out] at kk
     have HCA:=hQ kk;clear c1 k1 kf1 z1;have c1:=hs3.facts;simp only [CellsAt,Nat.reduceAdd,and_true] at c1;obtain⟨k1,kf1⟩:=kk;have z1:=World.block_lt_of_cell? _ _ k1;clear hs2 hs3 st2 HST1 SH hInv hst3 hct1 hon1 hon2;go_wp2;refine onN_mk ?_;refine wpQ_all _ rfl rfl ?_;simp only [pick,pQ];iterate 5 (go_big_quiet_step (fail))
     refine wpQuiet_nil ⟨?_,?_⟩
     · exact cQ
     refine wpRest_nil ?_;go_wp2_with fail
     go_cut [11,12] from 140 to 155 (fun t1 t2 wx=> ∃(J:Nat) (er:Int) (g:PageV) (h':Hp) (s':VaultS) (tai tad:Option Addr) (tci tcd:Nat),t1= .pointer (some ⟨J,0,none⟩)∧t2= .int .i64 er∧(s'=sT∧er=(if sT.pool.count rj=0 then 15 else 0)∧g=if sT.pool.count rj=0 then zeroP else sT.get rj)∧PageIn h' (pageV g.kind g.level (.slice tai g.items.length tci) (.slice tad g.data.length tcd) g.next) g∧Stays w wx∧
      OwnL [Pr.pts J (pageC g.kind g.level (.slice tai g.items.length tci) (.slice tad g.data.length tcd) g.next),Pr.own h',VaultA v s',Pr.pts BO (opC11 kind N K pk pl (.slice ai mi ci) (.slice ad md cd) nx),Pr.pts BP (.cells #[.pointer (some ⟨x,0,none⟩)] 28),Pr.pts x (placesC v (.slice (some ⟨br,0,none⟩) roots.length cr) lv),IntsRow (.slice (some ⟨br,0,none⟩) roots.length cr) roots,NumsRow lv ls,F] wx)
     case first=>
      clear c1 k1 kf1 z1;have c1:=HS3.out.facts;simp only [CellsAt,Nat.reduceAdd,and_true] at c1;have k1:=HCA.out.1;have z1:=World.block_lt_of_cell? _ _ k1
      refine wp_region_forked (sz:=300) (by kernel_rfl) [0,1,2,3,4,5,6,7,8,9,10] [(15,[],[0,1,2,3,4,5,6,7,8,9,10],[(11,[12,13,14],[0,1,2,4,5,6,7,8,9]),(16,[17],[14])]),(11,[12,13,14],[0,1,2,4,5,6,7,8,9],[(15,[],[0,1,2,4,5,6,7,8,9,12,13,14]),(16,[17],[14])])] rfl (by kernel_rfl) (by kernel_rfl) (by kernel_rfl) ?_;refine wpQ_all _ rfl rfl ?_;simp only [pick,pQ];iterate 11 (go_big_quiet_step (fail))
      refine wpQuiet_nil ?_;intro sx hsx;rcases List.mem_cons.1 hsx with rfl | hsx
      · have hs8:=HS3.out.drew.alloc (pageC 0 0 (.slice none 0 0) (.slice none 0 0) 0)
        have V:=hQ (RD.out _ _ (hs8.pull1 (A1:=VaultA v sT)));have HSTA:=hQ (HST2.out.drew.alloc (pageC 0 0 (.slice none 0 0) (.slice none 0 0) 0));clear hs8;refine wpRest_act rfl ?_;go_wp2;refine onN_mk ?_;refine wpQ_nil ⟨?_,?_⟩
        · exact cQ
        refine wpRest_act rfl ?_;go_wp2_with fail
        refine V.out.mono ?_;rintro e w5 ⟨st5,tai,tad,tci,tcd,er,g,h',s',rfl,hq,hp,hs9⟩;rw [show w2.drew.heap.size=w2.heap.size by simp] at hs9;dsimp only [pageV];have hs10:=OwnL.of2 hs9;clear c1;have c1:=hs10.facts;simp only [CellsAt,Nat.reduceAdd,and_true] at c1
        have hs11:=(((((hs10.set w2.heap.size 0 (.int .i64 g.kind)).set w2.heap.size 1 (.int .i64 g.level)).set w2.heap.size 2 (.slice tai g.items.length tci)).set w2.heap.size 3 (.slice tad g.data.length tcd)).set w2.heap.size 4 (.int .i64 g.next))
        have HEND:=hQ (And.intro hq (And.intro hp (And.intro ((((((HSTA.out.trans st5).setCell ⟨w2.heap.size,0,none⟩ (.int .i64 g.kind)).setCell ⟨w2.heap.size,1,none⟩ (.int .i64 g.level)).setCell ⟨w2.heap.size,2,none⟩ (.slice tai g.items.length tci)).setCell ⟨w2.heap.size,3,none⟩ (.slice tad g.data.length tcd)).setCell ⟨w2.heap.size,4,none⟩ (.int .i64 g.next)) hs11)))
        clear hs9 hs10 hs11 hq hp st5 V HSTA;go_wp2;refine onN_mk ?_;refine wpQ_all _ rfl rfl ?_;simp only [pick,pQ];iterate 3 (go_big_quiet_step (fail))
        refine wpQuiet_nil ⟨?_,?_⟩
        · exact cQ
        refine wpRest_act rfl ?_;go_wp2;refine onN_mk ?_;refine wpQ_all _ rfl rfl ?_;simp only [pick,pQ];iterate 1 (go_big_quiet_step (fail))
        refine wpQuiet_nil ⟨?_,?_⟩
        · exact cQ
        refine wpRest_nil ?_;go_wp2;go_meet
        exact⟨_,er,g,h',s',tai,tad,tci,tcd,rfl,rfl,HEND.out.1,HEND.out.2.1,HEND.out.2.2.1,HEND.out.2.2.2.to⟩
      · cases List.mem_singleton.1 hsx
        have V:=hQ (RD.out _ _ (HS3.out.drew.pull1 (A1:=VaultA v sT)));refine wpRest_act rfl ?_;go_wp2_with fail
        refine V.out.mono ?_;rintro e w5 ⟨st5,tai,tad,tci,tcd,er,g,h',s',rfl,hq,hp,hs9⟩;dsimp only [pageV];have hs10:=OwnL.of2 hs9;clear c1;have c1:=hs10.facts;simp only [CellsAt,Nat.reduceAdd,and_true] at c1;have hs11:=hs10.alloc (pageC g.kind g.level (.slice tai g.items.length tci) (.slice tad g.data.length tcd) g.next)
        have HEND:=hQ (And.intro hq (And.intro hp (And.intro ((HST2.out.drew.trans st5).alloc (pageC g.kind g.level (.slice tai g.items.length tci) (.slice tad g.data.length tcd) g.next)) hs11)));clear hs9 hs10 hs11 hq hp st5 V;go_wp2;refine onN_mk ?_;refine wpQ_all _ rfl rfl ?_;simp only [pick,pQ];iterate 3 (go_big_quiet_step (fail))
        refine wpQuiet_nil ⟨?_,?_⟩
        · exact cQ
        refine wpRest_act rfl ?_;go_wp2;refine onN_mk ?_;refine wpQ_nil ⟨?_,?_⟩
        · exact cQ
        refine wpRest_act rfl ?_;go_wp2;refine onN_mk ?_;refine wpQ_all _ rfl rfl ?_;simp only [pick,pQ];iterate 1 (go_big_quiet_step (fail))
        refine wpQuiet_nil ⟨?_,?_⟩
        · exact cQ
        refine wpRest_nil ?_;go_wp2;go_meet
        exact⟨_,er,g,h',s',tai,tad,tci,tcd,rfl,rfl,HEND.out.1,HEND.out.2.1,HEND.out.2.2.1,HEND.out.2.2.2.to⟩
     case rest=>
      obtain⟨J1,er,g1,hp1,s9,tai1,tad1,tci1,tcd1,rfl,rfl,⟨hq,her,hg1⟩,hpg1,st3,hs4⟩:=hcut;have hq2:=hq.symm;clear hq;subst hq2;rename World=>wA
      have V:=hQ (RN.out _ _ (hs4.pull1 (A1:=VaultA v sT)));have HE1:=hQ (And.intro her hg1);have HP1:=hQ hpg1;have HST3:=hQ st3;clear c1 k1 kf1 z1;have c1:=hs4.facts;simp only [CellsAt,Nat.reduceAdd,and_true] at c1;clear hs4 st3 her hg1 hpg1 HS3 HST2 HCA RD RN;go_wp2_with fail
      refine V.out.mono ?_;rintro e w5 ⟨st5,tai2,tad2,tci2,tcd2,er2,g2,hp2,s8,rfl,⟨hq8,rfl,hg2⟩,hpg2,hs5⟩;have hq9:=hq8.symm;clear hq8;subst hq9;dsimp only [pageV];have hs6:=OwnL.of2 hs5;have hs7:=hs6.alloc (pageC g2.kind g2.level (.slice tai2 g2.items.length tci2) (.slice tad2 g2.data.length tcd2) g2.next);have HST6:=hQ (HST3.out.trans st5)
      have HST7:=hQ (HST6.out.alloc (pageC g2.kind g2.level (.slice tai2 g2.items.length tci2) (.slice tad2 g2.data.length tcd2) g2.next));have HS7:=hQ hs7;have HS6:=hQ hs6;have HP2:=hQ hpg2;have HG2:=hQ hg2;clear c1;have c1:=hs6.facts;simp only [CellsAt,Nat.reduceAdd,and_true] at c1;clear hs5 hs6 hs7 st5 V HST3 hpg2 hg2;have HFIT:=hQ (HIN.out.1.fit);by_cases hc:sT.pool.count rj=0
      · obtain⟨her,_⟩:=HE1.out
        rw [if_pos hc] at her;subst her;clear HE1 hc HP1 HP2 HG2 HFIT;have hq1:=OwnL.of1 (irow_set (HS6.out.pull1 (A1:=IntsRow (.slice (some ⟨br,0,none⟩) roots.length cr) roots)) HJ.out m) |>.alloc (pageC g2.kind g2.level (.slice tai2 g2.items.length tci2) (.slice tad2 g2.data.length tcd2) g2.next)
        have n1:=irow_ne (HS6.out.pull2 (A1:=IntsRow (.slice (some ⟨br,0,none⟩) roots.length cr) roots) (A2:=Pr.pts BP (.cells #[.pointer (some ⟨x,0,none⟩)] 28)));have n2:=irow_ne (HS6.out.pull2 (A1:=IntsRow (.slice (some ⟨br,0,none⟩) roots.length cr) roots) (A2:=Pr.pts x (placesC v (.slice (some ⟨br,0,none⟩) roots.length cr) lv)))
        have HE:=hQ (show PlDone x v k F ((w5.setCell ⟨br,j,none⟩ (.int .i64 m)).alloc (pageC g2.kind g2.level (.slice tai2 g2.items.length tci2) (.slice tad2 g2.data.length tcd2) g2.next)) from⟨.slice (some ⟨br,0,none⟩) roots.length cr,lv,sT,roots.set j m,ls,⟨by
         have e1:(fun q=>((roots.count q:Nat):Int)-(if q=rj then 1 else 0)+if q=m then 1 else 0)=fun q=>(((roots.set j m).count q:Nat):Int):=by
          funext q
          rw [count_set_int HJ.out,show roots[j]'HJ.out=rj from HRJ.out]
         rw [← e1]
         exact HIN.out.1.le (Nat.le_succ k),by rw [List.length_set];omega⟩,hq1.to⟩)
        have HST8:=hQ ((HST6.out.setCell ⟨br,j,none⟩ (.int .i64 m)).alloc (pageC g2.kind g2.level (.slice tai2 g2.items.length tci2) (.slice tad2 g2.data.length tcd2) g2.next));obtain⟨xx,okx,hq2⟩:=vault_open (v:=v) (s:=sT) HS6.out;have n3:=irow_ne (hq2.pull2 (A1:=IntsRow (.slice (some ⟨br,0,none⟩) roots.length cr) roots) (A2:=vaultQ v sT xx))
        have hq3:=OwnL.of1 (irow_set (hq2.pull1 (A1:=IntsRow (.slice (some ⟨br,0,none⟩) roots.length cr) roots)) HJ.out m) |>.alloc (pageC g2.kind g2.level (.slice tai2 g2.items.length tci2) (.slice tad2 g2.data.length tcd2) g2.next)
        have SA:=hQ (pool_state xx.p sT.pool m _ _ (hq3.pull1 (A1:=PoolA xx.p sT.pool)));have CA:=hQ (count_A xx.p sT.pool m _ _ (hq3.pull1 (A1:=PoolA xx.p sT.pool)));rw [HIN.out.2.1] at SA;rw [HIN.out.2.2.1] at CA;have kk:=ints_cell (hq2.pull1 (A1:=IntsRow (.slice (some ⟨br,0,none⟩) roots.length cr) roots)) HJ.out;rw [show roots[j]'HJ.out=rj from HRJ.out] at kk;obtain⟨k1,kf1⟩:=kk
        have z1:=World.block_lt_of_cell? _ _ k1;clear c1;have c1:=hq2.facts;simp only [CellsAt,Nat.reduceAdd,and_true] at c1;clear hq1 hq2 hq3 okx HS6 HST6 HS7 HST7 HRJ HIN;go_wp2_with fail
        refine SA.out.mono ?_;rintro e w8 ⟨rfl,rfl⟩;go_wp2_with fail
        refine CA.out.mono ?_;rintro e w8 ⟨rfl,rfl⟩;go_wp2;go_ret;exact⟨rfl,HST8.out,HE.out⟩
      · obtain⟨her,hg1⟩:=HE1.out
        rw [if_neg hc] at her hg1;subst her
        have hgg:g1=g2:=by
         rw [hg1,HG2.out];have e1:=HIN.out.2.2.2.1;have e2:=HIN.out.2.2.2.2 hc;unfold VaultS.get at e1 e2 ⊢;rw [e1,e2]
        have hf2:Fit g2:=by
         have e1:=HIN.out.2.2.2.1;have:=HFIT.out m _ e1
         rw [HG2.out];unfold VaultS.get at e1 this ⊢;rw [e1];exact this
        clear HE1 hc HG2 HFIT hg1;subst hgg;have EQ:=hQ (eqpage_same hp1 hp2 _ _ g1 HP1.out HP2.out hf2 _ HS7.out.le HS7.out.le);go_wp2_with fail
        refine EQ.out.mono ?_;rintro e w7 ⟨rfl,ho7⟩;have HS8:=hQ (HS7.out.ext ho7.heap);have HST9:=hQ (HST7.out.trans ho7.st);clear HS7 HST7 ho7 EQ HP1 HP2;have HS7:=HS8;have HST7:=HST9;clear HS8 HST9 HS6 HST6;have hq1:=OwnL.of1 (irow_set (HS7.out.pull1 (A1:=IntsRow (.slice (some ⟨br,0,none⟩) roots.length cr) roots)) HJ.out m)
        have n1:=irow_ne (HS7.out.pull2 (A1:=IntsRow (.slice (some ⟨br,0,none⟩) roots.length cr) roots) (A2:=Pr.pts BP (.cells #[.pointer (some ⟨x,0,none⟩)] 28)));have n2:=irow_ne (HS7.out.pull2 (A1:=IntsRow (.slice (some ⟨br,0,none⟩) roots.length cr) roots) (A2:=Pr.pts x (placesC v (.slice (some ⟨br,0,none⟩) roots.length cr) lv)))
        have HE:=hQ (show PlDone x v k F (w7.setCell ⟨br,j,none⟩ (.int .i64 m)) from⟨.slice (some ⟨br,0,none⟩) roots.length cr,lv,sT,roots.set j m,ls,⟨by
         have e1:(fun q=>((roots.count q:Nat):Int)-(if q=rj then 1 else 0)+if q=m then 1 else 0)=fun q=>(((roots.set j m).count q:Nat):Int):=by
          funext q
          rw [count_set_int HJ.out,show roots[j]'HJ.out=rj from HRJ.out]
         rw [← e1]
         exact HIN.out.1.le (Nat.le_succ k),by rw [List.length_set];omega⟩,hq1.to⟩)
        have HST8:=hQ (HST7.out.setCell ⟨br,j,none⟩ (.int .i64 m));obtain⟨xx,okx,hq2⟩:=vault_open (v:=v) (s:=sT) HS7.out;have n3:=irow_ne (hq2.pull2 (A1:=IntsRow (.slice (some ⟨br,0,none⟩) roots.length cr) roots) (A2:=vaultQ v sT xx));have hq3:=OwnL.of1 (irow_set (hq2.pull1 (A1:=IntsRow (.slice (some ⟨br,0,none⟩) roots.length cr) roots)) HJ.out m)
        have SA:=hQ (pool_state xx.p sT.pool m _ _ (hq3.pull1 (A1:=PoolA xx.p sT.pool)));have CA:=hQ (count_A xx.p sT.pool m _ _ (hq3.pull1 (A1:=PoolA xx.p sT.pool)));rw [HIN.out.2.1] at SA;rw [HIN.out.2.2.1] at CA;have kk:=ints_cell (hq2.pull1 (A1:=IntsRow (.slice (some ⟨br,0,none⟩) roots.length cr) roots)) HJ.out;rw [show roots[j]'HJ.out=rj from HRJ.out] at kk;obtain⟨k1,kf1⟩:=kk
        have z1:=World.block_lt_of_cell? _ _ k1;clear c1;have c1:=hq2.facts;simp only [CellsAt,Nat.reduceAdd,and_true] at c1;clear hq1 hq2 hq3 okx HS7 HST7 HRJ HIN;go_wp2_with fail
        refine SA.out.mono ?_;rintro e w8 ⟨rfl,rfl⟩;go_wp2_with fail
        refine CA.out.mono ?_;rintro e w8 ⟨rfl,rfl⟩;go_wp2;go_ret;exact⟨rfl,HST8.out,HE.out⟩
end Go.Proofs.YtpfafhklppondaaGreat.Vz
