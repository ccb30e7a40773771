/- The law's step, kind 4; the conditions stand as hypotheses. -/
import Derived.Test.YtpfafhklppondaaGreatVaultCountsM41
import Derived.Lib.SmallJoins
import Derived.Test.YtpfafhklppondaaGreatVaultCountsM24
import Derived.Deep.CutRange
import Derived.Test.YtpfafhklppondaaGreatVaultCountsM42
import Derived.Test.YtpfafhklppondaaGreatVaultCountsM44
import Derived.Test.YtpfafhklppondaaGreatVaultCountsM43
import Derived.Test.YtpfafhklppondaaGreatVaultCountsM35
import Derived.Test.YtpfafhklppondaaGreatVaultCountsM01
set_option maxRecDepth 100000
set_option maxHeartbeats 16000000
namespace Go.Proofs.YtpfafhklppondaaGreat.Wz
open ChangeShapes WideShapes ChangeAt RowKit Sl Cop M2 P3 X3 G4 Q2 X2 J4 L4 P4 Q6 X6 G5 F7 Sy K4 E5 Bz Vy Wy Zy Yy Sz
theorem step4(x v k:Nat)(rv lv:Value)(s:VaultS)(roots:List Int)(ls:List NumV)(ok:PlOK s roots ls (k+2))(kind N K pk pl nx:Int)(ai ad:Option Addr)(mi ci md cd:Nat)(hkd:kind.tmod 7=4)(F:Pr)(w:World)(hF:OwnL (plL x v rv lv s roots ls [F]) w):
 Calls Tryz.prog 8 #[.pointer (some ⟨x,0,none⟩),.agg #[.int .i64 kind,.int .i64 N,.int .i64 K,.int .i64 pk,.int .i64 pl,.slice ai mi ci,.slice ad md cd,.int .i64 nx]] w fun e w'=>e= .returned (.bool true)∧Stays w w'∧PlDone x v k F w':=by
 obtain⟨ar,cr,rfl⟩:=Row.shape (hF.pull1 (A1:=IntsRow rv roots));have hs0:=(hF.alloc (.cells #[.pointer (some ⟨x,0,none⟩)] 28)).alloc (opC11 kind N K pk pl (.slice ai mi ci) (.slice ad md cd) nx);rw [show (w.alloc (.cells #[.pointer (some ⟨x,0,none⟩)] 28)).heap.size=w.heap.size+1 by simp] at hs0
 have HST:=hQ (((Stays.refl w).alloc (.cells #[.pointer (some ⟨x,0,none⟩)] 28)).alloc (opC11 kind N K pk pl (.slice ai mi ci) (.slice ad md cd) nx));have hrl:=ok.rl;have RT:=hQ (root_any x v (.slice ar roots.length cr) lv s roots ls _ (by omega) N _ (pl_pack hs0));have HS0:=hQ hs0;have HOK:=hQ ok;clear hF hs0 ok;go_enter Tryz.func8,Tryz.ntmps8
 go_wp2_with fail
 refine RT.out.mono ?_;rintro e w1 ⟨⟨i,rfl,hi⟩,ho⟩;have hs1:=HS0.out.ext ho.heap;have HST1:=hQ (HST.out.trans ho.st);clear RT HS0 HST ho;generalize w.heap.size+1=BO at*;generalize w.heap.size=BP at*;have c1:=hs1.facts;simp only [CellsAt,Nat.reduceAdd,and_true] at c1;rcases hi with⟨rfl,hr0⟩ | ⟨j,hj,rfl⟩
 · have HE:=hQ (show PlDone x v k F w1 from⟨.slice ar roots.length cr,lv,s,roots,ls,HOK.out.le (by omega),hs1.to⟩)
   clear hs1 hr0 hrl HOK;go_wp2;go_ret;exact⟨rfl,HST1.out,HE.out⟩
 · obtain⟨br,rfl,k1,kf1⟩:=irow_at (hs1.pull1 (A1:=IntsRow (.slice ar roots.length cr) roots)) hj
   have z1:=World.block_lt_of_cell? _ _ k1;have hj3:(j:Int)≤120:=by omega
   have HJ:=hQ hj;obtain⟨m,hm⟩:∃m,roots.length=m+1:=⟨roots.length-1,by omega⟩;have hml:m<roots.length:=by omega
   obtain⟨_,e9,k2,_⟩:=irow_at (hs1.pull1 (A1:=IntsRow (.slice (some ⟨br,0,none⟩) roots.length cr) roots)) hml;cases e9;have HCNT:=hQ (count_swap hm hj);have HR0:=hQ (show ((roots.count roots[j]:Nat):Int)≠0 by have:=List.count_pos_iff.2 (List.getElem_mem hj);omega);have hs2:=OwnL.of1 (irow_set (hs1.pull1 (A1:=IntsRow (.slice (some ⟨br,0,none⟩) roots.length cr) roots)) hj roots[m])
   have HS2:=hQ hs2.drew;have HST2:=hQ (HST1.out.setCell ⟨br,j,none⟩ (.int .i64 roots[m])).drew;have hm3:((roots.length:Nat):Int)-1=(m:Int):=by omega
   have hmr:m≤120:=by omega
   have hmcr:m≤cr:=by
    obtain⟨_,(⟨e,_,_⟩ | ⟨_,_,_,e,_,h2,_⟩)⟩:=Row.open' (hs1.pull1 (A1:=IntsRow (.slice (some ⟨br,0,none⟩) roots.length cr) roots))
    · cases e
    · cases e
      omega
   have HM:=hQ hm;have hmc:m≤roots.length:=by omega
   clear hs1 hs2 HST1;generalize hrj:roots[j]=rj at*;generalize hrm:roots[m]=rm at*;clear hrj hrm hj hm;have hjl:=HJ.out;go_wp2_with fail
   refine wS 300 [0,1,2,3,4,5,6,7,8,9,10,11,12,13,14,15,16,17] [(18,[],[])] ?_;refine wpQ_cut [0,1,2,3,4,5,6,7,8,9,10,11,12] [13,14,15,16,17] ?_;refine wpQ_all _ rfl rfl ?_;simp only [pick,pQ];iterate 13 (go_big_quiet_step (fail))
   refine wpQuiet_nil ?_;refine wpQ_step rfl rfl (fun K hK=> ?_);go_simp;refine hK _ ?_;clear hK K;refine wpQ_all _ rfl rfl ?_;simp only [pick,pQ];iterate 4 (go_big_quiet_step (fail))
   refine wpQuiet_nil ?_;refine wpRest_act rfl ?_;go_wp2;refine onN_mk ?_;refine wpQ_nil ⟨?_,?_⟩
   · exact chk_nil
   refine wpRest_nil ?_;clear c1 k1 k2 kf1 z1;generalize (w1.setCell ⟨br,j,none⟩ (.int .i64 rm)).drew=w2 at*;have c1:=HS2.out.facts;simp only [CellsAt,Nat.reduceAdd,and_true] at c1;have hs3:=HS2.out.set x 1 (.slice (some ⟨br,0,none⟩) m cr);have HST3:=hQ (HST2.out.setCell ⟨x,1,none⟩ (.slice (some ⟨br,0,none⟩) m cr)).drew;have hls:(roots.set j rm).length=roots.length:=List.length_set
   have hs4:=OwnL.of1 (irow_cut (l:=roots.set j rm) (a:=some ⟨br,0,none⟩) (c:=cr) (m:=m) (by rw [hls];exact hs3.drew.pull1) (by rw [hls];exact hmc));have DP:=hQ (pl_drop v s _ ls (k+1) HOK.out.inv rj HR0.out _ _ (hs4.pull1 (A1:=VaultA v s)));have HS4:=hQ hs4;clear hs3 hs4 hls HST2 hmc;go_wp2_with fail
   refine wS 300 [0,1,2,3,4,5,6,7,8,9,10,11,12,13] [(14,[],[12])] ?_;refine wpQ_cut [0,1,2,3,4,5,6,7,8] [9,10,11,12,13] ?_;refine wpQ_all _ rfl rfl ?_;simp only [pick,pQ];iterate 9 (go_big_quiet_step (fail))
   refine wpQuiet_nil ?_;refine wpQ_step rfl rfl (fun K hK=> ?_);go_simp;refine hK _ ?_;clear hK K;refine wpQ_cut [10] [11,12,13] ?_;refine wpQ_all _ rfl rfl ?_;simp only [pick,pQ];iterate 1 (go_big_quiet_step (fail))
   refine wpQuiet_nil ?_;refine wpQ_step rfl rfl (fun K hK=> ?_);go_simp;refine hK _ ?_;clear hK K;refine wpQ_all _ rfl rfl ?_;simp only [pick,pQ];iterate 2 (go_big_quiet_step (fail))
   refine wpQuiet_nil ?_;refine wpRest_act rfl ?_;go_wp2;refine onN_mk ?_;refine wpQ_nil ⟨?_,?_⟩
   · exact cQ
   refine wpRest_nil ?_;clear c1 HS2;generalize (w2.setCell ⟨x,1,none⟩ (.slice (some ⟨br,0,none⟩) m cr)).drew=w3 at*;have c1:=HS4.out.facts;simp only [CellsAt,Nat.reduceAdd,and_true] at c1;go_wp2_with fail
   refine DP.out.mono ?_;rintro e w4 ⟨st4,rfl,s',hInv,hs6⟩;have HS6:=hQ (OwnL.of1 hs6);have HI6:=hQ hInv;have HST6:=hQ (HST3.out.trans st4);clear c1 hs6 hInv st4 DP HS4 HST3;go_wp2;go_ret;have hlt:((roots.set j rm).take m).length≤m:=List.length_take_le _ _;refine⟨rfl,HST6.out,.slice (some ⟨br,0,none⟩) m cr,lv,s',(roots.set j rm).take m,ls,⟨?_,by have:=HM.out;omega⟩,HS6.out.to⟩
   have e1:(fun q=>((roots.count q:Nat):Int)-if q=rj then 1 else 0)=fun q=>((((roots.set j rm).take m).count q:Nat):Int):=by
    funext q
    rw [HCNT.out]
   rw [← e1];exact HI6.out.le (Nat.le_succ k)
end Go.Proofs.YtpfafhklppondaaGreat.Wz
namespace Go.Proofs.YtpfafhklppondaaGreat.Xz
open ChangeShapes WideShapes ChangeAt RowKit Sl Cop M2 P3 X3 G4 Q2 X2 J4 L4 P4 Q6 X6 G5 F7 Sy K4 E5 Bz Vy Wy Zy Yy F6 Go.Shelf Sz E7 G7 K7 X4
attribute [local go_sem] Oper.semAt_some
theorem step6(x v k:Nat)(rv lv:Value)(s:VaultS)(roots:List Int)(ls:List NumV)(ok:PlOK s roots ls (k+2))(kind N K pk pl nx:Int)(ai ad:Option Addr)(mi ci md cd:Nat)(h0:kind.tmod 7≠0)(h1:kind.tmod 7≠1)(h2:kind.tmod 7≠2)(h3:kind.tmod 7≠3)(h4:kind.tmod 7≠4)(h5:kind.tmod 7≠5)(F:Pr)(w:World)(hF:OwnL (plL x v rv lv s roots ls [F]) w):
 Calls Tryz.prog 8 #[.pointer (some ⟨x,0,none⟩),.agg #[.int .i64 kind,.int .i64 N,.int .i64 K,.int .i64 pk,.int .i64 pl,.slice ai mi ci,.slice ad md cd,.int .i64 nx]] w fun e w'=>e= .returned (.bool true)∧Stays w w'∧PlDone x v k F w':=by
 obtain⟨ar,cr,rfl⟩:=Row.shape (hF.pull1 (A1:=IntsRow rv roots));have hs0:=(hF.alloc (.cells #[.pointer (some ⟨x,0,none⟩)] 28)).alloc (opC11 kind N K pk pl (.slice ai mi ci) (.slice ad md cd) nx);rw [show (w.alloc (.cells #[.pointer (some ⟨x,0,none⟩)] 28)).heap.size=w.heap.size+1 by simp] at hs0
 have HST:=hQ (((Stays.refl w).alloc (.cells #[.pointer (some ⟨x,0,none⟩)] 28)).alloc (opC11 kind N K pk pl (.slice ai mi ci) (.slice ad md cd) nx));have hrl:=ok.rl;have RT:=hQ (root_any x v (.slice ar roots.length cr) lv s roots ls _ (by omega) N _ (pl_pack hs0));have HS0:=hQ hs0;have HOK:=hQ ok;clear hF hs0 ok;have e0:(kind.tmod 7 == 0)=false:=beq_eq_false_iff_ne.2 h0
 have e1:(kind.tmod 7 == 1)=false:=beq_eq_false_iff_ne.2 h1;have e2:(kind.tmod 7 == 2)=false:=beq_eq_false_iff_ne.2 h2;have e3:(kind.tmod 7 == 3)=false:=beq_eq_false_iff_ne.2 h3;have e4:(kind.tmod 7 == 4)=false:=beq_eq_false_iff_ne.2 h4;have e5:(kind.tmod 7 == 5)=false:=beq_eq_false_iff_ne.2 h5;clear h0 h1 h2 h3 h4 h5;refine calls_of_wp_marks (n:=9) Tryz.func8 rfl ?_
 simp only [Tryz.ntmps8,List.size_toArray,List.length_cons,List.length_nil,Nat.reduceAdd,Nat.reduceSub,Array.replicate_succ,Array.replicate_zero,List.push_toArray,List.append_toArray,List.nil_append,List.cons_append];go_wp2_with fail
 refine RT.out.mono ?_;rintro e w1 ⟨⟨i,rfl,hi⟩,ho⟩;have hs1:=HS0.out.ext ho.heap;have HST1:=hQ (HST.out.trans ho.st);clear RT HS0 HST ho;generalize w.heap.size+1=BO at*;generalize w.heap.size=BP at*;have c1:=hs1.facts;simp only [CellsAt,Nat.reduceAdd,and_true] at c1;clear hi;have SE:=hQ (pl_settle v s _ ls (k+1) HOK.out.inv _ w1 (hs1.pull1 (A1:=VaultA v s)));clear hs1;go_wp2_with fail
 refine SE.out.mono ?_;rintro e w2 ⟨rfl,st2,hInv,hs2⟩;have hs3:=OwnL.of1 hs2;have hs4:=hs3.set x 2 (.slice none 0 0);have okp:=(vault_ok hs2).1;have hfit:=hInv.fit;have PG:=hQ (vpages_any v s.settled 4 hfit _ _ (hs4.pull1 (A1:=VaultA v s.settled)));obtain⟨L,hL⟩:∃L,numsOf s.settled (pagesIn s.settled.pool 4)=L:=⟨_,rfl⟩
 have HL:=hQ (show L.length≤200∧∀y∈L,Fit y.page from by
  rw [← hL]
  refine⟨?_,nums_fit hfit _⟩
  have h1:(pagesIn s.settled.pool 4).length≤s.settled.pool.counts.length:=pagesTo_len _ _ _
  have h2:=hInv.n2
  unfold numsOf
  rw [List.length_map]
  omega)
 rw [hL] at PG hInv;have HI:=hQ hInv;have HST2:=hQ ((HST1.out.trans st2).setCell ⟨x,2,none⟩ (.slice none 0 0));clear c1;have c1:=hs3.facts;simp only [CellsAt,Nat.reduceAdd,and_true] at c1;clear hs2 hs3 hs4 okp hfit hL hInv st2 SE HST1;go_wp2_with fail
 refine PG.out.mono ?_;rintro e w3 ⟨st3,hw,fv,rfl,hwk,hs5⟩;obtain⟨lb,lv1,rfl,hlb,hn1⟩:=hwk;have hs6:=OwnL.of2 hs5;have HS6:=hQ hs6;have HST3:=hQ (HST2.out.trans st3);have W1:=hQ (walk1 hw lb lv1 L hlb hn1 HL.out.2 (by have:=HL.out.1;omega));clear hs5 hs6 st3 PG HST2 c1 hlb hn1;go_wp2
 refine wp_rangeFunc_v 9 (gf:=106) rfl (enters_of Tryz.func106 (by kernel_rfl) rfl) W1.out (fun _=>rfl)
  (fun pre=>Pr.ex fun nv:Value=>(Pr.pts x (placesC v (.slice ar roots.length cr) nv)).star ((NumsRow nv (L.take pre.length)).star ((Pr.pts BP (.cells #[.pointer (some ⟨x,0,none⟩)] 28)).star ((Pr.pts BO (opC11 kind N K pk pl (.slice ai mi ci) (.slice ad md cd) nx)).star ((VaultA v s.settled).star ((IntsRow (.slice ar roots.length cr) roots).star F)))))) (fun _ _=>Pr.pure False) ?start ?round ?done ?stop
 case start=>
  rw [Pr.ex_star];refine Sat.ex0.2 ⟨.slice none 0 0,?_⟩;have h1:=HS6.out.to (M:= [Pr.pts x (placesC v (.slice ar roots.length cr) (.slice none 0 0)),Pr.pts BP (.cells #[.pointer (some ⟨x,0,none⟩)] 28),Pr.pts BO (opC11 kind N K pk pl (.slice ai mi ci) (.slice ad md cd) nx),VaultA v s.settled,IntsRow (.slice ar roots.length cr) roots,F,Pr.own hw]);have h2:=numsRow_start h1.sat;refine h2.perm ?_
  simp only [starL,Pr.star_emp,List.length_nil,List.take_zero];ac_rfl
 case round=>
  intro l' pre y W1' F1 hok hs;obtain⟨hlt,hno,hg⟩:=hok;obtain⟨no,t⟩:=y;dsimp only at hno hg
  have hsa:Sat ((PgOwn t).star ((Pr.ex fun nv:Value=>(Pr.pts x (placesC v (.slice ar roots.length cr) nv)).star ((NumsRow nv (L.take pre.length)).star ((Pr.pts BP (.cells #[.pointer (some ⟨x,0,none⟩)] 28)).star ((Pr.pts BO (opC11 kind N K pk pl (.slice ai mi ci) (.slice ad md cd) nx)).star ((VaultA v s.settled).star ((IntsRow (.slice ar roots.length cr) roots).star F)))))).star ((Pr.own hw).star F1))) W1':=hs.perm (by ac_rfl)
  obtain⟨_,h3⟩:=pgOwn_iff.1 hsa;obtain⟨ai2,ci2,q1⟩:=Row.shape h3;obtain⟨ad2,cd2,q2⟩:=Row.shape h3.right.right;obtain⟨vi,vd,ys,g⟩:=t;dsimp only at hg q1 q2;subst q1 q2;have HSA:=hQ hsa;have HG:=hQ (And.intro hno hg);clear hno hg;simp only [encT];rw [pv_eq];clear hs hsa h3;gi_wp2
  refine⟨(Stays.refl W1').alloc _,(Pr.pts W1'.heap.size (pageC g.kind g.level (.slice ai2 g.items.length ci2) (.slice ad2 g.data.length cd2) g.next)).star ((PgOwn ⟨.slice ai2 g.items.length ci2,.slice ad2 g.data.length cd2,ys,g⟩).star ((Pr.ex fun nv:Value=>(Pr.pts x (placesC v (.slice ar roots.length cr) nv)).star ((NumsRow nv (L.take pre.length)).star ((Pr.pts BP (.cells #[.pointer (some ⟨x,0,none⟩)] 28)).star ((Pr.pts BO (opC11 kind N K pk pl (.slice ai mi ci) (.slice ad md cd) nx)).star ((VaultA v s.settled).star ((IntsRow (.slice ar roots.length cr) roots).star F)))))).star (Pr.own hw))),?_,?_⟩
  · exact(HSA.out.alloc (pageC g.kind g.level (.slice ai2 g.items.length ci2) (.slice ad2 g.data.length cd2) g.next)).perm (by ac_rfl)
  intro F2 W2 _ hs2
  have hs2b:Sat ((Pr.ex fun nv:Value=>(Pr.pts x (placesC v (.slice ar roots.length cr) nv)).star ((NumsRow nv (L.take pre.length)).star ((Pr.pts BP (.cells #[.pointer (some ⟨x,0,none⟩)] 28)).star ((Pr.pts BO (opC11 kind N K pk pl (.slice ai mi ci) (.slice ad md cd) nx)).star ((VaultA v s.settled).star ((IntsRow (.slice ar roots.length cr) roots).star F)))))).star ((Pr.pts W1'.heap.size (pageC g.kind g.level (.slice ai2 g.items.length ci2) (.slice ad2 g.data.length cd2) g.next)).star ((PgOwn ⟨.slice ai2 g.items.length ci2,.slice ad2 g.data.length cd2,ys,g⟩).star ((Pr.own hw).star F2)))) W2:=hs2.perm (by ac_rfl)
  obtain⟨nv,hs3⟩:=Sat.ex.1 hs2b;generalize W1'.heap.size=J at*
  have hs4:OwnL [NumsRow nv (L.take pre.length),Pr.pts x (placesC v (.slice ar roots.length cr) nv),Pr.pts BP (.cells #[.pointer (some ⟨x,0,none⟩)] 28),Pr.pts BO (opC11 kind N K pk pl (.slice ai mi ci) (.slice ad md cd) nx),VaultA v s.settled,IntsRow (.slice ar roots.length cr) roots,F,Pr.pts J (pageC g.kind g.level (.slice ai2 g.items.length ci2) (.slice ad2 g.data.length cd2) g.next),PgOwn ⟨.slice ai2 g.items.length ci2,.slice ad2 g.data.length cd2,ys,g⟩,Pr.own hw,F2] W2:=⟨hs3.perm (by simp only [starL,Pr.star_emp];ac_rfl)⟩
  obtain⟨ht,hta,hs4b⟩:=hs4.arena (PgOwn ⟨.slice ai2 g.items.length ci2,.slice ad2 g.data.length cd2,ys,g⟩);obtain⟨vi3,vd3,epv,hi3,hd3⟩:=pgOwn_in hta;rw [pv_eq] at epv;simp only [pageV,Value.agg.injEq,Array.mk.injEq,List.cons.injEq,and_true,true_and] at epv;obtain⟨rfl,rfl⟩:=epv;obtain⟨np,hnp⟩:∃np,pre.length=np:=⟨_,rfl⟩;rw [hnp] at hs4b
  obtain⟨xs,hk,hna,hs5⟩:=numsRow_iff.1 (hs4b.pull1 (A1:=NumsRow nv (L.take np)));have hnl:(L.take np).length=np:=by rw [List.length_take];omega
  rw [hnl] at hs5;have hs6:=OwnL.of2 hs5;obtain⟨an,cn,rfl⟩:=Row.shape (hs6.pull1 (A1:=Row 69 6 nv np ((xs.zip (L.take np)).flatMap numCells)));have c1:=hs6.facts;simp only [CellsAt,Nat.reduceAdd,and_true] at c1;obtain⟨hs7,hn7⟩:=hs6.freshD [Value.int .i64 no,.int .i64 g.kind,.int .i64 g.level,.slice ai2 g.items.length ci2,.slice ad2 g.data.length cd2,.int .i64 g.next] 69 W2.heap.size rfl
  have A1:=hQ (hs7.pull1 (A1:=Row 69 6 (.slice an np cn) np ((xs.zip (L.take np)).flatMap numCells)));have HNEW:=hQ hn7;have HSTA:=hQ ((Stays.refl W2).alloc (.cells ([Value.int .i64 no,.int .i64 g.kind,.int .i64 g.level,.slice ai2 g.items.length ci2,.slice ad2 g.data.length cd2,.int .i64 g.next]).toArray 69)).drew;have HNA:=hQ hna;have HID:=hQ (And.intro hi3 hd3);have HNL:=hQ hnl;have HNP:=hQ hnp
  have hnp2:np≤200:=by have:=HL.out.1;omega
  have HLT:=hQ hlt;obtain⟨j0,hj,hy0,hy1,hy2⟩:=info_parts infoNum;clear hs2 hs2b hs3 hs4 hs4b hs5 hs6 hs7 hn7 hna hi3 hd3 hnl hnp hta HSA;gi_wp2_with fail
  refine wpIn_region_staged (sz:=300) (by kernel_rfl) [0,1,2,3,4,5,6,7] [(8,[],[0,1,2,3,4,5,6]),(9,[10,11],[0,1,2,3,5,6]),(12,[],[10])] rfl (by kernel_rfl) (by kernel_rfl) (by kernel_rfl) (by kernel_rfl) ?_;refine wpQ_all _ rfl rfl ?_;simp only [pick,pQ];iterate 8 (go_big_quiet_step (fail))
  refine wpQuiet_nil ?_;refine wpRest_act rfl ?_;go_wp2;refine onN_mk ?_;refine wpQ_nil ⟨?_,?_⟩
  · exact cQ
  refine wpRest_act rfl ?_
  refine wpList_appN rfl _ _ _ rfl 69 j0 (.agg #[.int .i64 0,.int .i64 0,.int .i64 0,.slice none 0 0,.slice none 0 0,.int .i64 0]) 6 80 Tryz.underlying30 hj hy0 hy1 hy2 rfl _ _ _ rfl A1.out ⟨W2.heap.size,0,none⟩ 1 1 [.int .i64 no,.int .i64 g.kind,.int .i64 g.level,.slice ai2 g.items.length ci2,.slice ad2 g.data.length cd2,.int .i64 g.next] rfl rfl HNEW.out (by simp [Value.oneCell']) (by simp only [maxLen];omega) (by omega) (fun v7 w7 hs9 hg9 K0 hK0=> ?_)
  obtain⟨a7,c7,e7,_,_⟩:=Row.read hs9;subst e7;go_simp;refine hK0 _ ?_;clear hK0 K0;have HS9:=hQ (OwnL.of1 hs9);have HST9:=hQ (HSTA.out.of_grown hg9);clear hs9 hg9 A1 HNEW HSTA c1;have c1:=HS9.out.facts;simp only [CellsAt,Nat.reduceAdd,and_true] at c1;refine wpList_nil ?_;refine onN_mk ?_;refine wpQ_all _ rfl rfl ?_;simp only [pick,pQ];iterate 2 (go_big_quiet_step (fail))
  refine wpQuiet_nil ⟨?_,?_⟩
  · exact cQ
  refine wpRest_act rfl ?_;go_wp2;refine onN_mk ?_;refine wpQ_nil ⟨?_,?_⟩
  · exact cQ
  refine wpRest_nil ?_;gi_wp2
  refine⟨HST9.out.setCell _ _,?_⟩;have h10:=HS9.out.set x 2 (.slice a7 (np+1) c7);obtain⟨hd,h11⟩:=(h10.pull2 (A1:=Pr.own hk) (A2:=Pr.own ht)).own_join
  have h13:=(OwnL.of1 h11).pull2 (A1:=Row 69 6 (.slice a7 (np+1) c7) (np+1) ((xs.zip (L.take np)).flatMap numCells++ [.int .i64 no,.int .i64 g.kind,.int .i64 g.level,.slice ai2 g.items.length ci2,.slice ad2 g.data.length cd2,.int .i64 g.next])) (A2:=Pr.own (hk.un ht))
  have e1:L.take (pre++ [(no,(⟨.slice ai2 g.items.length ci2,.slice ad2 g.data.length cd2,ys,g⟩:ToldX))]).length=L.take np++ [⟨no,g⟩]:=by
   rw [List.length_append,List.length_singleton,HNP.out,List.take_succ_eq_append_getElem (by rw [← HNP.out];exact HLT.out)];congr 2
   obtain⟨q1,q2⟩:=HG.out;simp only [HNP.out] at q1 q2;rw [q1,q2]
  have h14:=(numsRow_iff (v:= .slice a7 (np+1) c7) (l:=L.take np++ [⟨no,g⟩])).2 ⟨xs++ [(.slice ai2 g.items.length ci2,.slice ad2 g.data.length cd2)],hk.un ht,HNA.out.snoc hd (x:=⟨no,g⟩) HID.out.1 HID.out.2,(by rw [numCells_snoc HNA.out.len,List.length_append,HNL.out];exact h13)⟩
  have h15:=(OwnL.of1 h14).to (M:= [Pr.pts x (placesC v (.slice ar roots.length cr) (.slice a7 (np+1) c7)),NumsRow (.slice a7 (np+1) c7) (L.take np++ [⟨no,g⟩]),Pr.pts BP (.cells #[.pointer (some ⟨x,0,none⟩)] 28),Pr.pts BO (opC11 kind N K pk pl (.slice ai mi ci) (.slice ad md cd) nx),VaultA v s.settled,IntsRow (.slice ar roots.length cr) roots,F,Pr.own hw,F2])
  show Sat (((Pr.ex fun nv:Value=>_).star (Pr.own hw)).star F2) _
  rw [e1,Pr.star_assoc];refine Sat.ex.2 ⟨.slice a7 (np+1) c7,h15.sat.perm ?_⟩;simp only [starL,Pr.star_emp];ac_rfl
 case done=>
  intro D xs W2 hxs hst hs;rw [Pr.star_assoc] at hs;obtain⟨nv,hs3⟩:=Sat.ex.1 hs;rw [hxs,List.take_length] at hs3
  have hs4:OwnL [Pr.pts D (.deferred (some [])),NumsRow nv L,Pr.pts x (placesC v (.slice ar roots.length cr) nv),Pr.pts BP (.cells #[.pointer (some ⟨x,0,none⟩)] 28),Pr.pts BO (opC11 kind N K pk pl (.slice ai mi ci) (.slice ad md cd) nx),VaultA v s.settled,IntsRow (.slice ar roots.length cr) roots,F,Pr.own hw] W2:=⟨hs3.perm (by simp only [starL,Pr.star_emp];ac_rfl)⟩;have HS4:=hQ hs4
  have HST4:=hQ (HST3.out.trans hst);clear hs hs3 hs4 hst HS6;go_wp2;have q1:=HS4.out.pull1 (A1:=Pr.pts D (.deferred (some [])));have q2:=OwnL.of0 (q1.putObj (.deferred none)).right;refine marks_ret1 (D:=D) rfl q1.pts_heap ⟨_,results_tmp rfl _ _ _,rfl,HST4.out.putObj _ _,.slice ar roots.length cr,nv,s.settled,roots,L,⟨HI.out.le (Nat.le_succ k),by omega⟩,q2.to⟩
 case stop=>
  intro D c pre W2 _ hst hs;exact(Sat.pure.1 (hs.perm (Pr.star_assoc _ _ _))).1.elim
end Go.Proofs.YtpfafhklppondaaGreat.Xz
namespace Go.Proofs.YtpfafhklppondaaGreat.Zz
open ChangeShapes WideShapes ChangeAt RowKit Sl Cop M2 P3 X3 Q2 X2 J4 L4 E5 P4 X4 Q6 Y6 X7 Z7 K9 V9 Qy G5 E7 F7 Uy G7 J7 K7 Xy Az Bz Q9 K6 K4 Gz
end Go.Proofs.YtpfafhklppondaaGreat.Zz
namespace Go.Proofs.YtpfafhklppondaaGreat.Ax
open ChangeShapes WideShapes ChangeAt RowKit Sl Cop M2 P3 X3 Q2 X2 J4 L4 P4 V9 E7 J7 Xy Az Bz C9 Dz Fz Gz Zz Hz Jz Kz Lz Mz Nz Pz
theorem do0_tell(wb v r k:Nat)(z:LawS)(ok:LOK z (k+1))(N K:Int)(g:PageV)(vi vd:Value)(hp:Hp)(hpg:PageIn hp (pageV g.kind g.level vi vd g.next) g)(hz:SzP g)(hu:∀x∈g.items,U8 x.key)(P:VaultS→Prop)(hP:∀a b s' H',QMake z.s z.H g a b s' H'→P s')(F:Pr)(w:World)(hF:OwnL (lawL wb v r z [Pr.own hp,F]) w):
 Calls Tryz.prog 27 #[.pointer (some ⟨wb,0,none⟩),.agg #[.int .i64 0,.int .i64 N,.int .i64 K,.int .i64 g.kind,.int .i64 g.level,vi,vd,.int .i64 g.next]] w fun e w'=>e= .returned (.bool true)∧Stays w w'∧DoneP wb v r k P ((Pr.own hp).star F) w':=by
 obtain⟨vi2,vd2,epv,hi,hdd⟩:=id hpg;simp only [pageV,Value.agg.injEq,Array.mk.injEq,List.cons.injEq,and_true,true_and] at epv;obtain⟨rfl,rfl⟩:=epv;obtain⟨ai,ci,rfl, -, -⟩:=items_rd hi;obtain⟨ad,cd,rfl⟩:=bytes_shape hdd;have hs1:=hF.alloc (opC11 0 N K g.kind g.level (.slice ai g.items.length ci) (.slice ad g.data.length cd) g.next)
 have HST:=hQ ((Stays.refl w).alloc (opC11 0 N K g.kind g.level (.slice ai g.items.length ci) (.slice ad g.data.length cd) g.next));have c1:=hs1.facts;simp only [CellsAt,Nat.reduceAdd,and_true] at c1;have hs2:=hs1.join2 (Pr.pts w.heap.size (opC11 0 N K g.kind g.level (.slice ai g.items.length ci) (.slice ad g.data.length cd) g.next)) F
 have WR:=hQ (write_tell wb v r k z ok 0 N K g _ _ hp hpg hz hu P (fun _=>hP) (fun h=>absurd rfl h) ((Pr.pts w.heap.size (opC11 0 N K g.kind g.level (.slice ai g.items.length ci) (.slice ad g.data.length cd) g.next)).star F) _ hs2.to);clear hF hs1 hs2 hi hdd hpg hz hu ok hP;go_enter Tryz.func27,Tryz.ntmps27
 go_wp2_with fail
 refine WR.out.mono ?_;rintro e w1 ⟨rfl,st1,hd⟩;have HD:=hQ hd;have HST1:=hQ (HST.out.trans st1);clear c1 hd st1 WR HST;go_wp2;go_ret;obtain⟨z',ok',hp',hs⟩:=HD.out;have hs3:=hs.norm;have hs4:=hs3.join2 (Pr.own hp) F;exact⟨rfl,HST1.out,z',ok',hp',hs4.to⟩
end Go.Proofs.YtpfafhklppondaaGreat.Ax
namespace Go.Proofs.YtpfafhklppondaaGreat.Bx
open ChangeShapes WideShapes ChangeAt RowKit Sl Cop M2 P3 X3 Q2 X2 J4 L4 E5 P4 G5 X7 Z7 V9 Sy E7 F7 G7 J7 K7 Bz Rz Gz Hz Jz Kz Mz Ax
theorem all_any(wb v r k:Nat)(F:Pr)(w:World)(hF:DoneH wb v r k F w):
 Calls Tryz.prog 28 #[.pointer (some ⟨wb,0,none⟩)] w fun e w'=>e= .returned (.bool true)∧Stays w w'∧DoneH wb v r k F w':=by
 have H0:=hQ hF;clear hF;go_enter Tryz.func28,Tryz.ntmps28
 go_wp2_with fail
 go_loopw [3] (fun i wr=> ∃i0:Int, -1≤i0∧i0≤65538∧i= .int .i64 i0∧Stays w wr∧Hid (DoneH wb v r k F wr)) (fun i _=>(65540-intOf i).toNat)
 case atStart=>exact⟨-1,by omega,by omega,rfl,Stays.refl w,H0⟩
 case round=>
  clear H0;obtain⟨i0,hi1,hi2,rfl,hst,hd⟩:=hrel;obtain⟨z,ok,hs⟩:=hd.out;obtain⟨yr,okr,hs2⟩:=refH_open (r:=r) (s:=z.rs) (gs:=z.gs) (fl:=z.fl) (l:=z.l) hs;obtain⟨ac,cc,ecv⟩:=Row.shape (hs2.pull1 (A1:=IntsRow yr.cv z.rs.counts));have c1:=hs2.facts;simp only [CellsAt,Nat.reduceAdd,and_true] at c1;rw [ecv] at c1;have hn2:(z.rs.counts.length:Int)≤65536:=by have:=okr.now.n2;omega
  by_cases hle:i0≤(z.rs.counts.length:Int)+1
  · have D6:=hQ (do6_any wb v r k z ok 6 i0 0 0 0 0 none none 0 0 0 0 (by omega) rfl F wr hs)
    generalize z.rs.counts.length=nc at*;have HST:=hQ hst;clear hd ok hs okr hs2 ecv hst;go_wp2_with fail
    refine D6.out.mono ?_;rintro e w1 ⟨rfl,st1,z1,ok1,hs1⟩;have HST1:=hQ (HST.out.trans st1);have D7:=hQ (do7_any wb v r k z1 ok1 7 i0 0 0 0 0 none none 0 0 0 0 (by omega) rfl F w1 hs1);clear c1 st1 ok1 hs1 D6 HST;go_wp2_with fail
    refine D7.out.mono ?_;rintro e w2 ⟨rfl,st2,z2,ok2,hs2⟩;have HST2:=hQ (HST1.out.trans st2);have D8:=hQ (do8_any wb v r k z2 ok2 8 i0 0 0 0 0 none none 0 0 0 0 (by omega) rfl F w2 hs2);clear st2 ok2 hs2 D7 HST1;go_wp2_with fail
    refine D8.out.mono ?_;rintro e w3 ⟨rfl,st3,hd3⟩;have HST3:=hQ (HST2.out.trans st3);have HD3:=hQ hd3;clear st3 hd3 D8 HST2;go_wp2;exact⟨⟨i0+1,by omega,by omega,rfl,HST3.out,HD3⟩,by simp [intOf];omega⟩
  · have hle2:decide (i0≤(z.rs.counts.length:Int)+1)=false:=decide_eq_false hle
    generalize z.rs.counts.length=nc at*;have HST:=hQ hst;have HS:=hQ (And.intro ok hs);clear hd ok hs okr hs2 ecv hst;go_wp2_with fail
    clear c1 hle2 hle hn2;obtain⟨ok,hs⟩:=HS.out;clear HS;obtain⟨s,H,rs,gs,fl,l,kv,ws,h,tv,xv,bs⟩:=z;obtain⟨j,ll,wl,bk,wk⟩:=ok;dsimp only at j ll wl bk wk;obtain⟨nw,hnw⟩:∃nw,ws.length=nw:=⟨_,rfl⟩;obtain⟨ak,ck,ekv⟩:=Row.shape (hs.pull1 (A1:=WksRow kv ws));subst ekv;have hw63:(nw:Int)≤1048576:=by omega
    rw [hnw] at hs;have HNW:=hQ hnw;have HJ:=hQ (And.intro j (And.intro ll (And.intro wl wk)));have HBK:=hQ bk;have HS:=hQ hs;clear j ll wl bk wk hnw hs
    go_loopw [5] (fun i wr=> ∃(p:Nat) (tv xv:Value) (bs:List BkE),p≤nw∧i= .int .i64 p∧Stays w wr∧Hid (BOk h ⟨tv,xv,bs⟩)∧
     OwnL [VaultA v s,RefH r rs gs fl l,workO wb v r (.slice ak nw ck) tv xv,BRest tv xv bs,Row 125 2 (.slice ak nw ck) nw (ws.flatMap wkCells),Pr.own h,F] wr) (fun i _=>nw-(intOf i).toNat)
    case atStart=>
     have h1:OwnL [VaultA v s,RefH r rs gs fl l,workO wb v r (.slice ak nw ck) tv xv,BRest tv xv bs,Row 125 2 (.slice ak nw ck) ws.length (ws.flatMap wkCells),Pr.own h,F] wr:=HS.out;rw [HNW.out] at h1;exact⟨0,tv,xv,bs,Nat.zero_le _,rfl,HST.out,HBK,h1.to⟩
    case round=>
     clear HS HBK HST;obtain⟨p,tv,xv,bs,hp,rfl,hst,hbk,hs⟩:=hrel;have c1:=hs.facts;simp only [CellsAt,Nat.reduceAdd,and_true] at c1;rcases Nat.lt_or_ge p nw with hlt | hge
     · have hpw:p<ws.length:=by have:=HNW.out;omega
       have hwk:=HJ.out.2.2.2 ws[p] (List.getElem_mem hpw)
       have hb:∃b,ak=some ⟨b,0,none⟩:=by
        obtain⟨_,_,e3,_,hc⟩:=Row.read (hs.pull1 (A1:=Row 125 2 (.slice ak nw ck) nw (ws.flatMap wkCells)));cases e3;obtain⟨b,e,_⟩:=hc (by omega);exact⟨b,e⟩
       obtain⟨b,rfl⟩:=hb
       have WRD:=hQ (show ∀(wx:World) (Fx:Pr),Sat ((Row 125 2 (.slice (some ⟨b,0,none⟩) nw ck) nw (ws.flatMap wkCells)).star Fx) wx→wx.cell? ⟨b,p*2,none⟩=some ws[p].fv∧wx.cell? ⟨b,p*2+1,none⟩=some ws[p].wv from fun wx Fx hx=>by
        obtain⟨_,_,e3,_,hc⟩:=Row.read hx
        cases e3
        obtain⟨b',eb,hd⟩:=hc (by omega)
        cases eb
        exact⟨(hd (p*2) (by omega)).1.trans (flat_at wkCells 2 (fun _=>rfl) ws p 0 hpw (by omega)),(hd (p*2+1) (by omega)).1.trans (flat_at wkCells 2 (fun _=>rfl) ws p 1 hpw (by omega))⟩)
       generalize ws[p]=E at*;obtain⟨fv,wv,L⟩:=E;obtain⟨hwalk,hwn,hfit,hlen⟩:=hwk;dsimp only at hwalk hwn hfit hlen;obtain⟨al,cl,e2, -⟩:=nums_rd hwn;subst e2;have hwalk2:=hwalk;obtain⟨lb,lv0,e1, -, -⟩:=hwalk2;subst e1;obtain⟨f2,f3⟩:=WRD.out _ _ (hs.pull1 (A1:=Row 125 2 (.slice (some ⟨b,0,none⟩) nw ck) nw (ws.flatMap wkCells)));try dsimp only at f2 f3
       have zb:=World.block_lt_of_cell? _ _ f2;have hs3:=book_close (h:=h) (wb:=wb) (v:=v) (r:=r) (kv:= .slice (some ⟨b,0,none⟩) nw ck) (tv:=tv) (xv:=xv) (bs:=bs) hbk.out hs.drew;have GO:=hQ (goes_any wb v r (.slice (some ⟨b,0,none⟩) nw ck) h _ (.slice al L.length cl) L hwalk hwn hfit hlen 1048576 _ _ (hs3.pull2 (A1:=BookE wb v r (.slice (some ⟨b,0,none⟩) nw ck) h) (A2:=Pr.own h)))
       have HST:=hQ hst;clear hs hs3 hst hwalk hwn hfit hlen hbk;go_wp2_with fail
       refine wS 91 [0,1,2,3,4,5,6,7,8,9,10,11,12,13,14,15,16] [(17,[18],[1,2,3,4,5,6,7,9,10,11,12,13,14,15])] ?_;refine wpQ_all _ rfl rfl ?_;simp only [pick,pQ];iterate 17 (go_big_quiet_step (fail))
       refine wpQuiet_nil ?_;refine wpRest_act rfl ?_;go_wp2_with fail
       refine GO.out.mono ?_;rintro e w1 ⟨rfl,st1,hs4⟩;obtain⟨tv1,xv1,bs1,bk1,hs5⟩:=book_open (wb:=wb) (v:=v) (r:=r) (kv:= .slice (some ⟨b,0,none⟩) nw ck) (h:=h) (OwnL.of2 hs4);have HST1:=hQ (HST.out.drew.trans st1);clear c1 f2 f3 zb GO HST;have c1:=hs5.facts;simp only [CellsAt,Nat.reduceAdd,and_true] at c1
       obtain⟨f2,f3⟩:=WRD.out _ _ (hs5.pull1 (A1:=Row 125 2 (.slice (some ⟨b,0,none⟩) nw ck) nw (ws.flatMap wkCells)));try dsimp only at f2 f3
       have zb:=World.block_lt_of_cell? _ _ f2;have HS5:=hQ hs5;have HBK1:=hQ bk1;clear hs4 hs5 st1 bk1 WRD;go_wp2;refine onN_mk ?_;refine wpQ_all _ rfl rfl ?_;simp only [pick,pQ];iterate 1 (go_big_quiet_step (fail))
       refine wpQuiet_nil ⟨?_,?_⟩
       · exact cQ
       refine wpRest_nil ?_;go_wp2;exact⟨⟨p+1,tv1,xv1,bs1,by omega,congrArg (Value.int .i64) (by omega),HST1.out,HBK1,HS5.out.to⟩,by simp [intOf];omega⟩
     · have hpn:p=nw:=by omega
       subst hpn
       have HD:=hQ (show DoneH wb v r k F wr from⟨⟨s,H,rs,gs,fl,l,.slice ak p ck,ws,h,tv,xv,bs⟩,⟨HJ.out.1,HJ.out.2.1,HJ.out.2.2.1,hbk.out,HJ.out.2.2.2⟩,by
        have h1:=hs
        show OwnL [VaultA v s,RefH r rs gs fl l,workO wb v r (.slice ak p ck) tv xv,BRest tv xv bs,Row 125 2 (.slice ak p ck) ws.length (ws.flatMap wkCells),Pr.own h,F] wr
        rw [HNW.out]
        exact h1⟩)
       have HSTW:=hQ hst;clear hs hst hbk HJ HNW;go_wp2_with fail
       clear c1;go_loopw [7] (fun i wr=> ∃q:Nat,q≤6∧i= .int .i64 q∧Stays w wr∧Hid (DoneH wb v r k F wr)) (fun i _=>6-(intOf i).toNat)
       case atStart=>exact⟨0,by omega,rfl,HSTW.out,HD⟩
       case round=>
        clear HSTW HD;obtain⟨q,hq,rfl,hst,hd⟩:=hrel;obtain⟨z,ok,hs⟩:=hd.out;rcases Nat.lt_or_ge q 6 with hl6 | hg6
        · have D10:=hQ (do10_any wb v r k z ok 10 q 1048576 0 0 0 none none 0 0 0 0 (by omega) rfl F wr hs)
          have hq6:(q:Int)<6:=by omega
          have HST:=hQ hst;clear hs hst ok hd;go_wp2_with fail
          refine D10.out.mono ?_;rintro e w1 ⟨rfl,st1,hd1⟩;have HST1:=hQ (HST.out.trans st1);have HD1:=hQ hd1;clear st1 hd1 D10 HST;go_wp2;exact⟨⟨q+1,by omega,congrArg (Value.int .i64) (by omega),HST1.out,HD1⟩,by simp [intOf];omega⟩
        · have hq6:q=6:=by omega
          subst hq6;have D9:=hQ (do9_any wb v r k z ok 9 0 0 0 0 0 none none 0 0 0 0 (by omega) rfl F wr hs);have HST:=hQ hst;clear hs hst ok hd;go_wp2_with fail
          refine D9.out.mono ?_;rintro e w1 ⟨rfl,st1,z1,ok1,hs1⟩;have HST1:=hQ (HST.out.trans st1);have DX:=hQ (doX_any wb v r k z1 ok1 99 0 0 0 0 0 none none 0 0 0 0 (by omega) (by omega) F w1 hs1);clear st1 ok1 hs1 D9 HST;go_wp2_with fail
          refine DX.out.mono ?_;rintro e w2 ⟨rfl,st2,z2,ok2,hs2⟩;have HST2:=hQ (HST1.out.trans st2);have BK:=hQ (book_any wb v r k z2 ok2 F w2 hs2);clear st2 ok2 hs2 DX HST1;go_wp2_with fail
          refine BK.out.mono ?_;rintro e w3 ⟨rfl,st3,hd3⟩;have HST3:=hQ (HST2.out.trans st3);have HD3:=hQ hd3;clear st3 hd3 BK HST2;go_wp2;go_ret;exact⟨rfl,HST3.out,HD3.out⟩
end Go.Proofs.YtpfafhklppondaaGreat.Bx
