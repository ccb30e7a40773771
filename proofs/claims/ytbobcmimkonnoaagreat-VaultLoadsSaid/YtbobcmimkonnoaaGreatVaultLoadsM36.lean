/- The document's Own and leave; the conditions stand as hypotheses. -/
import Derived.Test.YtbobcmimkonnoaaGreatVaultLoadsM33
import Derived.Test.YtbobcmimkonnoaaGreatVaultLoadsM32
import Derived.Test.YtbobcmimkonnoaaGreatVaultLoadsM01
set_option maxRecDepth 100000
set_option maxHeartbeats 16000000
namespace Go.Proofs.YtbobcmimkonnoaaGreat.U9
open ChangeShapes WideShapes ChangeAt RowKit Sl Cop D2 M3 Q3 D4 M2 N2 E4 G4 E6 J4 L6 M7 Q7 U7 X7 W7 Z7 U6 Q6 K9 B9 Q9
section
variable(r:Nat)(s:PoolS)(gs:List PageV)(hush:RTail)
theorem rown_any(n:Int)(F:Pr)(w:World)(hF:Sat ((RefA r s gs hush).star F) w):
 Calls Tryz.prog 103 #[.pointer (some ⟨r,0,none⟩),.int .i64 n] w fun e w'=>e= .returned (.bool (ownP s n))∧w=w':=by
 unfold ownP;have ST:=hQ (rstate_any r s gs hush n F w hF);obtain⟨x,ok,h⟩:=refA_iff.1 hF;obtain⟨ac,cc,al,cl,ap,cp,⟨q1,q2,q3,q0⟩,z,_,rd⟩:=ref_rd ok h;have hn2:=ok.n2;by_cases h3:s.state n=3
 · have ht:=there_of_state (by omega:s.state n≠0)
   obtain⟨j,rfl,hj⟩:=there_idx ht;obtain⟨⟨b,rfl,c0⟩,_⟩:=rd j hj;rw [decide_eq_true h3,rcount_cnt,cnt_idx hj];rw [h3] at ST;clear rd h ok hF h3 ht;generalize s.counts.getD j 0=c at*;have zc:=World.block_lt_of_cell? _ _ c0;go_enter Tryz.func103,Tryz.ntmps103
   go_wp2_with fail
   refine ST.out.mono ?_;rintro e w1 ⟨rfl,rfl⟩;go_wp2;go_ret;have e5:(c == 1)=decide (c=1):=by by_cases h:c=1<;>simp [h]
   exact⟨by simp [e5],rfl⟩
 · have h3':(s.state n == 3)=false:=beq_eq_false_iff_ne.2 h3
   rw [decide_eq_false h3];clear rd h ok hF;generalize s.state n=st at*;go_enter Tryz.func103,Tryz.ntmps103
   go_wp2_with fail
   refine ST.out.mono ?_;rintro e w1 ⟨rfl,rfl⟩;go_wp2;go_ret;exact⟨by simp,rfl⟩
theorem rleave_x(x:RX)(ok:ROk s gs x)(n:Int)(h0:cntL s.counts n≠0)(hcb:CB s)(F:Pr)(w:World)(hF:Sat ((RefAt r s gs hush x).star F) w):
 Calls Tryz.prog 106 #[.pointer (some ⟨r,0,none⟩),.int .i64 n] w fun e w'=>e= .returned (.int .i64 (leaveRR s (pgAt gs n) n).1)∧Stays w w'∧
  ROk (leaveRR s (pgAt gs n) n).2 gs x∧CB (leaveRR s (pgAt gs n) n).2∧Sat ((RefAt r (leaveRR s (pgAt gs n) n).2 gs hush x).star F) w':=by
 have ht:s.there n:=by
  by_cases ht:s.there n
  · exact ht
  · exact absurd (by unfold cntL;exact if_neg ht) h0
 obtain⟨j,rfl,hj⟩:=there_idx ht
 have hc2:s.counts.getD j 0≤65536:=by
  have:=hcb.2 s.counts[j] (List.getElem_mem hj)
  have:=hcb.1
  simp [hj]
  omega
 have hc1:0<s.counts.getD j 0:=by
  rw [cnt_idx hj] at h0;have:=ok.c0 s.counts[j] (List.getElem_mem hj)
  simp [hj] at h0 ⊢
  omega
 have hcb1:=cb_sub hcb (n:=(j:Int)+1) ht;have ok1:ROk (s.withC (addC s.counts ((j:Int)+1) (-1))) gs x:=rok_counts ok (addC_len _ _ _) (addC_nn ok.c0 (by rw [cnt_idx hj];omega));have hn2:=ok.n2;obtain⟨b,c,b2,c2,b3,c3,⟨e1,e2,e3⟩,⟨q1,q2,q3⟩,⟨k1,f1⟩,⟨k2,f2⟩,_,⟨n1,n2,n3,n4,n5,n6⟩,zr,zb,zb2,zb3⟩:=ref_all ok hF (j:=j) hj;obtain⟨b',c',e1',_,_,wc⟩:=ref_wr_count hF hj;rw [e1] at e1'
 cases (Value.slice.inj e1').1;have h5:=wc (s.counts.getD j 0+ -1);rw [← addC_idx hj (-1)] at h5;obtain⟨ac,cc,al,cl,ap,cp,⟨_,_,p3,_⟩,_,_,rd⟩:=ref_rd ok hF;obtain⟨_,_,b4,g,vi,vd,eb4,hg,hpg,y0,y1,y2,y3,y4⟩:=rd j hj;rw [q3] at p3;cases p3;cases eb4
 have hpgat:pgAt gs ((j:Int)+1)=g:=by
  unfold pgAt;rw [show ((j:Int)+1).toNat-1=j by omega,List.getD_eq_getElem?_getD,hg];rfl
 have hgl:g.items.length≤65535:=by
  have:=(ok.fit g (List.mem_of_getElem? hg)).n
  omega
 obtain⟨vi',vd',epv,hi,hdd⟩:=id hpg;obtain⟨ai,ci,evi,_,_⟩:=items_rd hi;obtain⟨ad,cd,evd⟩:=bytes_shape hdd;have MO:=hQ (rmore_x r (s.withC (addC s.counts ((j:Int)+1) (-1))) gs hush x ok1 _ g hpg hgl hcb1 F _ h5);rw [hpgat];obtain⟨R,hR⟩:∃R,R=leaveRR s g ((j:Int)+1):=⟨_,rfl⟩;rw [← hR];unfold leaveRR at hR;rw [cnt_idx hj] at hR;have HR:=hQ hR;have H5:=hQ h5;have HOK1:=hQ (And.intro ok1 hcb1)
 have epv2:(vi=vi'∧vd=vd'):=by
  have:=epv
  unfold pageV at this;simp at this
  exact this
 obtain⟨rfl,rfl⟩:=epv2;subst evi evd;clear hR ok hF wc rd h5 ok1 hcb1 hcb h0 ht hpg hi hdd e1 e2 e3 e1' epv hpgat hg hgl;have hm1:s.counts.getD j 0+ -1=s.counts.getD j 0-1:=by omega
 rw [hm1] at MO H5;generalize s.counts.getD j 0=cj at*;clear hm1;by_cases h1:cj=1
 · subst h1
   rw [if_pos rfl] at HR;clear MO y0 y1 y2 y3 y4;go_enter Tryz.func106,Tryz.ntmps106
   go_wp2;go_ret;rw [HR.out];exact⟨rfl,(Stays.refl w).setCell _ _,HOK1.out.1,HOK1.out.2,H5.out⟩
 · rw [if_neg h1] at HR
   have hne:(cj-1 == 0)=false:=beq_eq_false_iff_ne.2 (by omega);clear h1;go_enter Tryz.func106,Tryz.ntmps106
   go_wp2_with fail
   refine MO.out.mono ?_;rintro e w2 ⟨rfl,st2,ok2,cb2,hs2⟩;rw [← HR.out] at ok2 cb2 hs2 ⊢;have HS2:=hQ hs2;clear hs2 MO H5;go_wp2;go_ret;exact⟨rfl,((Stays.refl w).setCell _ _).trans st2,ok2,cb2,HS2.out⟩
end
end Go.Proofs.YtbobcmimkonnoaaGreat.U9
namespace Go.Cop
open Go.Proofs.YtbobcmimkonnoaaGreat.Z7 Go.Proofs.YtbobcmimkonnoaaGreat.Q6
theorem incP_with(s:PoolS)(n:Int):∃cs,IncP s n=s.withC cs:=by
 unfold IncP;by_cases h:incL s.refs s.counts n=0
 · rw [if_pos h];exact⟨_,rfl⟩
 · rw [if_neg h];exact⟨s.counts,rfl⟩
theorem incsR_with:∀(l:List Int) (s:PoolS),∃cs,(incsR s l).2=s.withC cs
 | [],s=>⟨s.counts,rfl⟩
 | k :: r,s=>by
   rw [incsR_one];by_cases h:incL s.refs s.counts k=0
   · rw [if_pos h]
     obtain⟨c1,e1⟩:=incP_with s k;obtain⟨c2,e2⟩:=incsR_with r (IncP s k);exact⟨c2,by rw [e2,e1];rfl⟩
   · rw [if_neg h];exact⟨s.counts,rfl⟩
theorem leaveRR_with(s:PoolS)(g:PageV)(n:Int):∃cs,(leaveRR s g n).2=s.withC cs:=by
 unfold leaveRR;by_cases h:cntL s.counts n=1
 · rw [if_pos h];exact⟨_,rfl⟩
 · rw [if_neg h]
   obtain⟨c,e⟩:=incsR_with (kidsOf g) (s.withC (addC s.counts n (-1)));exact⟨c,by rw [e];rfl⟩
def histE(er:Int)(l:List (List Int × List PageV))(a:List Int × List PageV):List (List Int × List PageV):=if er=0 then l++ [a] else l
end Go.Cop
namespace Go.Proofs.YtbobcmimkonnoaaGreat.V9
open ChangeShapes WideShapes ChangeAt RowKit Sl Cop D2 M3 Q3 D4 M2 N2 E4 G4 E6 J4 L6 M7 Q7 U7 X7 W7 Z7 K9 Q9
section
variable(r:Nat)(s:PoolS)(gs:List PageV)(fl:Int)(l:List (List Int × List PageV))
theorem rkeepH_any(n:Int)(hcb:CB s)(hl:l.length≤1048576)(F:Pr)(w:World)(hF:Sat ((RefH r s gs fl l).star F) w):
 Calls Tryz.prog 41 #[.pointer (some ⟨r,0,none⟩),.int .i64 n] w fun e w'=>e= .returned (.int .i64 (incL s.refs s.counts n))∧Stays w w'∧CB (IncP s n)∧
  Sat ((RefH r (IncP s n) gs fl (histE (incL s.refs s.counts n) l (s.counts,gs))).star F) w':=by
 obtain⟨y,ok,h0⟩:=refH_iff.1 hF;have hy:=hQ ok;obtain⟨cv,lv,pv,av,xs,h,ws⟩:=y;have hs:=OwnL.in7 h0;dsimp only at hs;clear hF h0;obtain⟨aa,ca,rfl⟩:=Row.shape (hs.row av);obtain⟨a0,c0,rfl⟩:=Row.shape (hs.pull1 (A1:=IntsRow cv s.counts));obtain⟨ap,cp,rfl⟩:=Row.shape (hs.pull1 (A1:=PgRow pv xs gs));obtain⟨a,ha,hs1⟩:=hs.arena (IntsRow (.slice a0 s.counts.length c0) s.counts);have c1:=hs1.facts
 simp only [CellsAt,Nat.reduceAdd,and_true] at c1;have CI:=hQ (copyints_any a _ s.counts _ w.drew (hs1.drew.pull1 (A1:=Pr.own a)) (Row.rowIn ha) ok.now.n2);have HA:=hQ ha;have HOK:=hQ ok;have HLL:=hQ hl;have HCB:=hQ hcb;have HCB2:=hQ (cb_inc hcb n);obtain⟨er,her⟩:∃er,incL s.refs s.counts n=er:=⟨_,rfl⟩;obtain⟨T,hT⟩:∃T,IncP s n=T:=⟨_,rfl⟩;obtain⟨cs3,hcs3⟩:=incP_with s n;rw [hT] at HCB2;rw [her,hT]
 have HT:=hQ (hT.symm.trans hcs3);have HER:=hQ (And.intro her hT);clear hs hs1 ok hl ha hcb hy her hT hcs3;go_enter Tryz.func41,Tryz.ntmps41
 go_wp2_with fail
 refine wS 28 [0,1,2,3,5,6,7,8] [(4,[],[0,1,2,5,6,7,8]),(9,[10,11],[0,1,2,5,6,7])] ?_;refine wpQ_all _ rfl rfl ?_;simp only [pick,pQ];iterate 8 (go_big_quiet_step (fail))
 refine wpQuiet_nil ?_;refine wpRest_act rfl ?_;go_wp2_with fail
 refine CI.out.mono ?_;rintro e w1 ⟨v1,rfl,hs2,st1⟩;obtain⟨ac,cc,rfl⟩:=Row.shape hs2;have hs3:=(OwnL.of2 hs2).back (IntsRow (.slice a0 s.counts.length c0) s.counts) HA.out;obtain⟨a2,ha2,hs4⟩:=hs3.arena (PgRow (.slice ap gs.length cp) xs gs);clear c1;have c1:=hs4.facts;simp only [CellsAt,Nat.reduceAdd,and_true] at c1
 have CP:=hQ (copypages_any a2 _ h xs gs HOK.out.now.pgs (Row.rowIn ha2) (by have:=HOK.out.now.n2;have:=HOK.out.now.gl;omega) _ _ (hs4.pull1 (A1:=Pr.own a2)));have HA2:=hQ ha2;have HST1:=hQ ((Stays.refl w).drew.trans st1);clear hs2 hs3 hs4 st1 CI HA ha2;go_wp2;refine onN_mk ?_;refine wpQ_nil ⟨?_,?_⟩
 · exact cQ
 refine wpRest_act rfl ?_;go_wp2_with fail
 refine CP.out.mono ?_;rintro e w2 ⟨v2,rfl,hs5,st2⟩;obtain⟨aq,cq,rfl⟩:=Row.shape hs5;have hs6:=(OwnL.of2 hs5).back (PgRow (.slice ap gs.length cp) xs gs) HA2.out
 have hs7:=hs6.to (M:= [IntsRow (.slice ac s.counts.length cc) s.counts,PgRow (.slice aq gs.length cq) xs gs,Pr.pts r (refHC s.refs (.slice a0 s.counts.length c0) lv (.slice ap gs.length cp) (.slice aa ws.length ca) fl),IntsRow (.slice a0 s.counts.length c0) s.counts,BoolsRow lv s.last,PgRow (.slice ap gs.length cp) xs gs,Pr.own h,Row 165 2 (.slice aa ws.length ca) ws.length (ws.flatMap wasCells),big WasRow ws,F])
 have hs8:=was_close ⟨.slice ac s.counts.length cc,.slice aq gs.length cq,xs,s.counts,gs⟩ hs7;have INC:=hQ (rinc_x r s gs ⟨.slice aa ws.length ca,fl,false⟩ ⟨.slice a0 s.counts.length c0,lv,.slice ap gs.length cp,xs,h⟩ HOK.out.now n HCB.out _ _ (refAt_close r s gs _ _ hs8.pull5));have HST2:=hQ (HST1.out.trans st2);clear hs5 hs6 hs7 hs8 st2 CP HA2 HST1 c1;go_wp2;refine onN_mk ?_
 refine wpQ_all _ rfl rfl ?_;simp only [pick,pQ];iterate 2 (go_big_quiet_step (fail))
 refine wpQuiet_nil ⟨?_,?_⟩
 · exact cQ
 refine wpRest_nil ?_;rw [HER.out.1,HER.out.2] at INC;go_wp2_with fail
 refine INC.out.mono ?_;rintro e w3 ⟨rfl,st3,ok3,hs9⟩;have hs10:=refAt_open r T gs ⟨.slice aa ws.length ca,fl,false⟩ ⟨.slice a0 s.counts.length c0,lv,.slice ap gs.length cp,xs,h⟩ (OwnL.of1 hs9);have HST3:=hQ (HST2.out.trans st3);have HOK3:=hQ ok3;have HS10:=hQ hs10;clear hs9 hs10 st3 ok3 INC HST2;by_cases he:er=0
 · subst he
   have HK4:HOk T gs l ⟨.slice a0 s.counts.length c0,lv,.slice ap gs.length cp,.slice aa ws.length ca,xs,h,ws⟩:=by
    have h4:=HOK3.out;rw [HT.out] at h4 ⊢;exact⟨h4,HOK.out.was,HOK.out.l⟩
   have hok5:ROk { T with counts:=s.counts } gs ⟨.slice ac s.counts.length cc,lv,.slice aq gs.length cq,xs,h⟩:=by
    rw [HT.out];exact⟨HOK.out.now.pgs,HOK.out.now.ll,HOK.out.now.gl,HOK.out.now.n2,HOK.out.now.c0,HOK.out.now.fit⟩
   have DD:=hQ (rdid_any r T gs fl l _ _ ⟨.slice a0 s.counts.length c0,lv,.slice ap gs.length cp,.slice aa ws.length ca,xs,h,ws⟩ HK4 ⟨.slice ac s.counts.length cc,.slice aq gs.length cq,xs,s.counts,gs⟩ hok5 HLL.out HS10.out.pull8);clear HS10 HK4 hok5;go_wp2_with fail
   refine DD.out.mono ?_;rintro e w4 ⟨rfl,st4,hs11⟩;have HS11:=hQ (OwnL.of1 hs11);clear hs11 DD;go_wp2;go_ret;refine⟨rfl,HST3.out.trans st4,HCB2.out,?_⟩;unfold histE;rw [if_pos rfl];exact HS11.out.end2
 · have hb:(er == 0)=false:=beq_eq_false_iff_ne.2 he
   have HEN:=hQ he;clear he;go_wp2;go_ret;refine⟨rfl,HST3.out,HCB2.out,?_⟩;unfold histE;rw [if_neg HEN.out];have h4:=HOK3.out;refine refH_iff.2 ⟨⟨.slice a0 s.counts.length c0,lv,.slice ap gs.length cp,.slice aa ws.length ca,xs,h,ws⟩,?_,HS10.out.end8 (A8:=F)⟩;rw [HT.out] at h4 ⊢;exact⟨h4,HOK.out.was,HOK.out.l⟩
end
end Go.Proofs.YtbobcmimkonnoaaGreat.V9
namespace Go.Proofs.YtbobcmimkonnoaaGreat.X9
open ChangeShapes WideShapes ChangeAt RowKit Sl Cop D2 M3 Q3 D4 M2 N2 E4 G4 P4 X4 E6 J4 L6 M7 Q7 U7 X7 W7 Z7 K9 Q9 U9 P6
section
variable(r:Nat)(s:PoolS)(gs:List PageV)(fl:Int)(l:List (List Int × List PageV))
def TkPost(n:Int)(F:Pr)(e:Ending)(w':World):Prop:=
 (s.count n=0∧e= .returned (.tuple #[zeroPage,.int .i64 15])∧Sat ((RefH r s gs fl l).star F) w')∨
 (s.count n≠0∧(leaveRR s (pgAt gs n) n).1≠0∧e= .returned (.tuple #[zeroPage,.int .i64 (leaveRR s (pgAt gs n) n).1])∧Sat ((RefH r s gs fl l).star F) w')∨
 (s.count n≠0∧(leaveRR s (pgAt gs n) n).1=0∧CB (leaveRR s (pgAt gs n) n).2∧∃pv h',e= .returned (.tuple #[pv,.int .i64 0])∧PageIn h' pv (pgAt gs n)∧Sat ((Pr.own h').star ((RefH r (leaveRR s (pgAt gs n) n).2 gs fl (l++ [(s.counts,gs)])).star F)) w')
theorem rtake_none(n:Int)(h0:s.count n=0)(F:Pr)(w:World)(hF:Sat ((RefH r s gs fl l).star F) w):
 Calls Tryz.prog 38 #[.pointer (some ⟨r,0,none⟩),.int .i64 n] w fun e w'=>Only w w'∧e= .returned (.tuple #[zeroPage,.int .i64 15]):=by
 have ho:Only w (w.alloc (pageC 0 0 (.slice none 0 0) (.slice none 0 0) 0)):=(Only.refl w).alloc _;have hh:=heap_new w (pageC 0 0 (.slice none 0 0) (.slice none 0 0) 0);obtain⟨aa,ca,F',hA⟩:=refH_refA hF;have C:=hQ (rthere_any r s gs ⟨.slice aa l.length ca,fl,false⟩ n _ _ (hA.only ho));rw [h0] at C;have HH:=hQ hh;have HO:=hQ ho;clear hF hh ho hA h0;go_enter Tryz.func38,Tryz.ntmps38
 go_wp2_with fail
 refine C.out.mono ?_;rintro e w1 ⟨rfl,rfl⟩;go_wp2;refine bodyPost_ret (results_cell_row_tmp rfl _ _ w.heap.size _ rfl (run_loadVar_row _ w.heap.size _ _ _ _ _ HH.out Tryz.underlying31 rfl infoPage)) rfl ?_;exact⟨HO.out,rfl⟩
theorem rtake_some(n:Int)(h0:s.count n≠0)(hcb:CB s)(hl:l.length≤1048576)(F:Pr)(w:World)(hF:Sat ((RefH r s gs fl l).star F) w):
 Calls Tryz.prog 38 #[.pointer (some ⟨r,0,none⟩),.int .i64 n] w fun e w'=>Stays w w'∧TkPost r s gs fl l n F e w':=by
 have ht:s.there n:=by
  by_cases ht:s.there n
  · exact ht
  · exact absurd (by unfold PoolS.count;rw [if_neg ht]) h0
 have ho:Only w (w.alloc (pageC 0 0 (.slice none 0 0) (.slice none 0 0) 0)):=(Only.refl w).alloc _;obtain⟨aa',ca',F',hA⟩:=refH_refA hF;have TH:=hQ (rthere_any r s gs ⟨.slice aa' l.length ca',fl,false⟩ n _ _ (hA.only ho));obtain⟨y,ok,hF0⟩:=refH_iff.1 hF
 have hpos:decide (0<s.count n)=true:=by
  rw [decide_eq_true_eq];obtain⟨j,rfl,hj⟩:=there_idx ht;rw [count_idx hj] at h0 ⊢;have:=ok.now.c0 s.counts[j] (List.getElem_mem hj)
  simp [hj] at h0 ⊢
  omega
 rw [hpos] at TH;have hcnt:cntL s.counts n≠0:=by rw [← rcount_cnt];exact h0
 obtain⟨cv,lv,pv,av,xs,h,ws⟩:=y;have hs:=(OwnL.in7 hF0).alloc (pageC 0 0 (.slice none 0 0) (.slice none 0 0) 0);dsimp only at hs;clear hF hF0 hA;obtain⟨aa,ca,rfl⟩:=Row.shape (hs.row av);obtain⟨a0,c0,rfl⟩:=Row.shape (hs.pull1 (A1:=IntsRow cv s.counts));obtain⟨ap,cp,epv⟩:=Row.shape (hs.pull1 (A1:=PgRow pv xs gs));rw [ok.now.gl] at epv;subst epv
 obtain⟨a,ha,hs1⟩:=hs.arena (IntsRow (.slice a0 s.counts.length c0) s.counts);have c1:=hs1.facts;simp only [CellsAt,Nat.reduceAdd,and_true] at c1;have CI:=hQ (copyints_any a _ s.counts _ (w.alloc (pageC 0 0 (.slice none 0 0) (.slice none 0 0) 0)).drew (hs1.drew.pull1 (A1:=Pr.own a)) (Row.rowIn ha) ok.now.n2);have HA:=hQ ha;have HOK:=hQ ok;have HLL:=hQ hl;have HCB:=hQ hcb
 have HT0:=hQ (And.intro ht h0);have HCN:=hQ hcnt;have HST0:=hQ ho.st;obtain⟨G,hG⟩:∃G,pgAt gs n=G:=⟨_,rfl⟩;obtain⟨er,her⟩:∃er,(leaveRR s G n).1=er:=⟨_,rfl⟩;obtain⟨T,hT⟩:∃T,(leaveRR s G n).2=T:=⟨_,rfl⟩;obtain⟨cs3,hcs3⟩:=leaveRR_with s G n;have HT:=hQ (hT.symm.trans hcs3);have HER:=hQ (And.intro her (And.intro hT hG));obtain⟨P,hP⟩:∃P,P=TkPost r s gs fl l n F:=⟨_,rfl⟩;rw [← hP];have HP:=hQ hP
 have hn2:=ok.now.n2;have htn:1≤n∧n≤s.counts.length:=ht;clear hs hs1 ok hl ha hcb her hT hG hcs3 hP ht h0 hpos hcnt ho;go_enter Tryz.func38,Tryz.ntmps38
 go_wp2_with fail
 refine TH.out.mono ?_;rintro e w0 ⟨rfl,rfl⟩;go_wp2_with fail
 refine wS 50 [0,1,2,3,5,6,7,8] [(4,[],[0,1,2,5,6,7,8]),(9,[10,11],[0,1,2,5,6,7])] ?_;refine wpQ_all _ rfl rfl ?_;simp only [pick,pQ];iterate 8 (go_big_quiet_step (fail))
 refine wpQuiet_nil ?_;refine wpRest_act rfl ?_;go_wp2_with fail
 refine CI.out.mono ?_;rintro e w1 ⟨v1,rfl,hs2,st1⟩;obtain⟨ac,cc,rfl⟩:=Row.shape hs2;have hs3:=(OwnL.of2 hs2).back (IntsRow (.slice a0 s.counts.length c0) s.counts) HA.out;obtain⟨a2,ha2,hs4⟩:=hs3.arena (PgRow (.slice ap s.counts.length cp) xs gs);clear c1;have c1:=hs4.facts;simp only [CellsAt,Nat.reduceAdd,and_true] at c1
 have CP:=hQ (copypages_any a2 _ h xs gs HOK.out.now.pgs (Row.rowIn ha2) (by have:=HOK.out.now.n2;have:=HOK.out.now.gl;omega) _ _ (hs4.pull1 (A1:=Pr.own a2)));have HA2:=hQ ha2;have HST1:=hQ (HST0.out.drew.trans st1);clear hs2 hs3 hs4 st1 CI HA ha2 TH;go_wp2;refine onN_mk ?_;refine wpQ_nil ⟨?_,?_⟩
 · exact cQ
 refine wpRest_act rfl ?_;go_wp2_with fail
 refine CP.out.mono ?_;rintro e w2 ⟨v2,rfl,hs5,st2⟩;obtain⟨aq,cq,rfl⟩:=Row.shape hs5;have hs6:=(OwnL.of2 hs5).back (PgRow (.slice ap s.counts.length cp) xs gs) HA2.out
 have hs7:=hs6.to (M:= [IntsRow (.slice ac s.counts.length cc) s.counts,PgRow (.slice aq gs.length cq) xs gs,Pr.pts w.heap.size (pageC 0 0 (.slice none 0 0) (.slice none 0 0) 0),Pr.pts r (refHC s.refs (.slice a0 s.counts.length c0) lv (.slice ap s.counts.length cp) (.slice aa ws.length ca) fl),IntsRow (.slice a0 s.counts.length c0) s.counts,BoolsRow lv s.last,PgRow (.slice ap s.counts.length cp) xs gs,Pr.own h,Row 165 2 (.slice aa ws.length ca) ws.length (ws.flatMap wasCells),big WasRow ws,F])
 have hs8:=was_close ⟨.slice ac s.counts.length cc,.slice aq gs.length cq,xs,s.counts,gs⟩ hs7;have hAt:=refAt_close r s gs ⟨.slice aa ws.length ca,fl,false⟩ ⟨.slice a0 s.counts.length c0,lv,.slice ap s.counts.length cp,xs,h⟩ hs8.pull5;obtain⟨_,_,_,_,ap2,cp2,⟨_,_,p3,_⟩,_,_,rd⟩:=ref_rd HOK.out.now hAt;obtain⟨j,rfl,hj⟩:=there_idx HT0.out.1;obtain⟨_,_,b4,g,vi,vd,eb4,hg,hpg,y0,y1,y2,y3,y4⟩:=rd j hj
 have k3:w2.cell? ⟨r,3,none⟩=some (.slice ap s.counts.length cp):=by rw [cell_of_heap (hs8.pts r).pts_heap];rfl
 rw [k3] at p3
 have e3:ap=some ⟨b4,0,none⟩:=by
  have:=Option.some.inj p3
  rw [(Value.slice.inj this).1];exact eb4
 have hgm:g∈gs:=List.mem_of_getElem? hg;have hfit:=HOK.out.now.fit g hgm;have epg:pgAt gs ((j:Int)+1)=g:=by unfold pgAt;rw [show ((j:Int)+1).toNat-1=j by omega,List.getD_eq_getElem?_getD,hg];rfl
 have eG:G=g:=HER.out.2.2.symm.trans epg;subst eG;obtain⟨_,_,epv,hit,hby⟩:=id hpg;simp only [pageV,Value.agg.injEq,Array.mk.injEq,List.cons.injEq,and_true,true_and] at epv;obtain⟨rfl,rfl⟩:=epv;obtain⟨a6,d6,rfl,_,_⟩:=items_rd hit;obtain⟨a7,d7,rfl⟩:=bytes_shape hby;subst e3;clear c1;have c1:=hs8.facts;simp only [CellsAt,Nat.reduceAdd,and_true] at c1;have zb:=World.block_lt_of_cell? _ _ y0
 have D:=hQ (copypage_any h _ G hpg (by have:=hfit.n;omega) (fun y hy=>by have:=fit_keys hfit y hy;omega) (by have:=hfit.d;omega) _ _ (hs8.pull1 (A1:=Pr.own h)));have HST2:=hQ (HST1.out.trans st2);clear hs5 hs6 hs7 hs8 st2 CP HA2 HST1 hAt rd p3 k3 eb4 hg hpg hgm hfit epg hit hby;go_wp2;refine onN_mk ?_;refine wpQ_all _ rfl rfl ?_;simp only [pick,pQ];iterate 2 (go_big_quiet_step (fail))
 refine wpQuiet_nil ⟨?_,?_⟩
 · exact cQ
 refine wpRest_nil ?_;go_wp2_with fail
 refine D.out.mono ?_;rintro e w3 ⟨pv2,h',rfl,hp',hs9,st3⟩;obtain⟨pk,pl,ai,mi,ci,ad,md,cd,nx,rfl⟩:=page_shape hp';have hs11:=(OwnL.of2 hs9).alloc (pageC pk pl (.slice ai mi ci) (.slice ad md cd) nx);clear c1 y0 y1 y2 y3 y4 zb;have c1:=hs11.facts;simp only [CellsAt,Nat.reduceAdd,and_true] at c1
 have LV:=hQ (rleave_x r s gs ⟨.slice aa ws.length ca,fl,false⟩ ⟨.slice a0 s.counts.length c0,lv,.slice (some ⟨b4,0,none⟩) s.counts.length cp,xs,h⟩ HOK.out.now ((j:Int)+1) HCN.out HCB.out _ _ (refAt_close r s gs _ _ hs11.pull5));rw [HER.out.2.2,HER.out.1,HER.out.2.1] at LV;have HST3:=hQ ((HST2.out.trans st3).alloc (pageC pk pl (.slice ai mi ci) (.slice ad md cd) nx));have HPI:=hQ hp'
 clear hs9 hs11 st3 D HST2 hp';go_wp2_with fail
 refine LV.out.mono ?_;rintro e w5 ⟨rfl,st5,ok5,cb5,hs12⟩;have hs13:=refAt_open r T gs ⟨.slice aa ws.length ca,fl,false⟩ ⟨.slice a0 s.counts.length c0,lv,.slice (some ⟨b4,0,none⟩) s.counts.length cp,xs,h⟩ (OwnL.of1 hs12);have HST5:=hQ (HST3.out.trans st5);have HOK5:=hQ (And.intro ok5 cb5);have HS13:=hQ hs13;clear hs12 hs13 st5 LV c1 HST3 ok5 cb5
 have hok5:ROk { T with counts:=s.counts } gs ⟨.slice ac s.counts.length cc,lv,.slice aq gs.length cq,xs,h⟩:=by
  rw [HT.out];exact⟨HOK.out.now.pgs,HOK.out.now.ll,HOK.out.now.gl,HOK.out.now.n2,HOK.out.now.c0,HOK.out.now.fit⟩
 have HK5:HOk T gs l ⟨.slice a0 s.counts.length c0,lv,.slice (some ⟨b4,0,none⟩) s.counts.length cp,.slice aa ws.length ca,xs,h,ws⟩:=by
  have h4:=HOK5.out.1;rw [HT.out] at h4 ⊢;exact⟨h4,HOK.out.was,HOK.out.l⟩
 by_cases he:er=0
 · subst he
   have DD:=hQ (rdid_any r T gs fl l _ _ ⟨.slice a0 s.counts.length c0,lv,.slice (some ⟨b4,0,none⟩) s.counts.length cp,.slice aa ws.length ca,xs,h,ws⟩ HK5 ⟨.slice ac s.counts.length cc,.slice aq gs.length cq,xs,s.counts,gs⟩ hok5 HLL.out HS13.out.pull8);clear HK5 hok5 HS13;go_wp2_with fail
   refine DD.out.mono ?_;rintro e w6 ⟨rfl,st6,hs14⟩;have hs15:=OwnL.of1 hs14;have c1:=hs15.facts;simp only [CellsAt,Nat.reduceAdd,and_true] at c1;have HS15:=hQ hs15;have HST6:=hQ (HST5.out.trans st6);clear hs14 hs15 st6 DD;go_wp2
   have hs16:=(((((HS15.out.set w.heap.size 0 (.int .i64 pk)).set w.heap.size 1 (.int .i64 pl)).set w.heap.size 2 (.slice ai mi ci)).set w.heap.size 3 (.slice ad md cd)).set w.heap.size 4 (.int .i64 nx));refine bodyPost_ret (results_cell_row_tmp rfl _ _ w.heap.size _ rfl (run_loadVar_row _ w.heap.size _ _ _ _ _ (hs16.pts w.heap.size).pts_heap Tryz.underlying31 rfl infoPage)) rfl ?_
   refine⟨((((HST6.out.setCell _ _).setCell _ _).setCell _ _).setCell _ _).setCell _ _,?_⟩;rw [HP.out];unfold TkPost;rw [HER.out.2.2,HER.out.1,HER.out.2.1];exact .inr (.inr ⟨HT0.out.2,rfl,HOK5.out.2,_,h',rfl,HPI.out,hs16.end3⟩)
 · have hb:(er != 0)=true:=by rw [bne_iff_ne];exact he
   have HEN:=hQ he;have DD:=hQ (rnot_any r T gs fl l _ _ ⟨.slice a0 s.counts.length c0,lv,.slice (some ⟨b4,0,none⟩) s.counts.length cp,.slice aa ws.length ca,xs,h,ws⟩ HK5 ⟨.slice ac s.counts.length cc,.slice aq gs.length cq,xs,s.counts,gs⟩ hok5 HS13.out.pull8);clear HK5 hok5 HS13 he;go_wp2_with fail
   refine DD.out.mono ?_;rintro e w6 ⟨rfl,st6,hs14⟩;have hs15:=OwnL.of1 hs14;have c1:=hs15.facts;simp only [CellsAt,Nat.reduceAdd,and_true] at c1;have HS15:=hQ hs15;have HST6:=hQ (HST5.out.trans st6);clear hs14 hs15 st6 DD;go_wp2
   have hs16:=(((((HS15.out.set w.heap.size 0 (.int .i64 0)).set w.heap.size 1 (.int .i64 0)).set w.heap.size 2 (.slice none 0 0)).set w.heap.size 3 (.slice none 0 0)).set w.heap.size 4 (.int .i64 0));refine bodyPost_ret (results_cell_row_tmp rfl _ _ w.heap.size _ rfl (run_loadVar_row _ w.heap.size _ _ _ _ _ (hs16.pts w.heap.size).pts_heap Tryz.underlying31 rfl infoPage)) rfl ?_
   refine⟨((((HST6.out.setCell _ _).setCell _ _).setCell _ _).setCell _ _).setCell _ _,?_⟩;rw [HP.out];unfold TkPost;rw [HER.out.2.2,HER.out.1,HER.out.2.1];have h17:=hs16.end2 (A1:=RefH r { T with counts:=s.counts } gs fl l) (A2:=F);rw [HT.out] at h17;exact .inr (.inl ⟨HT0.out.2,HEN.out,rfl,h17⟩)
end
end Go.Proofs.YtbobcmimkonnoaaGreat.X9
namespace Go.Proofs.YtbobcmimkonnoaaGreat.Z9
open ChangeShapes WideShapes ChangeAt RowKit Sl Cop D2 M3 Q3 D4 M2 N2 E4 G4 P4 X4 E6 J4 L6 M7 Q7 U7 X7 W7 Z7 K9 Q9 U9 P6 B9
theorem rok_lay {s:PoolS}{gs:List PageV}{x:RX}{g:PageV}{vi vd:Value}(ok:ROk s gs x)(j:Nat)(hi:ItemsIn x.h vi g.items)(hd:Bytes x.h vd g.data)(hf:Fit g):
 ROk s (gs.set j g) { x with xs:=x.xs.set j (vi,vd) }:=by
 refine⟨⟨by simp only [List.length_set];exact ok.pgs.len,fun i hx hl=> ?_⟩,ok.ll,by rw [List.length_set];exact ok.gl,ok.n2,ok.c0,fun g2 hg2=> ?_⟩
 · dsimp only at hx ⊢
   simp only [List.length_set] at hx hl;by_cases he:j=i
   · subst he
     simp only [List.getElem_set_self];exact⟨hi,hd⟩
   · simp only [List.getElem_set_ne he]
     exact ok.pgs.at' i hx hl
 · rcases List.mem_or_eq_of_mem_set hg2 with h3 | h3
   · exact ok.fit g2 h3
   · rw [h3];exact hf
section
variable(r:Nat)(s:PoolS)(gs:List PageV)(fl:Int)(l:List (List Int × List PageV))
theorem pos_of(n:Int)(h0:s.count n≠0)(F:Pr)(w:World)(hF:Sat ((RefH r s gs fl l).star F) w):decide (0<s.count n)=true:=by
 have ht:s.there n:=by
  by_cases ht:s.there n
  · exact ht
  · exact absurd (by unfold PoolS.count;rw [if_neg ht]) h0
 obtain⟨y,ok,_⟩:=refH_iff.1 hF;rw [decide_eq_true_eq];obtain⟨j,rfl,hj⟩:=there_idx ht;rw [count_idx hj] at h0 ⊢;have:=ok.now.c0 s.counts[j] (List.getElem_mem hj)
 simp [hj] at h0 ⊢
 omega
theorem rshadow_none(n:Int)(h0:s.count n=0)(F:Pr)(w:World)(hF:Sat ((RefH r s gs fl l).star F) w):
 Calls Tryz.prog 36 #[.pointer (some ⟨r,0,none⟩),.int .i64 n] w fun e w'=>w=w'∧e= .returned (.tuple #[.int .i64 0,.int .i64 15]):=by
 obtain⟨aa,ca,F',hA⟩:=refH_refA hF;have C:=hQ (rthere_any r s gs ⟨.slice aa l.length ca,fl,false⟩ n _ _ hA);rw [h0] at C;clear hF hA h0;go_enter Tryz.func36,Tryz.ntmps36
 go_wp2_with fail
 refine C.out.mono ?_;rintro e w1 ⟨rfl,rfl⟩;go_wp2;go_ret2;exact⟨rfl,rfl⟩
theorem rshadow_own(n:Int)(h0:s.count n≠0)(ho:ownP s n=true)(F:Pr)(w:World)(hF:Sat ((RefH r s gs fl l).star F) w):
 Calls Tryz.prog 36 #[.pointer (some ⟨r,0,none⟩),.int .i64 n] w fun e w'=>w=w'∧e= .returned (.tuple #[.int .i64 n,.int .i64 0]):=by
 have hpos:=pos_of r s gs fl l n h0 F w hF;obtain⟨aa,ca,F',hA⟩:=refH_refA hF;have C:=hQ (rthere_any r s gs ⟨.slice aa l.length ca,fl,false⟩ n _ _ hA);have O:=hQ (rown_any r s gs ⟨.slice aa l.length ca,fl,false⟩ n _ _ hA);rw [hpos] at C;rw [ho] at O;clear hF hA h0 hpos ho;go_enter Tryz.func36,Tryz.ntmps36
 go_wp2_with fail
 refine C.out.mono ?_;rintro e w1 ⟨rfl,rfl⟩;go_wp2_with fail
 refine O.out.mono ?_;rintro e w1 ⟨rfl,rfl⟩;go_wp2;go_ret2;exact⟨rfl,rfl⟩
theorem rshadow_full(n:Int)(h0:s.count n≠0)(ho:ownP s n=false)(hno:∀m,s.state m≠1)(F:Pr)(w:World)(hF:Sat ((RefH r s gs fl l).star F) w):
 Calls Tryz.prog 36 #[.pointer (some ⟨r,0,none⟩),.int .i64 n] w fun e w'=>w=w'∧e= .returned (.tuple #[.int .i64 0,.int .i64 12]):=by
 have hpos:=pos_of r s gs fl l n h0 F w hF;obtain⟨aa,ca,F',hA⟩:=refH_refA hF;have C:=hQ (rthere_any r s gs ⟨.slice aa l.length ca,fl,false⟩ n _ _ hA);have O:=hQ (rown_any r s gs ⟨.slice aa l.length ca,fl,false⟩ n _ _ hA);have LO:=hQ (rlowest_any r s gs ⟨.slice aa l.length ca,fl,false⟩ _ _ hA);rw [hpos] at C;rw [ho] at O;have HNO:=hQ hno;clear hF hA h0 hpos ho hno;go_enter Tryz.func36,Tryz.ntmps36
 go_wp2_with fail
 refine C.out.mono ?_;rintro e w1 ⟨rfl,rfl⟩;go_wp2_with fail
 refine O.out.mono ?_;rintro e w1 ⟨rfl,rfl⟩;go_wp2_with fail
 refine LO.out.mono ?_;rintro e w2 ⟨rfl,m,rfl,(⟨rfl,_⟩ | ⟨hm,_⟩)⟩
 · go_wp2
   go_ret2;exact⟨rfl,rfl⟩
 · exact absurd hm (HNO.out m)
end
end Go.Proofs.YtbobcmimkonnoaaGreat.Z9
namespace Go.Proofs.YtbobcmimkonnoaaGreat.Cy
open ChangeShapes WideShapes ChangeAt RowKit Sl Cop D2 M3 Q3 D4 M2 N2 E4 G4 P4 X4 E6 J4 L6 M7 Q7 U7 X7 W7 Z7 K9 Q9 U9 P6 B9 Z9
section
variable(r:Nat)(s:PoolS)(gs:List PageV)(fl:Int)(l:List (List Int × List PageV))
def takenC(i:Nat):PoolS:=s.withC (s.counts.set i 1)
def ShGo(n:Int)(i:Nat)(F:Pr)(e:Ending)(w':World):Prop:=
 ((leaveRR (takenC s i) (pgAt gs n) n).1≠0∧e= .returned (.tuple #[.int .i64 0,.int .i64 (leaveRR (takenC s i) (pgAt gs n) n).1])∧Sat ((RefH r s gs fl l).star F) w')∨
 ((leaveRR (takenC s i) (pgAt gs n) n).1=0∧CB (leaveRR (takenC s i) (pgAt gs n) n).2∧e= .returned (.tuple #[.int .i64 ((i:Int)+1),.int .i64 0])∧Sat ((RefH r (leaveRR (takenC s i) (pgAt gs n) n).2 (gs.set i (pgAt gs n)) fl (l++ [(s.counts,gs)])).star F) w')
theorem pgAt_lay(n:Int)(i:Nat):pgAt (gs.set i (pgAt gs n)) n=pgAt gs n:=by
 unfold pgAt;by_cases h:i=n.toNat-1
 · subst h
   by_cases hl:n.toNat-1<gs.length
   · simp [List.getD_eq_getElem?_getD,hl]
   · rw [List.set_eq_of_length_le (by omega)]
 · simp [List.getD_eq_getElem?_getD,List.getElem?_set_ne h]
theorem rshadow_go(j i:Nat)(hj:j<s.counts.length)(hi:i<s.counts.length)(h0:s.count ((j:Int)+1)≠0)(hown:ownP s ((j:Int)+1)=false)(hm0:s.count ((i:Int)+1)=0)(hm1:s.state ((i:Int)+1)=1)(hle:∀k,s.state k=1→(i:Int)+1≤k)
 (hcb:CB s) (hl:l.length≤1048576) (F:Pr) (w:World) (hF:Sat ((RefH r s gs fl l).star F) w):
 Calls Tryz.prog 36 #[.pointer (some ⟨r,0,none⟩),.int .i64 ((j:Int)+1)] w fun e w'=>Stays w w'∧ShGo r s gs fl l ((j:Int)+1) i F e w':=by
 have hpos:=pos_of r s gs fl l _ h0 F w hF;obtain⟨aa',ca',F',hA⟩:=refH_refA hF;have TH:=hQ (rthere_any r s gs ⟨.slice aa' l.length ca',fl,false⟩ ((j:Int)+1) _ _ hA);have OW:=hQ (rown_any r s gs ⟨.slice aa' l.length ca',fl,false⟩ ((j:Int)+1) _ _ hA);have LO:=hQ (rlowest_any r s gs ⟨.slice aa' l.length ca',fl,false⟩ _ _ hA);rw [hpos] at TH;rw [hown] at OW;obtain⟨y,ok,hF0⟩:=refH_iff.1 hF
 have hij:i≠j:=by rintro rfl;exact h0 hm0
 have hcnt:cntL (takenC s i).counts ((j:Int)+1)≠0:=by
  show cntL (s.counts.set i 1) ((j:Int)+1)≠0
  rw [cnt_idx (by rw [List.length_set];exact hj),List.getD_eq_getElem?_getD,List.getElem?_set_ne hij, ← List.getD_eq_getElem?_getD, ← count_idx hj];exact h0
 have hcb1:CB (takenC s i):=by
  refine⟨hcb.1,fun c hc=> ?_⟩;show c≤s.refs
  rcases List.mem_or_eq_of_mem_set (show c∈s.counts.set i 1 from hc) with h1 | h1
  · exact hcb.2 c h1
  · have h2:=hcb.2 s.counts[j] (List.getElem_mem hj)
    have h3:=ok.now.c0 s.counts[j] (List.getElem_mem hj);rw [count_idx hj] at h0;simp [hj] at h0
    omega
 obtain⟨cv,lv,pv,av,xs,h,ws⟩:=y;have hs:=OwnL.in7 hF0;dsimp only at hs;clear hF hF0 hA;obtain⟨aa,ca,rfl⟩:=Row.shape (hs.row av);obtain⟨a0,c0,rfl⟩:=Row.shape (hs.pull1 (A1:=IntsRow cv s.counts));obtain⟨ap,cp,epv⟩:=Row.shape (hs.pull1 (A1:=PgRow pv xs gs));rw [ok.now.gl] at epv;subst epv;obtain⟨a,ha,hs1⟩:=hs.arena (IntsRow (.slice a0 s.counts.length c0) s.counts);have c1:=hs1.facts
 simp only [CellsAt,Nat.reduceAdd,and_true] at c1;have CI:=hQ (copyints_any a _ s.counts _ w.drew (hs1.drew.pull1 (A1:=Pr.own a)) (Row.rowIn ha) ok.now.n2);have HA:=hQ ha;have HOK:=hQ ok;have HLL:=hQ hl;have HCB:=hQ hcb1;have HCN:=hQ hcnt;have HM:=hQ (And.intro hm1 hle);obtain⟨G,hG⟩:∃G,pgAt gs ((j:Int)+1)=G:=⟨_,rfl⟩;obtain⟨er,her⟩:∃er,(leaveRR (takenC s i) G ((j:Int)+1)).1=er:=⟨_,rfl⟩
 obtain⟨T,hT⟩:∃T,(leaveRR (takenC s i) G ((j:Int)+1)).2=T:=⟨_,rfl⟩;obtain⟨cs3,hcs3⟩:=leaveRR_with (takenC s i) G ((j:Int)+1);have HT:=hQ (show T=s.withC cs3 from hT.symm.trans hcs3);have HER:=hQ (And.intro her (And.intro hT hG));obtain⟨P,hP⟩:∃P,P=ShGo r s gs fl l ((j:Int)+1) i F:=⟨_,rfl⟩;rw [← hP];have HP:=hQ hP;have HLG:=hQ (pgAt_lay gs ((j:Int)+1) i);rw [hG] at HLG;have hn2:=ok.now.n2
 have hi0:((i:Int)+1 == 0)=false:=beq_eq_false_iff_ne.2 (by omega);have hgl0:=hQ ok.now.gl;clear hs hs1 ok hl ha hcb hcb1 her hT hG hcs3 hP h0 hpos hcnt hown hm0 hm1 hle;go_enter Tryz.func36,Tryz.ntmps36
 go_wp2_with fail
 refine TH.out.mono ?_;rintro e w0 ⟨rfl,rfl⟩;go_wp2_with fail
 refine OW.out.mono ?_;rintro e w0 ⟨rfl,rfl⟩;go_wp2_with fail
 refine LO.out.mono ?_;rintro e w0 ⟨rfl,m,rfl,hmm⟩
 have hmi:m=(i:Int)+1:=by
  rcases hmm with⟨_,hno⟩ | ⟨h1,h2⟩
  · exact absurd HM.out.1 (hno _)
  · have:=h2 _ HM.out.1
    have:=HM.out.2 _ h1
    omega
 clear hmm;subst hmi;go_wp2_with fail
 refine wS 69 [0,1,2,3,5,6,7,8] [(4,[],[0,1,2,5,6,7,8]),(9,[10,11],[0,1,2,5,6,7])] ?_;refine wpQ_all _ rfl rfl ?_;simp only [pick,pQ];iterate 8 (go_big_quiet_step (fail))
 refine wpQuiet_nil ?_;refine wpRest_act rfl ?_;go_wp2_with fail
 refine CI.out.mono ?_;rintro e w1 ⟨v1,rfl,hs2,st1⟩;obtain⟨ac,cc,rfl⟩:=Row.shape hs2;have hs3:=(OwnL.of2 hs2).back (IntsRow (.slice a0 s.counts.length c0) s.counts) HA.out;obtain⟨a2,ha2,hs4⟩:=hs3.arena (PgRow (.slice ap s.counts.length cp) xs gs);clear c1;have c1:=hs4.facts;simp only [CellsAt,Nat.reduceAdd,and_true] at c1
 have CP:=hQ (copypages_any a2 _ h xs gs HOK.out.now.pgs (Row.rowIn ha2) (by have:=HOK.out.now.n2;have:=HOK.out.now.gl;omega) _ _ (hs4.pull1 (A1:=Pr.own a2)));have HA2:=hQ ha2;have HST1:=hQ ((Stays.refl w).drew.trans st1);clear hs2 hs3 hs4 st1 CI HA ha2 TH OW LO;go_wp2;refine onN_mk ?_;refine wpQ_nil ⟨?_,?_⟩
 · exact cQ
 refine wpRest_act rfl ?_;go_wp2_with fail
 refine CP.out.mono ?_;rintro e w2 ⟨v2,rfl,hs5,st2⟩;obtain⟨aq,cq,rfl⟩:=Row.shape hs5;have hs6:=(OwnL.of2 hs5).back (PgRow (.slice ap s.counts.length cp) xs gs) HA2.out
 have hs7:=hs6.to (M:= [IntsRow (.slice ac s.counts.length cc) s.counts,PgRow (.slice aq gs.length cq) xs gs,Pr.pts r (refHC s.refs (.slice a0 s.counts.length c0) lv (.slice ap s.counts.length cp) (.slice aa ws.length ca) fl),IntsRow (.slice a0 s.counts.length c0) s.counts,BoolsRow lv s.last,PgRow (.slice ap s.counts.length cp) xs gs,Pr.own h,Row 165 2 (.slice aa ws.length ca) ws.length (ws.flatMap wasCells),big WasRow ws,F])
 have hs8:=was_close ⟨.slice ac s.counts.length cc,.slice aq gs.length cq,xs,s.counts,gs⟩ hs7;have hAt:=refAt_close r s gs ⟨.slice aa ws.length ca,fl,false⟩ ⟨.slice a0 s.counts.length c0,lv,.slice ap s.counts.length cp,xs,h⟩ hs8.pull5;obtain⟨b,c,b2,c2,b3,c3,⟨e1,e2,e3⟩,⟨q1,q2,q3⟩,⟨k1,f1⟩,_,_,_,zr,zb,zb2,zb3⟩:=ref_all HOK.out.now hAt (j:=i) hi;obtain⟨b',c',e1',_,_,wc⟩:=ref_wr_count hAt hi
 rw [e1] at e1';cases (Value.slice.inj e1').1;have T5:Sat ((RefAt r (takenC s i) gs ⟨.slice aa ws.length ca,fl,false⟩ ⟨.slice a0 s.counts.length c0,lv,.slice ap s.counts.length cp,xs,h⟩).star _) _:=wc 1
 have ok1:ROk (takenC s i) gs ⟨.slice a0 s.counts.length c0,lv,.slice ap s.counts.length cp,xs,h⟩:=rok_counts HOK.out.now (by rw [List.length_set]) (fun c0 hc=>by
  rcases List.mem_or_eq_of_mem_set hc with hc | hc
  · exact HOK.out.now.c0 c0 hc
  · rw [hc];decide)
 have HST2:=hQ ((HST1.out.trans st2).setCell ⟨b,i,none⟩ (.int .i64 1));have HT5:=hQ T5;have HOK1:=hQ ok1;clear hs5 hs6 hs7 hs8 st2 CP HA2 HST1 hAt c1 wc e1' e1 e2 e3 T5 ok1;go_wp2;refine onN_mk ?_;refine wpQ_all _ rfl rfl ?_;simp only [pick,pQ];iterate 2 (go_big_quiet_step (fail))
 refine wpQuiet_nil ⟨?_,?_⟩
 · exact cQ
 refine wpRest_nil ?_;generalize hcj:s.counts.getD i 0=ci0 at*;clear hcj;go_wp2_with fail
 have T5:=HT5.out;have U5:=HST2.out;clear HT5 HST2 q1 q2 q3 k1 f1 zr zb zb2 zb3;generalize w2.setCell ⟨b,i,none⟩ (.int .i64 1)=w5 at*;have elen:(takenC s i).counts.length=s.counts.length:=List.length_set;obtain⟨b,c,b2,c2,b3,c3,⟨e1,e2,e3⟩,⟨_,_,q3⟩,_,_,_,_,zr,_,_,zb3⟩:=ref_all HOK1.out T5 (j:=i) (by rw [elen];exact hi);dsimp only at e1 e2 e3 q3;rw [elen] at e3 q3;cases e3
 obtain⟨_,_,_,_,ap2,cp2,⟨_,_,p3,_⟩,_,_,rd⟩:=ref_rd HOK1.out T5;obtain⟨_,_,b4,g,vi,vd,eb4,hg,hpg,y0,y1,y2,y3,y4⟩:=rd j (by rw [elen];exact hj);rw [elen,q3] at p3;cases p3;cases eb4;have hgm:g∈gs:=List.mem_of_getElem? hg;have hfit:=HOK.out.now.fit g hgm;have epg:pgAt gs ((j:Int)+1)=g:=by unfold pgAt;rw [show ((j:Int)+1).toNat-1=j by omega,List.getD_eq_getElem?_getD,hg];rfl
 have eG:G=g:=HER.out.2.2.symm.trans epg;subst eG;obtain⟨_,_,epv,hit,hby⟩:=id hpg;simp only [pageV,Value.agg.injEq,Array.mk.injEq,List.cons.injEq,and_true,true_and] at epv;obtain⟨rfl,rfl⟩:=epv;obtain⟨a6,d6,rfl,_,_⟩:=items_rd hit;obtain⟨a7,d7,rfl⟩:=bytes_shape hby;obtain⟨b9,d9,epv,hcl,wr8⟩:=ref_wr_page HOK1.out.pgs.len T5 (j:=i) (by rw [hgl0.out];exact hi);cases (Value.slice.inj epv).1
 obtain⟨g0,u0,k0⟩:=hcl 0 (by omega);obtain⟨g1,u1,k1⟩:=hcl 1 (by omega);obtain⟨g2,u2,k2⟩:=hcl 2 (by omega);obtain⟨g3,u3,k3⟩:=hcl 3 (by omega);obtain⟨g4,u4,k4⟩:=hcl 4 (by omega);rw [Nat.add_zero] at g0 k0;have h8:=wr8 G (.slice a6 G.items.length d6) (.slice a7 G.data.length d7);have ok2:=rok_lay HOK1.out i hit hby hfit
 have LV:=hQ (rleave_x r (takenC s i) (gs.set i G) ⟨.slice aa ws.length ca,fl,false⟩ ⟨.slice a0 s.counts.length c0,lv,.slice (some ⟨b3,0,none⟩) s.counts.length cp,xs.set i (.slice a6 G.items.length d6,.slice a7 G.data.length d7),h⟩ ok2 ((j:Int)+1) HCN.out HCB.out _ _ h8.drew);rw [HLG.out,HER.out.1,HER.out.2.1] at LV
 have HST5:=hQ (((((U5.setCell ⟨b3,i*5,none⟩ (.int .i64 G.kind)).setCell ⟨b3,i*5+1,none⟩ (.int .i64 G.level)).setCell ⟨b3,i*5+2,none⟩ (.slice a6 G.items.length d6)).setCell ⟨b3,i*5+3,none⟩ (.slice a7 G.data.length d7)).setCell ⟨b3,i*5+4,none⟩ (.int .i64 G.next)).drew;have HG2:=hQ (And.intro hit (And.intro hby hfit));have zb:=World.block_lt_of_cell? _ _ y0
 clear T5 U5 hcl wr8 h8 ok2 rd epv hg hpg hgm hfit epg hit hby e1 e2;refine wS 69 [0,1,2,3,4,5,6,7,8,9,10,11,12,13,14] [(15,[],[])] ?_;refine wpQ_all _ rfl rfl ?_;simp only [pick,pQ];iterate 15 (go_big_quiet_step (fail))
 refine wpQuiet_nil ?_;refine wpRest_act rfl ?_;go_wp2;refine onN_mk (wpQ_nil ⟨chk_nil,wpRest_nil ?_⟩);go_wp2_with fail
 refine LV.out.mono ?_;rintro e w6 ⟨rfl,st6,ok6,cb6,hs12⟩;have hs13:=refAt_open r T (gs.set i G) ⟨.slice aa ws.length ca,fl,false⟩ ⟨.slice a0 s.counts.length c0,lv,.slice (some ⟨b3,0,none⟩) s.counts.length cp,xs.set i (.slice a6 G.items.length d6,.slice a7 G.data.length d7),h⟩ (OwnL.of1 hs12);have HST6:=hQ (HST5.out.trans st6);have HOK6:=hQ (And.intro ok6 cb6);have HS13:=hQ hs13
 clear hs12 hs13 st6 LV HST5 ok6 cb6 y0 y1 y2 y3 y4 g0 u0 k0 g1 u1 k1 g2 u2 k2 g3 u3 k3 g4 u4 k4 q3 zr zb3 zb
 have hok5:ROk { T with counts:=s.counts } gs ⟨.slice ac s.counts.length cc,lv,.slice aq gs.length cq,xs,h⟩:=by
  rw [HT.out];exact⟨HOK.out.now.pgs,HOK.out.now.ll,HOK.out.now.gl,HOK.out.now.n2,HOK.out.now.c0,HOK.out.now.fit⟩
 have HK5:HOk T (gs.set i G) l ⟨.slice a0 s.counts.length c0,lv,.slice (some ⟨b3,0,none⟩) s.counts.length cp,.slice aa ws.length ca,xs.set i (.slice a6 G.items.length d6,.slice a7 G.data.length d7),h,ws⟩:=by
  have h4:=HOK6.out.1;rw [HT.out] at h4 ⊢;exact⟨h4,HOK.out.was,HOK.out.l⟩
 by_cases he:er=0
 · subst he
   have DD:=hQ (rdid_any r T (gs.set i G) fl l _ _ ⟨.slice a0 s.counts.length c0,lv,.slice (some ⟨b3,0,none⟩) s.counts.length cp,.slice aa ws.length ca,xs.set i (.slice a6 G.items.length d6,.slice a7 G.data.length d7),h,ws⟩ HK5 ⟨.slice ac s.counts.length cc,.slice aq gs.length cq,xs,s.counts,gs⟩ hok5 HLL.out HS13.out.pull8);clear HK5 hok5 HS13;go_wp2_with fail
   refine DD.out.mono ?_;rintro e w7 ⟨rfl,st7,hs14⟩;have HS15:=hQ (OwnL.of1 hs14);have HST7:=hQ (HST6.out.trans st7);clear hs14 st7 DD;go_wp2;go_ret2;refine⟨HST7.out,?_⟩;rw [HP.out];unfold ShGo;rw [HER.out.2.2,HER.out.1,HER.out.2.1];exact .inr ⟨rfl,HOK6.out.2,rfl,HS15.out.end2⟩
 · have hb:(er != 0)=true:=by rw [bne_iff_ne];exact he
   have HEN:=hQ he;have DD:=hQ (rnot_any r T (gs.set i G) fl l _ _ ⟨.slice a0 s.counts.length c0,lv,.slice (some ⟨b3,0,none⟩) s.counts.length cp,.slice aa ws.length ca,xs.set i (.slice a6 G.items.length d6,.slice a7 G.data.length d7),h,ws⟩ HK5 ⟨.slice ac s.counts.length cc,.slice aq gs.length cq,xs,s.counts,gs⟩ hok5 HS13.out.pull8);clear HK5 hok5 HS13 he;go_wp2_with fail
   refine DD.out.mono ?_;rintro e w7 ⟨rfl,st7,hs14⟩;have HS15:=hQ (OwnL.of1 hs14);have HST7:=hQ (HST6.out.trans st7);clear hs14 st7 DD;go_wp2;go_ret2;refine⟨HST7.out,?_⟩;rw [HP.out];unfold ShGo;rw [HER.out.2.2,HER.out.1,HER.out.2.1];have h17:=HS15.out.end2 (A1:=RefH r { T with counts:=s.counts } gs fl l) (A2:=F);rw [HT.out] at h17;exact .inl ⟨HEN.out,rfl,h17⟩
end
end Go.Proofs.YtbobcmimkonnoaaGreat.Cy
