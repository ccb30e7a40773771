/- The document's Take where it can be undone; the conditions stand as hypotheses. -/
import Derived.Test.YtpfafhklppondaaGreatVaultCountsM32
import Derived.Test.YtpfafhklppondaaGreatVaultCountsM17
import Derived.Test.YtpfafhklppondaaGreatVaultCountsM01
set_option maxRecDepth 100000
set_option maxHeartbeats 16000000
namespace Go.Proofs.YtpfafhklppondaaGreat.Cy
open ChangeShapes WideShapes ChangeAt RowKit Sl Cop M2 P3 X3 G4 Q2 X2 J4 L4 V4 D5 K6 P4 Q6 X7 Z7 C8 F8 E8 J8 V9 Y9 Z9 Y6
section
variable(r:Nat)(s:PoolS)(gs:List PageV)(fl:Int)(l:List (List Int × List PageV))
def TkPost(n:Int)(F:Pr)(e:Ending)(w':World):Prop:=
 (s.count n=0∧e= .returned (.tuple #[zeroPage,.int .i64 15])∧Sat ((RefH r s gs fl l).star F) w')∨
 (s.count n≠0∧(leaveRR s (pgAt gs n) n).1≠0∧e= .returned (.tuple #[zeroPage,.int .i64 (leaveRR s (pgAt gs n) n).1])∧Sat ((RefH r s gs fl l).star F) w')∨
 (s.count n≠0∧(leaveRR s (pgAt gs n) n).1=0∧CB (leaveRR s (pgAt gs n) n).2∧∃pv h',e= .returned (.tuple #[pv,.int .i64 0])∧PageIn h' pv (pgAt gs n)∧Sat ((Pr.own h').star ((RefH r (leaveRR s (pgAt gs n) n).2 gs fl (l++ [(s.counts,gs)])).star F)) w')
end
end Go.Proofs.YtpfafhklppondaaGreat.Cy
namespace Go.Proofs.YtpfafhklppondaaGreat.Fy
open ChangeShapes WideShapes ChangeAt RowKit Sl Cop M2 P3 X3 G4 Q2 X2 J4 L4 V4 D5 K6 P4 Q6 X7 Z7 C8 F8 E8 J8 V9 Y9 Z9 Y6 K9
theorem rok_lay {s:PoolS}{gs:List PageV}{x:RX}{g:PageV}{vi vd:Value}(ok:ROk s gs x)(j:Nat)(hi:ItemsIn x.h vi g.items)(hd:Bytes x.h vd g.data)(hf:Fit g):
 ROk s (gs.set j g) { x with xs:=x.xs.set j (vi,vd) }:=by
 refine⟨⟨by simp only [List.length_set];exact ok.pgs.len,fun i hx hl=> ?_⟩,ok.ll,by rw [List.length_set];exact ok.gl,ok.n2,ok.c0,fun g2 hg2=> ?_⟩
 · dsimp only at hx ⊢
   simp only [List.length_set] at hx hl;by_cases he:j=i
   · subst he
     simp only [List.getElem_set_self];exact⟨hi,hd⟩
   · simp only [List.getElem_set_ne he]
     exact ok.pgs.at' i hx hl
 · rcases List.mem_or_eq_of_mem_set hg2 with h3 | h3
   · exact ok.fit g2 h3
   · rw [h3];exact hf
section
variable(r:Nat)(s:PoolS)(gs:List PageV)(fl:Int)(l:List (List Int × List PageV))
theorem pos_of(n:Int)(h0:s.count n≠0)(F:Pr)(w:World)(hF:Sat ((RefH r s gs fl l).star F) w):decide (0<s.count n)=true:=by
 have ht:s.there n:=by
  by_cases ht:s.there n
  · exact ht
  · exact absurd (by unfold PoolS.count;rw [if_neg ht]) h0
 obtain⟨y,ok,_⟩:=refH_iff.1 hF;rw [decide_eq_true_eq];obtain⟨j,rfl,hj⟩:=there_idx ht;rw [count_idx hj] at h0 ⊢;have:=ok.now.c0 s.counts[j] (List.getElem_mem hj)
 simp [hj] at h0 ⊢
 omega
theorem rshadow_none(n:Int)(h0:s.count n=0)(F:Pr)(w:World)(hF:Sat ((RefH r s gs fl l).star F) w):
 Calls Tryz.prog 77 #[.pointer (some ⟨r,0,none⟩),.int .i64 n] w fun e w'=>w=w'∧e= .returned (.tuple #[.int .i64 0,.int .i64 15]):=by
 obtain⟨aa,ca,F',hA⟩:=refH_refA hF;have C:=hQ (rthere_any r s gs ⟨.slice aa l.length ca,fl,false⟩ n _ _ hA);rw [h0] at C;clear hF hA h0;go_enter Tryz.func77,Tryz.ntmps77
 go_wp2_with fail
 refine C.out.mono ?_;rintro e w1 ⟨rfl,rfl⟩;go_wp2;go_ret2;exact⟨rfl,rfl⟩
theorem rshadow_own(n:Int)(h0:s.count n≠0)(ho:ownP s n=true)(F:Pr)(w:World)(hF:Sat ((RefH r s gs fl l).star F) w):
 Calls Tryz.prog 77 #[.pointer (some ⟨r,0,none⟩),.int .i64 n] w fun e w'=>w=w'∧e= .returned (.tuple #[.int .i64 n,.int .i64 0]):=by
 have hpos:=pos_of r s gs fl l n h0 F w hF;obtain⟨aa,ca,F',hA⟩:=refH_refA hF;have C:=hQ (rthere_any r s gs ⟨.slice aa l.length ca,fl,false⟩ n _ _ hA);have O:=hQ (rown_any r s gs ⟨.slice aa l.length ca,fl,false⟩ n _ _ hA);rw [hpos] at C;rw [ho] at O;clear hF hA h0 hpos ho;go_enter Tryz.func77,Tryz.ntmps77
 go_wp2_with fail
 refine C.out.mono ?_;rintro e w1 ⟨rfl,rfl⟩;go_wp2_with fail
 refine O.out.mono ?_;rintro e w1 ⟨rfl,rfl⟩;go_wp2;go_ret2;exact⟨rfl,rfl⟩
theorem rshadow_full(n:Int)(h0:s.count n≠0)(ho:ownP s n=false)(hno:∀m,s.state m≠1)(F:Pr)(w:World)(hF:Sat ((RefH r s gs fl l).star F) w):
 Calls Tryz.prog 77 #[.pointer (some ⟨r,0,none⟩),.int .i64 n] w fun e w'=>w=w'∧e= .returned (.tuple #[.int .i64 0,.int .i64 12]):=by
 have hpos:=pos_of r s gs fl l n h0 F w hF;obtain⟨aa,ca,F',hA⟩:=refH_refA hF;have C:=hQ (rthere_any r s gs ⟨.slice aa l.length ca,fl,false⟩ n _ _ hA);have O:=hQ (rown_any r s gs ⟨.slice aa l.length ca,fl,false⟩ n _ _ hA);have LO:=hQ (rlowest_any r s gs ⟨.slice aa l.length ca,fl,false⟩ _ _ hA);rw [hpos] at C;rw [ho] at O;have HNO:=hQ hno;clear hF hA h0 hpos ho hno;go_enter Tryz.func77,Tryz.ntmps77
 go_wp2_with fail
 refine C.out.mono ?_;rintro e w1 ⟨rfl,rfl⟩;go_wp2_with fail
 refine O.out.mono ?_;rintro e w1 ⟨rfl,rfl⟩;go_wp2_with fail
 refine LO.out.mono ?_;rintro e w2 ⟨rfl,m,rfl,(⟨rfl,_⟩ | ⟨hm,_⟩)⟩
 · go_wp2
   go_ret2;exact⟨rfl,rfl⟩
 · exact absurd hm (HNO.out m)
end
end Go.Proofs.YtpfafhklppondaaGreat.Fy
namespace Go.Proofs.YtpfafhklppondaaGreat.Gy
open ChangeShapes WideShapes ChangeAt RowKit Sl Cop M2 P3 X3 G4 Q2 X2 J4 L4 V4 D5 K6 P4 Q6 X7 Z7 C8 F8 E8 J8 V9 Y9 Z9 Y6 K9 Fy
section
variable(r:Nat)(s:PoolS)(gs:List PageV)(fl:Int)(l:List (List Int × List PageV))
def takenC(i:Nat):PoolS:=s.withC (s.counts.set i 1)
def ShGo(n:Int)(i:Nat)(F:Pr)(e:Ending)(w':World):Prop:=
 ((leaveRR (takenC s i) (pgAt gs n) n).1≠0∧e= .returned (.tuple #[.int .i64 0,.int .i64 (leaveRR (takenC s i) (pgAt gs n) n).1])∧Sat ((RefH r s gs fl l).star F) w')∨
 ((leaveRR (takenC s i) (pgAt gs n) n).1=0∧CB (leaveRR (takenC s i) (pgAt gs n) n).2∧e= .returned (.tuple #[.int .i64 ((i:Int)+1),.int .i64 0])∧Sat ((RefH r (leaveRR (takenC s i) (pgAt gs n) n).2 (gs.set i (pgAt gs n)) fl (l++ [(s.counts,gs)])).star F) w')
theorem pgAt_lay(n:Int)(i:Nat):pgAt (gs.set i (pgAt gs n)) n=pgAt gs n:=by
 unfold pgAt;by_cases h:i=n.toNat-1
 · subst h
   by_cases hl:n.toNat-1<gs.length
   · simp [List.getD_eq_getElem?_getD,hl]
   · rw [List.set_eq_of_length_le (by omega)]
 · simp [List.getD_eq_getElem?_getD,List.getElem?_set_ne h]
theorem rshadow_go(j i:Nat)(hj:j<s.counts.length)(hi:i<s.counts.length)(h0:s.count ((j:Int)+1)≠0)(hown:ownP s ((j:Int)+1)=false)(hm0:s.count ((i:Int)+1)=0)(hm1:s.state ((i:Int)+1)=1)(hle:∀k,s.state k=1→(i:Int)+1≤k)
 (hcb:CB s) (hl:l.length≤1048576) (F:Pr) (w:World) (hF:Sat ((RefH r s gs fl l).star F) w):
 Calls Tryz.prog 77 #[.pointer (some ⟨r,0,none⟩),.int .i64 ((j:Int)+1)] w fun e w'=>Stays w w'∧ShGo r s gs fl l ((j:Int)+1) i F e w':=by
 have hpos:=pos_of r s gs fl l _ h0 F w hF;obtain⟨aa',ca',F',hA⟩:=refH_refA hF;have TH:=hQ (rthere_any r s gs ⟨.slice aa' l.length ca',fl,false⟩ ((j:Int)+1) _ _ hA);have OW:=hQ (rown_any r s gs ⟨.slice aa' l.length ca',fl,false⟩ ((j:Int)+1) _ _ hA);have LO:=hQ (rlowest_any r s gs ⟨.slice aa' l.length ca',fl,false⟩ _ _ hA);rw [hpos] at TH;rw [hown] at OW;obtain⟨y,ok,hF0⟩:=refH_iff.1 hF
 have hij:i≠j:=by rintro rfl;exact h0 hm0
 have hcnt:cntL (takenC s i).counts ((j:Int)+1)≠0:=by
  show cntL (s.counts.set i 1) ((j:Int)+1)≠0
  rw [cnt_idx (by rw [List.length_set];exact hj),List.getD_eq_getElem?_getD,List.getElem?_set_ne hij, ← List.getD_eq_getElem?_getD, ← count_idx hj];exact h0
 have hcb1:CB (takenC s i):=by
  refine⟨hcb.1,fun c hc=> ?_⟩;show c≤s.refs
  rcases List.mem_or_eq_of_mem_set (show c∈s.counts.set i 1 from hc) with h1 | h1
  · exact hcb.2 c h1
  · have h2:=hcb.2 s.counts[j] (List.getElem_mem hj)
    have h3:=ok.now.c0 s.counts[j] (List.getElem_mem hj);rw [count_idx hj] at h0;simp [hj] at h0
    omega
 obtain⟨cv,lv,pv,av,xs,h,ws⟩:=y;have hs:=OwnL.in7 hF0;dsimp only at hs;clear hF hF0 hA;obtain⟨aa,ca,rfl⟩:=Row.shape (hs.row av);obtain⟨a0,c0,rfl⟩:=Row.shape (hs.pull1 (A1:=IntsRow cv s.counts));obtain⟨ap,cp,epv⟩:=Row.shape (hs.pull1 (A1:=PgRow pv xs gs));rw [ok.now.gl] at epv;subst epv;obtain⟨a,ha,hs1⟩:=hs.arena (IntsRow (.slice a0 s.counts.length c0) s.counts);have c1:=hs1.facts
 simp only [CellsAt,Nat.reduceAdd,and_true] at c1;have CI:=hQ (copyints_any a _ s.counts _ w.drew (hs1.drew.pull1 (A1:=Pr.own a)) (Row.rowIn ha) ok.now.n2);have HA:=hQ ha;have HOK:=hQ ok;have HLL:=hQ hl;have HCB:=hQ hcb1;have HCN:=hQ hcnt;have HM:=hQ (And.intro hm1 hle);obtain⟨G,hG⟩:∃G,pgAt gs ((j:Int)+1)=G:=⟨_,rfl⟩;obtain⟨er,her⟩:∃er,(leaveRR (takenC s i) G ((j:Int)+1)).1=er:=⟨_,rfl⟩
 obtain⟨T,hT⟩:∃T,(leaveRR (takenC s i) G ((j:Int)+1)).2=T:=⟨_,rfl⟩;obtain⟨cs3,hcs3⟩:=leaveRR_with (takenC s i) G ((j:Int)+1);have HT:=hQ (show T=s.withC cs3 from hT.symm.trans hcs3);have HER:=hQ (And.intro her (And.intro hT hG));obtain⟨P,hP⟩:∃P,P=ShGo r s gs fl l ((j:Int)+1) i F:=⟨_,rfl⟩;rw [← hP];have HP:=hQ hP;have HLG:=hQ (pgAt_lay gs ((j:Int)+1) i);rw [hG] at HLG;have hn2:=ok.now.n2
 have hi0:((i:Int)+1 == 0)=false:=beq_eq_false_iff_ne.2 (by omega);have hgl0:=hQ ok.now.gl;clear hs hs1 ok hl ha hcb hcb1 her hT hG hcs3 hP h0 hpos hcnt hown hm0 hm1 hle;go_enter Tryz.func77,Tryz.ntmps77
 go_wp2_with fail
 refine TH.out.mono ?_;rintro e w0 ⟨rfl,rfl⟩;go_wp2_with fail
 refine OW.out.mono ?_;rintro e w0 ⟨rfl,rfl⟩;go_wp2_with fail
 refine LO.out.mono ?_;rintro e w0 ⟨rfl,m,rfl,hmm⟩
 have hmi:m=(i:Int)+1:=by
  rcases hmm with⟨_,hno⟩ | ⟨h1,h2⟩
  · exact absurd HM.out.1 (hno _)
  · have:=h2 _ HM.out.1
    have:=HM.out.2 _ h1
    omega
 clear hmm;subst hmi;go_wp2_with fail
 refine wS 69 [0,1,2,3,5,6,7,8] [(4,[],[0,1,2,5,6,7,8]),(9,[10,11],[0,1,2,5,6,7])] ?_;refine wpQ_all _ rfl rfl ?_;simp only [pick,pQ];iterate 8 (go_big_quiet_step (fail))
 refine wpQuiet_nil ?_;refine wpRest_act rfl ?_;go_wp2_with fail
 refine CI.out.mono ?_;rintro e w1 ⟨v1,rfl,hs2,st1⟩;obtain⟨ac,cc,rfl⟩:=Row.shape hs2;have hs3:=(OwnL.of2 hs2).back (IntsRow (.slice a0 s.counts.length c0) s.counts) HA.out;obtain⟨a2,ha2,hs4⟩:=hs3.arena (PgRow (.slice ap s.counts.length cp) xs gs);clear c1;have c1:=hs4.facts;simp only [CellsAt,Nat.reduceAdd,and_true] at c1
 have CP:=hQ (copypages_any a2 _ h xs gs HOK.out.now.pgs (Row.rowIn ha2) (by have:=HOK.out.now.n2;have:=HOK.out.now.gl;omega) _ _ (hs4.pull1 (A1:=Pr.own a2)));have HA2:=hQ ha2;have HST1:=hQ ((Stays.refl w).drew.trans st1);clear hs2 hs3 hs4 st1 CI HA ha2 TH OW LO;go_wp2;refine onN_mk ?_;refine wpQ_nil ⟨?_,?_⟩
 · exact cQ
 refine wpRest_act rfl ?_;go_wp2_with fail
 refine CP.out.mono ?_;rintro e w2 ⟨v2,rfl,hs5,st2⟩;obtain⟨aq,cq,rfl⟩:=Row.shape hs5;have hs6:=(OwnL.of2 hs5).back (PgRow (.slice ap s.counts.length cp) xs gs) HA2.out
 have hs7:=hs6.to (M:= [IntsRow (.slice ac s.counts.length cc) s.counts,PgRow (.slice aq gs.length cq) xs gs,Pr.pts r (refHC s.refs (.slice a0 s.counts.length c0) lv (.slice ap s.counts.length cp) (.slice aa ws.length ca) fl),IntsRow (.slice a0 s.counts.length c0) s.counts,BoolsRow lv s.last,PgRow (.slice ap s.counts.length cp) xs gs,Pr.own h,Row 162 2 (.slice aa ws.length ca) ws.length (ws.flatMap wasCells),big WasRow ws,F])
 have hs8:=was_close ⟨.slice ac s.counts.length cc,.slice aq gs.length cq,xs,s.counts,gs⟩ hs7;have hAt:=refAt_close r s gs ⟨.slice aa ws.length ca,fl,false⟩ ⟨.slice a0 s.counts.length c0,lv,.slice ap s.counts.length cp,xs,h⟩ hs8.pull5;obtain⟨b,c,b2,c2,b3,c3,⟨e1,e2,e3⟩,⟨q1,q2,q3⟩,⟨k1,f1⟩,_,_,_,zr,zb,zb2,zb3⟩:=ref_all HOK.out.now hAt (j:=i) hi;obtain⟨b',c',e1',_,_,wc⟩:=ref_wr_count hAt hi
 rw [e1] at e1';cases (Value.slice.inj e1').1;have T5:Sat ((RefAt r (takenC s i) gs ⟨.slice aa ws.length ca,fl,false⟩ ⟨.slice a0 s.counts.length c0,lv,.slice ap s.counts.length cp,xs,h⟩).star _) _:=wc 1
 have ok1:ROk (takenC s i) gs ⟨.slice a0 s.counts.length c0,lv,.slice ap s.counts.length cp,xs,h⟩:=rok_counts HOK.out.now (by rw [List.length_set]) (fun c0 hc=>by
  rcases List.mem_or_eq_of_mem_set hc with hc | hc
  · exact HOK.out.now.c0 c0 hc
  · rw [hc];decide)
 have HST2:=hQ ((HST1.out.trans st2).setCell ⟨b,i,none⟩ (.int .i64 1));have HT5:=hQ T5;have HOK1:=hQ ok1;clear hs5 hs6 hs7 hs8 st2 CP HA2 HST1 hAt c1 wc e1' e1 e2 e3 T5 ok1;go_wp2;refine onN_mk ?_;refine wpQ_all _ rfl rfl ?_;simp only [pick,pQ];iterate 2 (go_big_quiet_step (fail))
 refine wpQuiet_nil ⟨?_,?_⟩
 · exact cQ
 refine wpRest_nil ?_;generalize hcj:s.counts.getD i 0=ci0 at*;clear hcj;go_wp2_with fail
 have T5:=HT5.out;have U5:=HST2.out;clear HT5 HST2 q1 q2 q3 k1 f1 zr zb zb2 zb3;generalize w2.setCell ⟨b,i,none⟩ (.int .i64 1)=w5 at*;have elen:(takenC s i).counts.length=s.counts.length:=List.length_set;obtain⟨b,c,b2,c2,b3,c3,⟨e1,e2,e3⟩,⟨_,_,q3⟩,_,_,_,_,zr,_,_,zb3⟩:=ref_all HOK1.out T5 (j:=i) (by rw [elen];exact hi);dsimp only at e1 e2 e3 q3;rw [elen] at e3 q3;cases e3
 obtain⟨_,_,_,_,ap2,cp2,⟨_,_,p3,_⟩,_,_,rd⟩:=ref_rd HOK1.out T5;obtain⟨_,_,b4,g,vi,vd,eb4,hg,hpg,y0,y1,y2,y3,y4⟩:=rd j (by rw [elen];exact hj);rw [elen,q3] at p3;cases p3;cases eb4;have hgm:g∈gs:=List.mem_of_getElem? hg;have hfit:=HOK.out.now.fit g hgm;have epg:pgAt gs ((j:Int)+1)=g:=by unfold pgAt;rw [show ((j:Int)+1).toNat-1=j by omega,List.getD_eq_getElem?_getD,hg];rfl
 have eG:G=g:=HER.out.2.2.symm.trans epg;subst eG;obtain⟨_,_,epv,hit,hby⟩:=id hpg;simp only [pageV,Value.agg.injEq,Array.mk.injEq,List.cons.injEq,and_true,true_and] at epv;obtain⟨rfl,rfl⟩:=epv;obtain⟨a6,d6,rfl,_,_⟩:=items_rd hit;obtain⟨a7,d7,rfl⟩:=bytes_shape hby;obtain⟨b9,d9,epv,hcl,wr8⟩:=ref_wr_page HOK1.out.pgs.len T5 (j:=i) (by rw [hgl0.out];exact hi);cases (Value.slice.inj epv).1
 obtain⟨g0,u0,k0⟩:=hcl 0 (by omega);obtain⟨g1,u1,k1⟩:=hcl 1 (by omega);obtain⟨g2,u2,k2⟩:=hcl 2 (by omega);obtain⟨g3,u3,k3⟩:=hcl 3 (by omega);obtain⟨g4,u4,k4⟩:=hcl 4 (by omega);rw [Nat.add_zero] at g0 k0;have h8:=wr8 G (.slice a6 G.items.length d6) (.slice a7 G.data.length d7);have ok2:=rok_lay HOK1.out i hit hby hfit
 have LV:=hQ (rleave_x r (takenC s i) (gs.set i G) ⟨.slice aa ws.length ca,fl,false⟩ ⟨.slice a0 s.counts.length c0,lv,.slice (some ⟨b3,0,none⟩) s.counts.length cp,xs.set i (.slice a6 G.items.length d6,.slice a7 G.data.length d7),h⟩ ok2 ((j:Int)+1) HCN.out HCB.out _ _ h8.drew);rw [HLG.out,HER.out.1,HER.out.2.1] at LV
 have HST5:=hQ (((((U5.setCell ⟨b3,i*5,none⟩ (.int .i64 G.kind)).setCell ⟨b3,i*5+1,none⟩ (.int .i64 G.level)).setCell ⟨b3,i*5+2,none⟩ (.slice a6 G.items.length d6)).setCell ⟨b3,i*5+3,none⟩ (.slice a7 G.data.length d7)).setCell ⟨b3,i*5+4,none⟩ (.int .i64 G.next)).drew;have HG2:=hQ (And.intro hit (And.intro hby hfit));have zb:=World.block_lt_of_cell? _ _ y0
 clear T5 U5 hcl wr8 h8 ok2 rd epv hg hpg hgm hfit epg hit hby e1 e2;refine wS 69 [0,1,2,3,4,5,6,7,8,9,10,11,12,13,14] [(15,[],[])] ?_;refine wpQ_all _ rfl rfl ?_;simp only [pick,pQ];iterate 15 (go_big_quiet_step (fail))
 refine wpQuiet_nil ?_;refine wpRest_act rfl ?_;go_wp2;refine onN_mk (wpQ_nil ⟨chk_nil,wpRest_nil ?_⟩);go_wp2_with fail
 refine LV.out.mono ?_;rintro e w6 ⟨rfl,st6,ok6,cb6,hs12⟩;have hs13:=refAt_open r T (gs.set i G) ⟨.slice aa ws.length ca,fl,false⟩ ⟨.slice a0 s.counts.length c0,lv,.slice (some ⟨b3,0,none⟩) s.counts.length cp,xs.set i (.slice a6 G.items.length d6,.slice a7 G.data.length d7),h⟩ (OwnL.of1 hs12);have HST6:=hQ (HST5.out.trans st6);have HOK6:=hQ (And.intro ok6 cb6);have HS13:=hQ hs13
 clear hs12 hs13 st6 LV HST5 ok6 cb6 y0 y1 y2 y3 y4 g0 u0 k0 g1 u1 k1 g2 u2 k2 g3 u3 k3 g4 u4 k4 q3 zr zb3 zb
 have hok5:ROk { T with counts:=s.counts } gs ⟨.slice ac s.counts.length cc,lv,.slice aq gs.length cq,xs,h⟩:=by
  rw [HT.out];exact⟨HOK.out.now.pgs,HOK.out.now.ll,HOK.out.now.gl,HOK.out.now.n2,HOK.out.now.c0,HOK.out.now.fit⟩
 have HK5:HOk T (gs.set i G) l ⟨.slice a0 s.counts.length c0,lv,.slice (some ⟨b3,0,none⟩) s.counts.length cp,.slice aa ws.length ca,xs.set i (.slice a6 G.items.length d6,.slice a7 G.data.length d7),h,ws⟩:=by
  have h4:=HOK6.out.1;rw [HT.out] at h4 ⊢;exact⟨h4,HOK.out.was,HOK.out.l⟩
 by_cases he:er=0
 · subst he
   have DD:=hQ (rdid_any r T (gs.set i G) fl l _ _ ⟨.slice a0 s.counts.length c0,lv,.slice (some ⟨b3,0,none⟩) s.counts.length cp,.slice aa ws.length ca,xs.set i (.slice a6 G.items.length d6,.slice a7 G.data.length d7),h,ws⟩ HK5 ⟨.slice ac s.counts.length cc,.slice aq gs.length cq,xs,s.counts,gs⟩ hok5 HLL.out HS13.out.pull8);clear HK5 hok5 HS13;go_wp2_with fail
   refine DD.out.mono ?_;rintro e w7 ⟨rfl,st7,hs14⟩;have HS15:=hQ (OwnL.of1 hs14);have HST7:=hQ (HST6.out.trans st7);clear hs14 st7 DD;go_wp2;go_ret2;refine⟨HST7.out,?_⟩;rw [HP.out];unfold ShGo;rw [HER.out.2.2,HER.out.1,HER.out.2.1];exact .inr ⟨rfl,HOK6.out.2,rfl,HS15.out.end2⟩
 · have hb:(er != 0)=true:=by rw [bne_iff_ne];exact he
   have HEN:=hQ he;have DD:=hQ (rnot_any r T (gs.set i G) fl l _ _ ⟨.slice a0 s.counts.length c0,lv,.slice (some ⟨b3,0,none⟩) s.counts.length cp,.slice aa ws.length ca,xs.set i (.slice a6 G.items.length d6,.slice a7 G.data.length d7),h,ws⟩ HK5 ⟨.slice ac s.counts.length cc,.slice aq gs.length cq,xs,s.counts,gs⟩ hok5 HS13.out.pull8);clear HK5 hok5 HS13 he;go_wp2_with fail
   refine DD.out.mono ?_;rintro e w7 ⟨rfl,st7,hs14⟩;have HS15:=hQ (OwnL.of1 hs14);have HST7:=hQ (HST6.out.trans st7);clear hs14 st7 DD;go_wp2;go_ret2;refine⟨HST7.out,?_⟩;rw [HP.out];unfold ShGo;rw [HER.out.2.2,HER.out.1,HER.out.2.1];have h17:=HS15.out.end2 (A1:=RefH r { T with counts:=s.counts } gs fl l) (A2:=F);rw [HT.out] at h17;exact .inl ⟨HEN.out,rfl,h17⟩
end
end Go.Proofs.YtpfafhklppondaaGreat.Gy
namespace Go.Proofs.YtpfafhklppondaaGreat.Ky
open ChangeShapes WideShapes ChangeAt RowKit Sl Cop M2 P3 X3 Y3 G4 Q2 X2 J4 P5 K6 P4 Q6 X7 Z7 C8 F8 E8 J8 V9 Y9 K9 L9 V8
section
variable(r:Nat)(s:PoolS)(gs:List PageV)(fl:Int)(l:List (List Int × List PageV))
end
end Go.Proofs.YtpfafhklppondaaGreat.Ky
namespace Go.Proofs.YtpfafhklppondaaGreat.Ly
open ChangeShapes WideShapes ChangeAt RowKit Sl Cop M2 P3 X3 G4 Q2 X2 J4 L4 K6 P4 Q6 X7 Z7 C8 F8 V9 Y9 Z9 Fy Z4
theorem rok_sub {s:PoolS}{gs:List PageV}{cv lv pv:Value}{xs:List (Value × Value)}{h h2:Hp}(ok:ROk s gs ⟨cv,lv,pv,xs,h⟩)(hs:h.sub h2):ROk s gs ⟨cv,lv,pv,xs,h2⟩:=
 ⟨⟨ok.pgs.len,fun i hx hl=>by
   obtain⟨p1,p2⟩:=ok.pgs.at' i hx hl
   exact⟨p1.sub hs,p2.sub hs⟩⟩,ok.ll,ok.gl,ok.n2,ok.c0,ok.fit⟩
section
variable(r:Nat)(s:PoolS)(gs:List PageV)(fl:Int)(l:List (List Int × List PageV))
theorem refH_put(y:HX)(ok:HOk s gs l y){g:PageV}{h':Hp}{vi vd:Value}(hi:ItemsIn h' vi g.items)(hd:Bytes h' vd g.data)(hf:Fit g)(j:Nat){F:Pr}{w:World}
 (h:Sat (HParts r s (gs.set j g) fl { y with xs:=y.xs.set j (vi,vd) } ((Pr.own h').star F)) w):Sat ((RefH r s (gs.set j g) fl l).star F) w:=by
 obtain⟨cv,lv,pv,av,xs,hh,ws⟩:=y;have o:=OwnL.in8 h;dsimp only at o;obtain⟨hdj,h2⟩:=(o.pull2 (A1:=Pr.own hh) (A2:=Pr.own h')).own_join;have o2:=OwnL.of1 h2;refine refH_iff.2 ⟨⟨cv,lv,pv,av,xs.set j (vi,vd),hh.un h',ws⟩,⟨?_,fun a ha=>rok_sub (ok.was a ha) (Hp.sub_un_left _ _),ok.l⟩,o2.end8 (A8:=F)⟩
 exact rok_lay (rok_sub ok.now (Hp.sub_un_left _ _)) j (hi.sub (Hp.sub_un_right hdj)) (hd.sub (Hp.sub_un_right hdj)) hf
theorem rwrite_none(n:Int)(ho:ownP s n=false)(h:Hp)(pv:Value)(g:PageV)(hpg:PageIn h pv g)(F:Pr)(w:World)(hF:Sat ((RefH r s gs fl l).star F) w):
 Calls Tryz.prog 138 #[.pointer (some ⟨r,0,none⟩),.int .i64 n,pv] w fun e w'=>e= .returned (.int .i64 15)∧Only w w':=by
 obtain⟨vi,vd,rfl,hi,hd⟩:=hpg;obtain⟨ai,ci,rfl,_,_⟩:=items_rd hi;obtain⟨ad,cd,rfl⟩:=bytes_shape hd;have ho2:Only w (w.alloc (pageC g.kind g.level (.slice ai g.items.length ci) (.slice ad g.data.length cd) g.next)):=(Only.refl w).alloc _;obtain⟨aa,ca,F',hA⟩:=refH_refA hF;have O:=hQ (rown_any r s gs ⟨.slice aa l.length ca,fl,false⟩ n _ _ (hA.only ho2));rw [ho] at O;have HO:=hQ ho2
 clear hF hA ho hi hd ho2;go_enter Tryz.func138,Tryz.ntmps138
 go_wp2_with fail
 refine O.out.mono ?_;rintro e w1 ⟨rfl,rfl⟩;go_wp2;go_ret;exact⟨rfl,HO.out⟩
theorem rwrite_bad(n:Int)(ho:ownP s n=true)(h:Hp)(pv:Value)(g:PageV)(hpg:PageIn h pv g)(hck:checkP g≠0)(F:Pr)(w:World)(hF:Sat ((RefH r s gs fl l).star ((Pr.own h).star F)) w):
 Calls Tryz.prog 138 #[.pointer (some ⟨r,0,none⟩),.int .i64 n,pv] w fun e w'=>e= .returned (.int .i64 (checkP g))∧Only w w':=by
 obtain⟨vi,vd,rfl,hi,hd⟩:=id hpg;obtain⟨ai,ci,rfl,_,_⟩:=items_rd hi;obtain⟨ad,cd,rfl⟩:=bytes_shape hd;have ho2:Only w (w.alloc (pageC g.kind g.level (.slice ai g.items.length ci) (.slice ad g.data.length cd) g.next)):=(Only.refl w).alloc _;have hs:=(OwnL.in2 hF).alloc (pageC g.kind g.level (.slice ai g.items.length ci) (.slice ad g.data.length cd) g.next);obtain⟨aa,ca,F',hA⟩:=refH_refA hF
 have O:=hQ (rown_any r s gs ⟨.slice aa l.length ca,fl,false⟩ n _ _ (hA.only ho2));have CK:=hQ (rcheck_any g h _ hpg _ (hs.le (a:=h)));rw [ho] at O;have c1:=hs.facts;simp only [CellsAt,Nat.reduceAdd,and_true] at c1;have HO:=hQ ho2;obtain⟨er,her⟩:∃er,checkP g=er:=⟨_,rfl⟩;rw [her] at CK hck ⊢;have hb:(er != 0)=true:=by rw [bne_iff_ne];exact hck
 clear hF hA ho hi hd ho2 hs hpg her hck;go_enter Tryz.func138,Tryz.ntmps138
 go_wp2_with fail
 refine O.out.mono ?_;rintro e w1 ⟨rfl,rfl⟩;go_wp2_with fail
 refine CK.out.mono ?_;rintro e w1 ⟨rfl,ho3⟩;have HO3:=hQ ho3;clear ho3 c1 CK;go_wp2;go_ret;exact⟨rfl,HO.out.trans HO3.out⟩
end
end Go.Proofs.YtpfafhklppondaaGreat.Ly
namespace Go.Proofs.YtpfafhklppondaaGreat.My
open ChangeShapes WideShapes ChangeAt RowKit Sl Cop M2 P3 X3 G4 Q2 X2 J4 L4 K6 P4 Q6 X7 Z7 C8 F8 V9 Y9 Z9 Fy Z4 Ly K9
section
variable(r:Nat)(s:PoolS)(gs:List PageV)(fl:Int)(l:List (List Int × List PageV))
theorem rwrite_ok(j:Nat)(hj:j<s.counts.length)(ho:ownP s ((j:Int)+1)=true)(h:Hp)(pv:Value)(g:PageV)(hpg:PageIn h pv g)(hck:checkP g=0)(hl:l.length≤1048576)(F:Pr)(w:World)(hF:Sat ((RefH r s gs fl l).star ((Pr.own h).star F)) w):
 Calls Tryz.prog 138 #[.pointer (some ⟨r,0,none⟩),.int .i64 ((j:Int)+1),pv] w fun e w'=>e= .returned (.int .i64 0)∧Stays w w'∧
  Sat ((RefH r s (gs.set j g) fl (l++ [(s.counts,gs)])).star ((Pr.own h).star F)) w':=by
 obtain⟨vi,vd,rfl,hi,hd⟩:=id hpg;obtain⟨ai,ci,rfl,_,_⟩:=items_rd hi;obtain⟨ad,cd,rfl⟩:=bytes_shape hd;have ho2:Only w (w.alloc (pageC g.kind g.level (.slice ai g.items.length ci) (.slice ad g.data.length cd) g.next)):=(Only.refl w).alloc _;have hs:=(OwnL.in2 hF).alloc (pageC g.kind g.level (.slice ai g.items.length ci) (.slice ad g.data.length cd) g.next);obtain⟨aa',ca',F',hA⟩:=refH_refA hF
 have O:=hQ (rown_any r s gs ⟨.slice aa' l.length ca',fl,false⟩ ((j:Int)+1) _ _ (hA.only ho2));have CK:=hQ (rcheck_any g h _ hpg _ (hs.le (a:=h)));rw [ho] at O;rw [hck] at CK;have c1:=hs.facts;simp only [CellsAt,Nat.reduceAdd,and_true] at c1;have HO:=hQ ho2;have HFT:=hQ (fit_of_check hck);have HPG:=hQ hpg;have HS:=hQ hs;have HLL:=hQ hl;have HJ:=hQ hj
 have hn2:(s.counts.length:Int)≤65536:=by
  obtain⟨y,ok,_⟩:=refH_iff.1 hF;have:=ok.now.n2
  omega
 clear hF hA ho hi hd ho2 hs hpg hck hl;go_enter Tryz.func138,Tryz.ntmps138
 go_wp2_with fail
 refine O.out.mono ?_;rintro e w1 ⟨rfl,rfl⟩;go_wp2_with fail
 refine CK.out.mono ?_;rintro e w1 ⟨rfl,ho3⟩;have hs1:=HS.out.ext ho3.heap;have AC:=hQ (ract_any r s gs fl l _ _ HLL.out (hs1.pull1 (A1:=RefH r s gs fl l)));have HST1:=hQ (HO.out.st.trans ho3.st);clear ho3 c1 CK O hs1 HS HO;go_wp2_with fail
 refine AC.out.mono ?_;rintro e w2 ⟨rfl,st2,hs2⟩;obtain⟨⟨cv,lv,pv,av,xs,hh,ws⟩,ok,hs3⟩:=refH_iff.1 hs2;have hs4:=(OwnL.in7 hs3).flat;dsimp only at hs4;have hAt:=refAt_close r s gs ⟨av,fl,false⟩ ⟨cv,lv,pv,xs,hh⟩ hs4.pull5;obtain⟨b,c,b2,c2,b3,c3,⟨e1,e2,e3⟩,⟨q1,q2,q3⟩,_,_,_,_,zr,_,_,zb3⟩:=ref_all ok.now hAt (j:=j) hj;dsimp only at e1 e2 e3;subst e1 e2 e3;have c1:=hs4.facts
 simp only [CellsAt,Nat.reduceAdd,and_true] at c1;have CP:=hQ (copypage_any h _ g HPG.out (by have:=HFT.out.n;omega) (fun y hy=>by have:=fit_keys HFT.out y hy;omega) (by have:=HFT.out.d;omega) _ w2.drew (hs4.drew.pull1 (A1:=Pr.own h)));have HOK:=hQ ok;have HST2:=hQ (HST1.out.trans st2);clear hs2 hs3 hs4 hAt ok st2 AC HST1;go_wp2_with fail
 refine wS 28 [0,1,2,3,4,5,6] [(7,[8],[0,1,2,3,4,5]),(9,[],[])] ?_;refine wpQ_all _ rfl rfl ?_;simp only [pick,pQ];iterate 7 (go_big_quiet_step (fail))
 refine wpQuiet_nil ?_;refine wpRest_act rfl ?_;go_wp2_with fail
 refine CP.out.mono ?_;rintro e w6 ⟨pv,h',rfl,hpv,hs7,st7⟩;obtain⟨vi,vd,rfl,hit,hby⟩:=id hpv;obtain⟨a8,c8,rfl,_,_⟩:=items_rd hit;obtain⟨a9,c9,rfl⟩:=bytes_shape hby;have hs8:=OwnL.of2 hs7;have hAt:=refAt_close r s gs ⟨av,fl,false⟩ ⟨.slice (some ⟨b,0,none⟩) s.counts.length c,.slice (some ⟨b2,0,none⟩) s.counts.length c2,.slice (some ⟨b3,0,none⟩) s.counts.length c3,xs,hh⟩ hs8.pull5
 obtain⟨b9,d9,epv,hcl,wr8⟩:=ref_wr_page HOK.out.now.pgs.len hAt (j:=j) (by rw [HOK.out.now.gl];exact HJ.out);cases (Value.slice.inj epv).1;obtain⟨g0,u0,k0⟩:=hcl 0 (by omega);obtain⟨g1,u1,k1⟩:=hcl 1 (by omega);obtain⟨g2,u2,k2⟩:=hcl 2 (by omega);obtain⟨g3,u3,k3⟩:=hcl 3 (by omega);obtain⟨g4,u4,k4⟩:=hcl 4 (by omega);rw [Nat.add_zero] at g0 k0
 have W8:=hQ (wr8 g (.slice a8 g.items.length c8) (.slice a9 g.data.length c9));have HST7:=hQ (HST2.out.drew.trans st7);have HIB:=hQ (And.intro hit hby);clear c1 q1 q2 q3 zr zb3;have c1:=hs8.facts;simp only [CellsAt,Nat.reduceAdd,and_true] at c1;have zb3:=World.block_lt_of_cell? _ _ k0;clear hs7 hs8 hAt wr8 hcl hpv hit hby CP epv st7;go_wp2;refine onN_mk ?_;refine wpQ_all _ rfl rfl ?_
 simp only [pick,pQ];iterate 1 (go_big_quiet_step (fail))
 refine wpQuiet_nil ⟨?_,?_⟩
 · exact cQ
 refine wpRest_act rfl ?_;go_wp2;refine onN_mk (wpQ_nil ⟨chk_nil,wpRest_nil ?_⟩);go_wp2;go_ret;refine⟨rfl,((((HST7.out.setCell _ _).setCell _ _).setCell _ _).setCell _ _).setCell _ _,?_⟩
 have hs9:=refAt_open r s (gs.set j g) ⟨av,fl,false⟩ ⟨.slice (some ⟨b,0,none⟩) s.counts.length c,.slice (some ⟨b2,0,none⟩) s.counts.length c2,.slice (some ⟨b3,0,none⟩) s.counts.length c3,xs.set j (.slice a8 g.items.length c8,.slice a9 g.data.length c9),hh⟩ (OwnL.of1 W8.out)
 have h10:=OwnL.of1 (refH_put r s gs fl _ ⟨.slice (some ⟨b,0,none⟩) s.counts.length c,.slice (some ⟨b2,0,none⟩) s.counts.length c2,.slice (some ⟨b3,0,none⟩) s.counts.length c3,av,xs,hh,ws⟩ HOK.out HIB.out.1 HIB.out.2 HFT.out j hs9.pull8);exact h10.end3 (A3:=F)
end
end Go.Proofs.YtpfafhklppondaaGreat.My
namespace Go.Proofs.YtpfafhklppondaaGreat.Ny
open ChangeShapes WideShapes ChangeAt RowKit Sl Cop M2 P3 X3 G4 Q2 X2 J4 L4 K6 P4 Q6 X7 Z7 C8 F8 V9 Y9 Z9 Fy Z4 Ly K9 J8 Gy
section
variable(r:Nat)(s:PoolS)(gs:List PageV)(fl:Int)(l:List (List Int × List PageV))
theorem rmakeH_ok(j:Nat)(hj:j<s.counts.length)(hm1:s.state ((j:Int)+1)=1)(hle:∀k,s.state k=1→(j:Int)+1≤k)(h:Hp)(pv:Value)(g:PageV)(hpg:PageIn h pv g)(hck:checkP g=0)(hl:l.length≤1048576)(F:Pr)(w:World)(hF:Sat ((RefH r s gs fl l).star ((Pr.own h).star F)) w):
 Calls Tryz.prog 136 #[.pointer (some ⟨r,0,none⟩),pv] w fun e w'=>e= .returned (.tuple #[.int .i64 ((j:Int)+1),.int .i64 0])∧Stays w w'∧
  Sat ((RefH r (takenC s j) (gs.set j g) fl (l++ [(s.counts,gs)])).star ((Pr.own h).star F)) w':=by
 obtain⟨vi,vd,rfl,hi,hd⟩:=id hpg;obtain⟨ai,ci,rfl,_,_⟩:=items_rd hi;obtain⟨ad,cd,rfl⟩:=bytes_shape hd;have ho2:Only w (w.alloc (pageC g.kind g.level (.slice ai g.items.length ci) (.slice ad g.data.length cd) g.next)):=(Only.refl w).alloc _;have hs:=(OwnL.in2 hF).alloc (pageC g.kind g.level (.slice ai g.items.length ci) (.slice ad g.data.length cd) g.next)
 have CK:=hQ (rcheck_any g h _ hpg _ (hs.le (a:=h)));rw [hck] at CK;have c1:=hs.facts;simp only [CellsAt,Nat.reduceAdd,and_true] at c1;have HO:=hQ ho2;have HFT:=hQ (fit_of_check hck);have HPG:=hQ hpg;have HS:=hQ hs;have HLL:=hQ hl;have HJ:=hQ hj;have HM:=hQ (And.intro hm1 hle);have hm0:((j:Int)+1 == 0)=false:=beq_eq_false_iff_ne.2 (by omega)
 have hn2:(s.counts.length:Int)≤65536:=by
  obtain⟨y,ok,_⟩:=refH_iff.1 hF;have:=ok.now.n2
  omega
 clear hF hi hd ho2 hs hpg hck hl hm1 hle;go_enter Tryz.func136,Tryz.ntmps136
 go_wp2_with fail
 refine CK.out.mono ?_;rintro e w1 ⟨rfl,ho3⟩;have hs1:=HS.out.ext ho3.heap;obtain⟨aa',ca',F',hA⟩:=refH_refA (hs1.pull1 (A1:=RefH r s gs fl l));have LO:=hQ (rlowest_any r s gs ⟨.slice aa' l.length ca',fl,false⟩ _ _ hA);have AC:=hQ (ract_any r s gs fl l _ _ HLL.out (hs1.pull1 (A1:=RefH r s gs fl l)));have HST1:=hQ (HO.out.st.trans ho3.st);clear ho3 c1 CK hs1 HS HO hA;go_wp2_with fail
 refine LO.out.mono ?_;rintro e w0 ⟨rfl,m,rfl,hmm⟩
 have hmi:m=(j:Int)+1:=by
  rcases hmm with⟨_,hno⟩ | ⟨h1,h2⟩
  · exact absurd HM.out.1 (hno _)
  · have:=h2 _ HM.out.1
    have:=HM.out.2 _ h1
    omega
 clear hmm;subst hmi;go_wp2_with fail
 refine AC.out.mono ?_;rintro e w2 ⟨rfl,st2,hs2⟩;obtain⟨⟨cv,lv,pv,av,xs,hh,ws⟩,ok,hs3⟩:=refH_iff.1 hs2;have hs4:=(OwnL.in7 hs3).flat;dsimp only at hs4;have hAt0:=refAt_close r s gs ⟨av,fl,false⟩ ⟨cv,lv,pv,xs,hh⟩ hs4.pull5;obtain⟨b,c,b2,c2,b3,c3,⟨e1,e2,e3⟩,⟨q1,q2,q3⟩,⟨k1,f1⟩,_,_,_,zr,zb,zb2,zb3⟩:=ref_all ok.now hAt0 (j:=j) hj;obtain⟨b',c',e1',_,_,wc⟩:=ref_wr_count hAt0 hj;dsimp only at e1 e2 e3 e1'
 rw [e1] at e1';cases (Value.slice.inj e1').1;subst e1 e2 e3;have T5:Sat ((RefAt r (takenC s j) gs ⟨av,fl,false⟩ ⟨.slice (some ⟨b,0,none⟩) s.counts.length c,.slice (some ⟨b2,0,none⟩) s.counts.length c2,.slice (some ⟨b3,0,none⟩) s.counts.length c3,xs,hh⟩).star _) _:=wc 1
 have hs5:=refAt_open r (takenC s j) gs ⟨av,fl,false⟩ ⟨.slice (some ⟨b,0,none⟩) s.counts.length c,.slice (some ⟨b2,0,none⟩) s.counts.length c2,.slice (some ⟨b3,0,none⟩) s.counts.length c3,xs,hh⟩ (OwnL.of1 T5)
 have ok1:HOk (takenC s j) gs (l++ [(s.counts,gs)]) ⟨.slice (some ⟨b,0,none⟩) s.counts.length c,.slice (some ⟨b2,0,none⟩) s.counts.length c2,.slice (some ⟨b3,0,none⟩) s.counts.length c3,av,xs,hh,ws⟩:=⟨rok_counts ok.now (by rw [List.length_set]) (fun c0 hc=>by
  rcases List.mem_or_eq_of_mem_set hc with hc | hc
  · exact ok.now.c0 c0 hc
  · rw [hc];decide),ok.was,ok.l⟩
 have HST2:=hQ ((HST1.out.trans st2).setCell ⟨b,j,none⟩ (.int .i64 1));have HS5:=hQ hs5;have HOK:=hQ ok1;clear hs2 hs3 hs4 hAt0 ok ok1 st2 AC HST1 wc e1' T5 hs5 LO;generalize s.counts.getD j 0=cj at*;go_wp2_with fail
 have U5:=HST2.out;have hs4:=HS5.out;clear HST2 HS5 q1 q2 q3 k1 f1 zr zb zb2 zb3;generalize w2.setCell ⟨b,j,none⟩ (.int .i64 1)=w5 at*;have elen:(takenC s j).counts.length=s.counts.length:=List.length_set
 have hAt:=refAt_close r (takenC s j) gs ⟨av,fl,false⟩ ⟨.slice (some ⟨b,0,none⟩) s.counts.length c,.slice (some ⟨b2,0,none⟩) s.counts.length c2,.slice (some ⟨b3,0,none⟩) s.counts.length c3,xs,hh⟩ hs4.pull5;obtain⟨_,_,_,_,_,_,⟨_,_,e3⟩,⟨_,_,q3⟩,_,_,_,_,zr,_,_,zb3⟩:=ref_all HOK.out.now hAt (j:=j) (by rw [elen];exact hj);dsimp only at e3;rw [elen] at e3 q3;cases e3;have c1:=hs4.facts
 simp only [CellsAt,Nat.reduceAdd,and_true] at c1;have CP:=hQ (copypage_any h _ g HPG.out (by have:=HFT.out.n;omega) (fun y hy=>by have:=fit_keys HFT.out y hy;omega) (by have:=HFT.out.d;omega) _ w5.drew (hs4.drew.pull1 (A1:=Pr.own h)));have HST2:=hQ U5;clear hs4 hAt U5;refine wS 36 [0,1,2,3,4,5,6] [(7,[8],[0,1,2,3,4,5]),(9,[],[])] ?_;refine wpQ_all _ rfl rfl ?_;simp only [pick,pQ]
 iterate 7 (go_big_quiet_step (fail))
 refine wpQuiet_nil ?_;refine wpRest_act rfl ?_;go_wp2_with fail
 refine CP.out.mono ?_;rintro e w6 ⟨pv,h',rfl,hpv,hs7,st7⟩;obtain⟨vi,vd,rfl,hit,hby⟩:=id hpv;obtain⟨a8,c8,rfl,_,_⟩:=items_rd hit;obtain⟨a9,c9,rfl⟩:=bytes_shape hby;have hs8:=OwnL.of2 hs7;have hAt:=refAt_close r (takenC s j) gs ⟨av,fl,false⟩ ⟨.slice (some ⟨b,0,none⟩) s.counts.length c,.slice (some ⟨b2,0,none⟩) s.counts.length c2,.slice (some ⟨b3,0,none⟩) s.counts.length c3,xs,hh⟩ hs8.pull5
 obtain⟨b9,d9,epv,hcl,wr8⟩:=ref_wr_page HOK.out.now.pgs.len hAt (j:=j) (by rw [HOK.out.now.gl,elen];exact HJ.out);cases (Value.slice.inj epv).1;obtain⟨g0,u0,k0⟩:=hcl 0 (by omega);obtain⟨g1,u1,k1⟩:=hcl 1 (by omega);obtain⟨g2,u2,k2⟩:=hcl 2 (by omega);obtain⟨g3,u3,k3⟩:=hcl 3 (by omega);obtain⟨g4,u4,k4⟩:=hcl 4 (by omega);rw [Nat.add_zero] at g0 k0
 have W8:=hQ (wr8 g (.slice a8 g.items.length c8) (.slice a9 g.data.length c9));have HST7:=hQ (HST2.out.drew.trans st7);have HIB:=hQ (And.intro hit hby);clear c1 q3 zr zb3;have c1:=hs8.facts;simp only [CellsAt,Nat.reduceAdd,and_true] at c1;have zb3:=World.block_lt_of_cell? _ _ k0;clear hs7 hs8 hAt wr8 hcl hpv hit hby CP epv st7;go_wp2;refine onN_mk ?_;refine wpQ_all _ rfl rfl ?_
 simp only [pick,pQ];iterate 1 (go_big_quiet_step (fail))
 refine wpQuiet_nil ⟨?_,?_⟩
 · exact cQ
 refine wpRest_act rfl ?_;go_wp2;refine onN_mk (wpQ_nil ⟨chk_nil,wpRest_nil ?_⟩);go_wp2;go_ret2;refine⟨rfl,((((HST7.out.setCell _ _).setCell _ _).setCell _ _).setCell _ _).setCell _ _,?_⟩
 have hs9:=refAt_open r (takenC s j) (gs.set j g) ⟨av,fl,false⟩ ⟨.slice (some ⟨b,0,none⟩) s.counts.length c,.slice (some ⟨b2,0,none⟩) s.counts.length c2,.slice (some ⟨b3,0,none⟩) s.counts.length c3,xs.set j (.slice a8 g.items.length c8,.slice a9 g.data.length c9),hh⟩ (OwnL.of1 W8.out)
 have h10:=OwnL.of1 (refH_put r (takenC s j) gs fl _ ⟨.slice (some ⟨b,0,none⟩) s.counts.length c,.slice (some ⟨b2,0,none⟩) s.counts.length c2,.slice (some ⟨b3,0,none⟩) s.counts.length c3,av,xs,hh,ws⟩ HOK.out HIB.out.1 HIB.out.2 HFT.out j hs9.pull8);exact h10.end3 (A3:=F)
end
end Go.Proofs.YtpfafhklppondaaGreat.Ny
namespace Go.Proofs.YtpfafhklppondaaGreat.Py
open ChangeShapes WideShapes ChangeAt RowKit Sl Cop M2 P3 X3 G4 Q2 X2 J4 L4 K6 P4 Q6 X7 V9 Y9 Z4 K9
section
variable(r:Nat)(s:PoolS)(gs:List PageV)(fl:Int)(l:List (List Int × List PageV))
theorem rmakeH_bad(h:Hp)(pv:Value)(g:PageV)(hpg:PageIn h pv g)(hck:checkP g≠0)(F:Pr)(w:World)(hF:Sat ((RefH r s gs fl l).star ((Pr.own h).star F)) w):
 Calls Tryz.prog 136 #[.pointer (some ⟨r,0,none⟩),pv] w fun e w'=>e= .returned (.tuple #[.int .i64 0,.int .i64 (checkP g)])∧Only w w':=by
 obtain⟨vi,vd,rfl,hi,hd⟩:=id hpg;obtain⟨ai,ci,rfl,_,_⟩:=items_rd hi;obtain⟨ad,cd,rfl⟩:=bytes_shape hd;have ho2:Only w (w.alloc (pageC g.kind g.level (.slice ai g.items.length ci) (.slice ad g.data.length cd) g.next)):=(Only.refl w).alloc _;have hs:=(OwnL.in2 hF).alloc (pageC g.kind g.level (.slice ai g.items.length ci) (.slice ad g.data.length cd) g.next)
 have CK:=hQ (rcheck_any g h _ hpg _ (hs.le (a:=h)));have c1:=hs.facts;simp only [CellsAt,Nat.reduceAdd,and_true] at c1;have HO:=hQ ho2;obtain⟨er,her⟩:∃er,checkP g=er:=⟨_,rfl⟩;rw [her] at CK hck ⊢;have hb:(er != 0)=true:=by rw [bne_iff_ne];exact hck
 clear hF hi hd ho2 hs hpg her hck;go_enter Tryz.func136,Tryz.ntmps136
 go_wp2_with fail
 refine CK.out.mono ?_;rintro e w1 ⟨rfl,ho3⟩;have HO3:=hQ ho3;clear ho3 c1 CK;go_wp2;go_ret2;exact⟨rfl,HO.out.trans HO3.out⟩
theorem rmakeH_full(h:Hp)(pv:Value)(g:PageV)(hpg:PageIn h pv g)(hck:checkP g=0)(hno:∀m,s.state m≠1)(F:Pr)(w:World)(hF:Sat ((RefH r s gs fl l).star ((Pr.own h).star F)) w):
 Calls Tryz.prog 136 #[.pointer (some ⟨r,0,none⟩),pv] w fun e w'=>e= .returned (.tuple #[.int .i64 0,.int .i64 12])∧Only w w':=by
 obtain⟨vi,vd,rfl,hi,hd⟩:=id hpg;obtain⟨ai,ci,rfl,_,_⟩:=items_rd hi;obtain⟨ad,cd,rfl⟩:=bytes_shape hd;have ho2:Only w (w.alloc (pageC g.kind g.level (.slice ai g.items.length ci) (.slice ad g.data.length cd) g.next)):=(Only.refl w).alloc _;have hs:=(OwnL.in2 hF).alloc (pageC g.kind g.level (.slice ai g.items.length ci) (.slice ad g.data.length cd) g.next)
 have CK:=hQ (rcheck_any g h _ hpg _ (hs.le (a:=h)));rw [hck] at CK;have c1:=hs.facts;simp only [CellsAt,Nat.reduceAdd,and_true] at c1;have HS:=hQ hs;have HO:=hQ ho2;have HNO:=hQ hno;clear hF hi hd ho2 hs hpg hck hno;go_enter Tryz.func136,Tryz.ntmps136
 go_wp2_with fail
 refine CK.out.mono ?_;rintro e w1 ⟨rfl,ho3⟩;have hs1:=HS.out.ext ho3.heap;obtain⟨aa',ca',F',hA⟩:=refH_refA (hs1.pull1 (A1:=RefH r s gs fl l));have LO:=hQ (rlowest_any r s gs ⟨.slice aa' l.length ca',fl,false⟩ _ _ hA);have HO3:=hQ ho3;clear ho3 c1 CK hs1 HS hA;go_wp2_with fail
 refine LO.out.mono ?_;rintro e w0 ⟨rfl,m,rfl,(⟨rfl,_⟩ | ⟨hm,_⟩)⟩
 · go_wp2
   go_ret2;exact⟨rfl,HO.out.trans HO3.out⟩
 · exact absurd hm (HNO.out m)
end
end Go.Proofs.YtpfafhklppondaaGreat.Py
namespace Go.Proofs.YtpfafhklppondaaGreat.Qy
open ChangeShapes WideShapes ChangeAt RowKit Sl Cop M2 P3 X3 Y3 G4 Q2 X2 J4 K6 P4 Q6 X7 V9 Y9 K9 L9
section
variable(r:Nat)(s:PoolS)(gs:List PageV)(fl:Int)(l:List (List Int × List PageV))
theorem refA_refH {F:Pr}{w:World}(o:Sat ((RefA r s gs ⟨.slice none 0 0,fl,false⟩).star F) w):Sat ((RefH r s gs fl []).star F) w:=by
 obtain⟨x,ok,h⟩:=refA_iff.1 o;refine refH_iff.2 ⟨⟨x.cv,x.lv,x.pv,.slice none 0 0,x.xs,x.h,[]⟩,⟨ok,fun a ha=>absurd ha (by simp),rfl⟩,h.perm ?_⟩;unfold RefAt;simp only [HParts,List.length_nil,List.flatMap_nil,big_nil,Row.nil,Pr.star_assoc,Pr.emp_star]
end
end Go.Proofs.YtpfafhklppondaaGreat.Qy
namespace Go.Proofs.YtpfafhklppondaaGreat.Ry
open ChangeShapes WideShapes ChangeAt RowKit Sl Cop M2 P3 X3 G4 Q2 X2 J4 L4 V4 Y4 B5 D5 E5 K5 K6 L6 P4 Q6 Y6 X7 Z7 V9 Y9
theorem rread_x(r:Nat)(s:PoolS)(gs:List PageV)(hush:RTail)(x:RX)(ok:ROk s gs x)(n:Int)(F:Pr)(w:World)(h:Sat ((RefAt r s gs hush x).star F) w)(h0:s.count n≠0):
 Calls Tryz.prog 65 #[.pointer (some ⟨r,0,none⟩),.int .i64 n] w fun e w'=>
  Stays w w'∧∃pv,e= .returned (.tuple #[pv,.int .i64 0])∧∃h',PageIn h' pv (pgAt gs n)∧Sat ((Pr.own h').star ((RefAt r s gs hush x).star F)) w':=by
 have ht:s.there n:=by
  by_cases ht:s.there n
  · exact ht
  · exact absurd (by unfold PoolS.count;rw [if_neg ht]) h0
 have hF:=refAt_refA r s gs hush ok h;have ho:Only w (w.alloc (pageC 0 0 (.slice none 0 0) (.slice none 0 0) 0)):=(Only.refl w).alloc _
 have hpos:decide (0<s.count n)=true:=by
  rw [decide_eq_true_eq];obtain⟨j,rfl,hj⟩:=there_idx ht;rw [count_idx hj] at h0 ⊢;have:=ok.c0 s.counts[j] (List.getElem_mem hj)
  simp [hj] at h0 ⊢
  omega
 have C:=hQ (rthere_any r s gs hush n _ _ (hF.only ho));rw [hpos] at C;obtain⟨j,rfl,hj⟩:=there_idx ht;obtain⟨ac,cc,al,cl,ap,cp,⟨q1,q2,q3,_⟩,z,_,rd⟩:=ref_rd ok h;obtain⟨_,_,b,g,vi,vd,rfl,hg,hpg,c0,c1,c2,c3,c4⟩:=rd j hj;have zb:=World.block_lt_of_cell? _ _ c0;have hn2:=ok.n2;have hgm:g∈gs:=List.mem_of_getElem? hg;have hfit:=ok.fit g hgm
 have epg:pgAt gs ((j:Int)+1)=g:=by unfold pgAt;rw [show ((j:Int)+1).toNat-1=j by omega,List.getD_eq_getElem?_getD,hg];rfl
 rw [epg];obtain⟨_,_,epv,hit,hby⟩:=id hpg;simp only [pageV,Value.agg.injEq,Array.mk.injEq,List.cons.injEq,and_true,true_and] at epv;obtain⟨rfl,rfl⟩:=epv;obtain⟨a1,d1,rfl,_,_⟩:=items_rd hit;obtain⟨a2,d2,rfl⟩:=bytes_shape hby
 have h2:=(h.alloc (pageC 0 0 (.slice none 0 0) (.slice none 0 0) 0)).perm (B:=(Pr.own x.h).star ((Pr.pts w.heap.size (pageC 0 0 (.slice none 0 0) (.slice none 0 0) 0)).star ((Pr.pts r (refC s.refs x.cv x.lv x.pv hush)).star ((IntsRow x.cv s.counts).star ((BoolsRow x.lv s.last).star ((PgRow x.pv x.xs gs).star F)))))) (by unfold RefAt;ac_rfl)
 have D:=hQ (copypage_any x.h _ g hpg (by have:=hfit.n;omega) (fun y hy=>by have:=fit_keys hfit y hy;omega) (by have:=hfit.d;omega) _ _ h2);have HO:=hQ ho;have OK:=hQ ok;clear rd h hF h2 hit hby hpg ok ho ht h0 hpos hg hgm hfit epg;go_enter Tryz.func65,Tryz.ntmps65
 go_wp2_with fail
 refine C.out.mono ?_;rintro e w1 ⟨rfl,rfl⟩;go_wp2_with fail
 refine D.out.mono ?_;rintro e w1 ⟨pv2,h',rfl,hp',h3,hst⟩;obtain⟨pk,pl,ai,mi,ci,ad,md,cd,nx,rfl⟩:=page_shape hp';have h4:=h3.perm (B:=(Pr.pts w.heap.size (pageC 0 0 (.slice none 0 0) (.slice none 0 0) 0)).star ((Pr.own h').star ((RefAt r s gs hush x).star F))) (by unfold RefAt;ac_rfl);obtain⟨f0,f1,f2,f3,f4,⟨z0,z1,z2,z3,z4⟩,zz⟩:=pts5 h4
 have s6:=((((h4.setCell (i:=0) (.int .i64 pk)).setCell (i:=1) (.int .i64 pl)).setCell (i:=2) (.slice ai mi ci)).setCell (i:=3) (.slice ad md cd)).setCell (i:=4) (.int .i64 nx);have s7:Sat ((Pr.pts w.heap.size (pageC pk pl (.slice ai mi ci) (.slice ad md cd) nx)).star ((Pr.own h').star ((RefAt r s gs hush x).star F))) _:=s6;have S7:=hQ s7;have HST:=hQ (HO.out.st.trans hst);have HP:=hQ hp'
 clear h3 h4 s6 s7 hst hp' C D;go_wp2;refine bodyPost_ret (results_cell_row_tmp rfl _ _ w.heap.size _ rfl (run_loadVar_row _ w.heap.size _ _ _ _ _ S7.out.pts_heap Tryz.underlying37 rfl infoPage)) rfl ?_;exact⟨((((HST.out.setCell _ _).setCell _ _).setCell _ _).setCell _ _).setCell _ _,_,rfl,h',HP.out,S7.out.right⟩
theorem rreadH_some(r:Nat)(s:PoolS)(gs:List PageV)(fl:Int)(l:List (List Int × List PageV))(n:Int)(h0:s.count n≠0)(F:Pr)(w:World)(hF:Sat ((RefH r s gs fl l).star F) w):
 Calls Tryz.prog 65 #[.pointer (some ⟨r,0,none⟩),.int .i64 n] w fun e w'=>
  Stays w w'∧∃pv,e= .returned (.tuple #[pv,.int .i64 0])∧∃h',PageIn h' pv (pgAt gs n)∧Sat ((Pr.own h').star ((RefH r s gs fl l).star F)) w':=by
 obtain⟨y,ok,h⟩:=refH_iff.1 hF;rw [hparts_at] at h;refine(rread_x r s gs ⟨y.av,fl,false⟩ y.rx ok.now n _ w h h0).mono ?_;rintro e w' ⟨st,pv,rfl,h',hp,hs⟩;refine⟨st,pv,rfl,h',hp,?_⟩;rw [Pr.left_comm];refine refH_iff.2 ⟨y,ok,?_⟩;rw [hparts_at];exact hs.perm (by ac_rfl)
theorem rreadH_none(r:Nat)(s:PoolS)(gs:List PageV)(fl:Int)(l:List (List Int × List PageV))(n:Int)(h0:s.count n=0)(F:Pr)(w:World)(hF:Sat ((RefH r s gs fl l).star F) w):
 Calls Tryz.prog 65 #[.pointer (some ⟨r,0,none⟩),.int .i64 n] w fun e w'=>e= .returned (.tuple #[zeroPage,.int .i64 15])∧Only w w':=by
 obtain⟨aa,ca,F',hA⟩:=refH_refA hF;exact rread_none r s gs ⟨.slice aa l.length ca,fl,false⟩ n _ _ hA h0
end Go.Proofs.YtpfafhklppondaaGreat.Ry
namespace Go.Proofs.YtpfafhklppondaaGreat.Sy
open ChangeShapes WideShapes ChangeAt RowKit Sl Cop M2 P3 X3 G4 Q2 X2 J4 L4 K6 P4 Q6 X7 Z7 V9
theorem rcount_any(r:Nat)(s:PoolS)(gs:List PageV)(hush:RTail)(n:Int)(F:Pr)(w:World)(hF:Sat ((RefA r s gs hush).star F) w):
 Calls Tryz.prog 81 #[.pointer (some ⟨r,0,none⟩),.int .i64 n] w fun e w'=>e= .returned (.int .i64 (s.count n))∧w=w':=by
 obtain⟨x,ok,h⟩:=refA_iff.1 hF;obtain⟨ac,cc,al,cl,ap,cp,⟨q1,q2,q3,_⟩,z,_,rd⟩:=ref_rd ok h;have IS:=hQ (ris_any r s gs hush n F w hF);have hn2:=ok.n2;by_cases ht:s.there n
 · rw [decide_eq_true ht] at IS
   obtain⟨j,rfl,hj⟩:=there_idx ht;obtain⟨⟨b,rfl,c0⟩,_⟩:=rd j hj;rw [count_idx hj];have zb:=World.block_lt_of_cell? _ _ c0;generalize s.counts.getD j 0=c at*;clear rd hF h ok ht;go_enter Tryz.func81,Tryz.ntmps81
   go_wp2_with fail
   refine IS.out.mono ?_;rintro e w1 ⟨rfl,rfl⟩;go_wp2;go_ret;exact⟨rfl,rfl⟩
 · rw [decide_eq_false ht] at IS
   have e:s.count n=0:=by unfold PoolS.count;rw [if_neg ht]
   rw [e];clear rd hF h ok ht e;go_enter Tryz.func81,Tryz.ntmps81
   go_wp2_with fail
   refine IS.out.mono ?_;rintro e w1 ⟨rfl,rfl⟩;go_wp2;go_ret;exact⟨rfl,rfl⟩
abbrev refO(r:Nat)(refs:Int)(y:HX)(fl:Int):Pr:=Pr.pts r (refHC refs y.cv y.lv y.pv y.av fl)
def RRest(s:PoolS)(gs:List PageV)(y:HX):Pr:=(BoolsRow y.lv s.last).star ((PgRow y.pv y.xs gs).star ((Pr.own y.h).star ((Row 162 2 y.av y.ws.length (y.ws.flatMap wasCells)).star (big WasRow y.ws))))
theorem refH_open {r:Nat}{s:PoolS}{gs:List PageV}{fl:Int}{l:List (List Int × List PageV)}{L R:List Pr}{w:World}(o:OwnL L w) [Pull (RefH r s gs fl l) L R]:∃y,HOk s gs l y∧OwnL (refO r s.refs y fl :: IntsRow y.cv s.counts :: RRest s gs y :: R) w:=by
 obtain⟨y,ok,h⟩:=refH_iff.1 (o.pull1 (A1:=RefH r s gs fl l));exact⟨y,ok,⟨h.perm (by unfold RRest;simp only [HParts,starL,Pr.star_assoc])⟩⟩
theorem refH_shut {r:Nat}{s:PoolS}{gs:List PageV}{fl:Int}{l:List (List Int × List PageV)}{y:HX}(ok:HOk s gs l y){L R1 R2 R3:List Pr}{w:World}(o:OwnL L w) [Pull (refO r s.refs y fl) L R1] [Pull (IntsRow y.cv s.counts) R1 R2] [Pull (RRest s gs y) R2 R3]:OwnL (RefH r s gs fl l :: R3) w:=
 ⟨refH_iff.2 ⟨y,ok,(o.pull3 (A1:=refO r s.refs y fl) (A2:=IntsRow y.cv s.counts) (A3:=RRest s gs y)).perm (by unfold RRest;simp only [HParts,Pr.star_assoc])⟩⟩
def VRest(s:VaultS)(x:VX):Pr:=(MapA Tryz.prog 3 x.mb x.f).star ((Row 153 2 x.av s.acts.length (actCells x.axs)).star (Pr.own x.h))
abbrev vaultQ(v:Nat)(s:VaultS)(x:VX):Pr:=Pr.pts v (.cells #[.pointer (some ⟨x.p,0,none⟩),.map (some x.mb),x.av,.int .i64 s.floor] 62)
theorem vault_open {v:Nat}{s:VaultS}{L R:List Pr}{w:World}(o:OwnL L w) [Pull (VaultA v s) L R]:∃x,VOk s x∧OwnL (vaultQ v s x :: PoolA x.p s.pool :: VRest s x :: R) w:=by
 obtain⟨x,ok,h⟩:=vaultA_iff.1 (o.pull1 (A1:=VaultA v s));exact⟨x,ok,⟨h.perm (by unfold VaultAt VRest;simp only [starL];ac_rfl)⟩⟩
theorem vault_shut {v:Nat}{s:VaultS}{x:VX}(ok:VOk s x){L R1 R2 R3:List Pr}{w:World}(o:OwnL L w) [Pull (vaultQ v s x) L R1] [Pull (PoolA x.p s.pool) R1 R2] [Pull (VRest s x) R2 R3]:OwnL (VaultA v s :: R3) w:=
 ⟨vaultA_iff.2 ⟨x,ok,(o.pull3 (A1:=vaultQ v s x) (A2:=PoolA x.p s.pool) (A3:=VRest s x)).perm (by unfold VaultAt VRest;ac_rfl)⟩⟩
end Go.Proofs.YtpfafhklppondaaGreat.Sy
