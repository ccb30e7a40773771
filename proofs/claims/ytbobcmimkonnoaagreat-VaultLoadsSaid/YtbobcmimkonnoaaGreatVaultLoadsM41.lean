/- The document's Drop where it can be undone; the conditions stand as hypotheses. -/
import Derived.Test.YtbobcmimkonnoaaGreatVaultLoadsM31
import Derived.Test.YtbobcmimkonnoaaGreatVaultLoadsM38
import Derived.Test.YtbobcmimkonnoaaGreatVaultLoadsM36
import Derived.Test.YtbobcmimkonnoaaGreatVaultLoadsM01
set_option maxRecDepth 100000
set_option maxHeartbeats 16000000
namespace Go.Proofs.YtbobcmimkonnoaaGreat.Py
open ChangeShapes WideShapes ChangeAt RowKit Sl Cop D2 M3 Q3 D4 M2 N2 E4 G4 J5 E6 J4 L6 M7 Q7 U7 X7 W7 Z7 U6 F8 V7 Q6 J8 K9 Q9 B8
section
variable(r:Nat)(s:PoolS)(gs:List PageV)(fl:Int)(l:List (List Int × List PageV))
theorem rdropH_any(n:Int)(hr:∀c∈s.counts,c≤65536)(hl:l.length≤1048576)(F:Pr)(w:World)(hF:Sat ((RefH r s gs fl l).star F) w):
 Calls Tryz.prog 43 #[.pointer (some ⟨r,0,none⟩),.int .i64 n] w fun e w'=>Stays w w'∧∃er cs,e= .returned (.int .i64 er)∧DropR (pgAt gs) [n] s.counts er cs∧cs.length=s.counts.length∧
  Sat ((RefH r (if er=0 then { s with counts:=cs } else s) gs fl (histE er l (s.counts,gs))).star F) w':=by
 obtain⟨⟨cv,lv,pv,av,xs,hh,ws⟩,okH,h0⟩:=refH_iff.1 hF;rw [hparts_at] at h0;obtain⟨F2,hF2⟩:∃F2:Pr,F2=(Row 165 2 av ws.length (ws.flatMap wasCells)).star ((big WasRow ws).star F):=⟨_,rfl⟩;obtain⟨hush,hhu⟩:∃hush:RTail,hush=⟨av,fl,false⟩:=⟨_,rfl⟩;replace h0:Sat ((RefAt r s gs ⟨av,fl,false⟩ ⟨cv,lv,pv,xs,hh⟩).star ((Row 165 2 av ws.length (ws.flatMap wasCells)).star ((big WasRow ws).star F))) w:=h0
 rw [← hF2, ← hhu] at h0;have HF2:=hQ (And.intro hhu hF2);have HLL:=hQ hl;have ok:=okH.now;dsimp only [HX.rx] at ok;have h1:Sat ((IntsRow cv s.counts).star ((Pr.pts r (refC s.refs cv lv pv hush)).star ((BoolsRow lv s.last).star ((PgRow pv xs gs).star ((Pr.own hh).star F2))))) w:=h0.perm (by unfold RefAt;ac_rfl);obtain⟨a0,c0,ecv,_,_⟩:=Row.read h1;obtain⟨al,cl,elv,_,_⟩:=Row.read h1.right.right
 obtain⟨ap,cp,epv,_,_⟩:=Row.read h1.right.right.right;rw [ok.ll] at elv;subst ecv elv epv;have OKH:=hQ okH;obtain⟨a,ha,h2⟩:=h1.toOwn;obtain⟨q1,q2,q3,_,z,q0⟩:=pts7 h2.right;have CI:=hQ (copyints_any a _ s.counts _ w.drew h2.drew (Row.rowIn ha) ok.n2);have HA:=hQ ha;have OK:=hQ ok;have hnn:(s.counts.length:Int)≤65536:=by have:=ok.n2;omega
 clear hF h0 h1 h2 ha ok okH hhu hF2 hl;go_enter Tryz.func43,Tryz.ntmps43
 go_wp2_with fail
 refine wS 91 [0,1,2,3,5,6,7,8] [(4,[],[0,1,2,5,6,7,8]),(9,[10,11],[0,1,2,5,6,7])] ?_;refine wpQ_all _ rfl rfl ?_;simp only [pick,pQ];iterate 8 (go_big_quiet_step (fail))
 refine wpQuiet_nil ?_;refine wpRest_act rfl ?_;go_wp2_with fail
 refine CI.out.mono ?_;rintro e w1 ⟨v1,rfl,hs1,st1⟩;obtain⟨ac,cc,rfl,_,_⟩:=Row.read hs1;have hs2:=(hs1.perm (Pr.left_comm _ _ _)).ofOwn HA.out
 have hs3:Sat ((PgRow (.slice ap gs.length cp) xs gs).star ((Pr.pts r (refC s.refs (.slice a0 s.counts.length c0) (.slice al s.counts.length cl) (.slice ap gs.length cp) hush)).star ((IntsRow (.slice a0 s.counts.length c0) s.counts).star ((IntsRow (.slice ac s.counts.length cc) s.counts).star ((BoolsRow (.slice al s.counts.length cl) s.last).star ((Pr.own hh).star F2)))))) w1:=hs2.perm (by ac_rfl)
 clear q0 q1 q2 q3 z;obtain⟨a2,ha2,hs4⟩:=hs3.toOwn;obtain⟨q1,q2,q3,_,z,q0⟩:=pts7 hs4.right;have CP:=hQ (copypages_any a2 _ hh xs gs OK.out.pgs (Row.rowIn ha2) (by have:=OK.out.n2;have:=OK.out.gl;omega) _ _ hs4);have HA2:=hQ ha2;have HST1:=hQ ((Stays.refl w).drew.trans st1);clear hs1 hs2 hs3 hs4 st1 CI HA ha2;go_wp2;refine onN_mk ?_;refine wpQ_nil ⟨?_,?_⟩
 · exact cQ
 refine wpRest_act rfl ?_;go_wp2_with fail
 refine CP.out.mono ?_;rintro e w2 ⟨v2,rfl,hs5,st5⟩;obtain⟨aq,cq,rfl,_,_⟩:=Row.read hs5;have hs6:=(hs5.perm (Pr.left_comm _ _ _)).ofOwn HA2.out
 have hs7:Sat ((RefAt r s gs hush ⟨.slice a0 s.counts.length c0,.slice al s.counts.length cl,.slice ap gs.length cp,xs,hh⟩).star ((IntsRow (.slice ac s.counts.length cc) s.counts).star ((PgRow (.slice aq gs.length cq) xs gs).star F2))) w2:=hs6.perm (by unfold RefAt;ac_rfl)
 have hs8:Sat ((RefA r s gs hush).star ((IntsRow (.slice ac s.counts.length cc) s.counts).star ((PgRow (.slice aq gs.length cq) xs gs).star F2))) w2:=refA_iff.2 ⟨_,OK.out,hs7⟩
 have hs9:Sat ((Pr.pts r (refC s.refs (.slice a0 s.counts.length c0) (.slice al s.counts.length cl) (.slice ap gs.length cp) hush)).star ((IntsRow (.slice a0 s.counts.length c0) s.counts).star ((BoolsRow (.slice al s.counts.length cl) s.last).star ((PgRow (.slice ap gs.length cp) xs gs).star ((Pr.own hh).star ((IntsRow (.slice ac s.counts.length cc) s.counts).star ((PgRow (.slice aq gs.length cq) xs gs).star F2))))))) w2:=hs7.perm (by unfold RefAt;ac_rfl)
 clear q0 q1 q2 q3 z;obtain⟨q1,q2,q3,_,z,q0⟩:=pts7 hs9;have HST2:=hQ (HST1.out.trans st5);have hs11:=hs7.alloc (.cells #[.int .i64 n] 3)
 have hs12:Sat ((IntsRow (.slice (some ⟨w2.heap.size,0,none⟩) 1 1) [n]).star ((RefAt r { s with counts:=s.counts } gs hush ⟨.slice a0 s.counts.length c0,.slice al s.counts.length cl,.slice ap gs.length cp,xs,hh⟩).star ((IntsRow (.slice ac s.counts.length cc) s.counts).star ((PgRow (.slice aq gs.length cq) xs gs).star F2)))) _:=
  Row.mk' (T:=3) (k:=1) (n:=1) (cap:=1) (xs:= [.int .i64 n]) (sp:= []) (by simp) (by simp) (Nat.le_refl _) (by simp [maxLen]) (by simpa using hs11)
 have H12:=hQ hs12;have HST3:=hQ (HST2.out.alloc (.cells #[.int .i64 n] 3))
 have hsum:sumC s.counts≤4294967296:=by
  have h1:=sumC_le hr;have h2:=OK.out.n2;omega
 have HR:=hQ hr;clear hs5 hs6 hs7 hs8 hs9 hs11 hs12 st5 CP HA2 HST1 HST2 hr;go_wp2;refine onN_mk ?_;refine wpQ_all _ rfl rfl ?_;simp only [pick,pQ];iterate 2 (go_big_quiet_step (fail))
 refine wpQuiet_nil ⟨?_,?_⟩
 · exact cQ
 refine wpRest_nil ?_;clear q1 q2 q3 z q0;obtain⟨i0,hi0,hz0,hz1,hz2⟩:=info_parts infoInt;go_wp2
 go_loopw [7] (fun todo wr=> ∃(T cs:List Int),Stays w wr∧Hid (∀e c,DropR (pgAt gs) T cs e c→DropR (pgAt gs) [n] s.counts e c)∧Hid (T.length+9*sumC cs≤1+9*sumC s.counts)∧Hid (cs.length=s.counts.length)∧Hid (∀c∈cs,0≤c∧c≤65536)∧
  Sat ((IntsRow todo T.reverse).star ((RefAt r { s with counts:=cs } gs hush ⟨.slice a0 s.counts.length c0,.slice al s.counts.length cl,.slice ap gs.length cp,xs,hh⟩).star ((IntsRow (.slice ac s.counts.length cc) s.counts).star ((PgRow (.slice aq gs.length cq) xs gs).star F2)))) wr) (fun todo wr=>lenV todo+9*sumC (countsW r s.counts.length wr))
 case atStart=>exact⟨[n],s.counts,HST3.out,hQ (fun _ _ h=>h),hQ (by simp),hQ rfl,hQ (fun c hc=>⟨OK.out.c0 c hc,HR.out c hc⟩),H12.out⟩
 case round=>
  obtain⟨T,cs,hst,hdr,hbd,hcl,hnn0,hs⟩:=hrel;clear H12 HST3;have ok':ROk { s with counts:=cs } gs ⟨.slice a0 s.counts.length c0,.slice al s.counts.length cl,.slice ap gs.length cp,xs,hh⟩:=rok_counts OK.out hcl.out (fun c hc=>(hnn0.out c hc).1);cases T with
  | nil=>
    obtain⟨at',ct,rfl,_,_⟩:=Row.read hs;have hs2:=OwnL.in4 hs;rw [HF2.out.2] at hs2;have hs3:=refAt_open r { s with counts:=cs } gs hush ⟨.slice a0 s.counts.length c0,.slice al s.counts.length cl,.slice ap gs.length cp,xs,hh⟩ hs2.norm;have hs4:=was_close ⟨.slice ac s.counts.length cc,.slice aq gs.length cq,xs,s.counts,gs⟩ hs3
    have hK:HOk { s with counts:=cs } gs l ⟨.slice a0 s.counts.length c0,.slice al s.counts.length cl,.slice ap gs.length cp,av,xs,hh,ws⟩:=⟨ok',OKH.out.was,OKH.out.l⟩;have hk2:ROk { ({ s with counts:=cs }:PoolS) with counts:=s.counts } gs ⟨.slice ac s.counts.length cc,.slice al s.counts.length cl,.slice aq gs.length cq,xs,hh⟩:=⟨OK.out.pgs,OK.out.ll,OK.out.gl,OK.out.n2,OK.out.c0,OK.out.fit⟩
    have ehu:=HF2.out.1;subst ehu;have DD:=hQ (rdid_any r { s with counts:=cs } gs fl l _ _ ⟨.slice a0 s.counts.length c0,.slice al s.counts.length cl,.slice ap gs.length cp,av,xs,hh,ws⟩ hK ⟨.slice ac s.counts.length cc,.slice aq gs.length cq,xs,s.counts,gs⟩ hk2 HLL.out (hs4.pull8));clear hs hs2 hs3 hs4 hK hk2 ok';go_wp2_with fail
    refine DD.out.mono ?_;rintro e w4 ⟨rfl,st4,hs5⟩;have HS5:=hQ (OwnL.of1 hs5);clear hs5 DD;go_wp2;go_ret;refine⟨hst.trans st4,0,cs,rfl,hdr.out _ _ (.nil _),hcl.out,?_⟩;unfold histE;rw [if_pos rfl,if_pos rfl];exact HS5.out.end2
  | cons n0 t=>
    obtain⟨L,hL⟩:∃L,t.length=L:=⟨_,rfl⟩;have e1:(n0 :: t).reverse=t.reverse++ [n0]:=List.reverse_cons;have e2:(t.reverse++ [n0]).length=L+1:=by rw [List.length_append,List.length_reverse,hL];rfl
    rw [e1] at hs;replace hs:Sat ((Row 3 1 _ (t.reverse++ [n0]).length ((t.reverse++ [n0]).map (Value.int .i64))).star _) wr:=hs
    rw [e2] at hs;obtain⟨at',ct,rfl,_,hc7⟩:=Row.read hs;obtain⟨b7,e7,hd7⟩:=hc7 (by omega);subst e7
    have q7:wr.cell? ⟨b7,L,none⟩=some (.int .i64 n0):=by
     rw [(hd7 L (by omega)).1,List.map_append,List.getElem?_append_right (by simp [hL])];simp [hL]
    have hcap:L+1≤ct:=by
     obtain⟨_,(⟨e5,_,_⟩ | ⟨_,_,_,e5,_,h5,_,_⟩)⟩:=Row.open' hs
     · cases e5
     · cases e5;exact h5
    have hcap2:(L:Int)+1≤(ct:Int):=by omega
    have hct:=Row.bd hs;have hcut:=row_cutk hs (Nat.le_succ L)
    have e3:(((t.reverse++ [n0]).map (Value.int .i64)).take (L*1))=t.reverse.map (Value.int .i64):=by
     rw [Nat.mul_one,List.map_append];exact List.take_left' (by simp [hL])
    rw [e3] at hcut;have hLb:L+9*sumC cs≤9*sumC s.counts:=by have:=hbd.out;simp only [List.length_cons,hL] at this;omega
    have hLb2:(L:Int)≤38654705664:=by have:=hsum;omega
    have z7:=World.block_lt_of_cell? _ _ q7
    have hs2:=hs.perm (B:=((RefAt r { s with counts:=cs } gs hush ⟨.slice a0 s.counts.length c0,.slice al s.counts.length cl,.slice ap gs.length cp,xs,hh⟩).star ((Row 3 1 (.slice (some ⟨b7,0,none⟩) (L+1) ct) (L+1) ((t.reverse++ [n0]).map (Value.int .i64))).star ((IntsRow (.slice ac s.counts.length cc) s.counts).star ((PgRow (.slice aq gs.length cq) xs gs).star F2))))) (by ac_rfl)
    have RT:=hQ (rthere_any r { s with counts:=cs } gs hush n0 _ _ (refA_iff.2 ⟨_,ok',hs2⟩));rw [show ({ s with counts:=cs }:PoolS).count n0=cntL cs n0 from rcount_cnt _ _] at RT;have HCUT:=hQ hcut;have HOK:=hQ ok';have HSUM:=hQ hLb;have HL:=hQ hL;by_cases h0:cntL cs n0=0
    · rw [h0,decide_eq_false (by omega)] at RT
      have hs3:=OwnL.in4 hcut;rw [HF2.out.2] at hs3;have hs4:=refAt_open r { s with counts:=cs } gs hush ⟨.slice a0 s.counts.length c0,.slice al s.counts.length cl,.slice ap gs.length cp,xs,hh⟩ hs3.norm;have hs5:=was_close ⟨.slice ac s.counts.length cc,.slice aq gs.length cq,xs,s.counts,gs⟩ hs4
      have hK:HOk { s with counts:=cs } gs l ⟨.slice a0 s.counts.length c0,.slice al s.counts.length cl,.slice ap gs.length cp,av,xs,hh,ws⟩:=⟨ok',OKH.out.was,OKH.out.l⟩;have hk2:ROk { ({ s with counts:=cs }:PoolS) with counts:=s.counts } gs ⟨.slice ac s.counts.length cc,.slice al s.counts.length cl,.slice aq gs.length cq,xs,hh⟩:=⟨OK.out.pgs,OK.out.ll,OK.out.gl,OK.out.n2,OK.out.c0,OK.out.fit⟩
      have ehu:=HF2.out.1;subst ehu;have NR:=hQ (rnot_any r { s with counts:=cs } gs fl l _ _ ⟨.slice a0 s.counts.length c0,.slice al s.counts.length cl,.slice ap gs.length cp,av,xs,hh,ws⟩ hK ⟨.slice ac s.counts.length cc,.slice aq gs.length cq,xs,s.counts,gs⟩ hk2 (hs5.pull8));have H0:=hQ h0;clear hs hs2 hs3 hs4 hs5 hcut ok' hc7 hd7 hct h0 e1 e2 e3 hLb hL hK hk2;go_wp2_with fail
      refine RT.out.mono ?_;rintro e w4 ⟨rfl,rfl⟩;go_wp2_with fail
      refine NR.out.mono ?_;rintro e w4 ⟨rfl,st4,hs6⟩;have HS6:=hQ (OwnL.of1 hs6);clear hs6 NR;go_wp2;go_ret;refine⟨hst.trans st4,15,cs,rfl,hdr.out _ _ (.none _ _ _ H0.out),hcl.out,?_⟩;unfold histE;rw [if_neg (by decide),if_neg (by decide)];exact HS6.out.end2
    · have ht:({ s with counts:=cs }:PoolS).there n0:=by
       by_cases ht:({ s with counts:=cs }:PoolS).there n0
       · exact ht
       · exact absurd (by unfold cntL;exact if_neg ht) h0
      obtain⟨j,rfl,hj⟩:=there_idx ht;have hj:j<cs.length:=hj
      have hc1:0<cntL cs ((j:Int)+1):=by
       rw [cnt_idx hj] at h0 ⊢;have:=(hnn0.out cs[j] (List.getElem_mem hj)).1
       simp [hj] at h0 ⊢
       omega
      have hc9:cs.getD j 0≤65536:=by
       have:=(hnn0.out cs[j] (List.getElem_mem hj)).2
       simpa [hj] using this
      rw [decide_eq_true hc1] at RT;have hs3:=hcut.perm (B:=((RefAt r { s with counts:=cs } gs hush ⟨.slice a0 s.counts.length c0,.slice al s.counts.length cl,.slice ap gs.length cp,xs,hh⟩).star ((Row 3 1 (.slice (some ⟨b7,0,none⟩) L ct) L (t.reverse.map (Value.int .i64))).star ((IntsRow (.slice ac s.counts.length cc) s.counts).star ((PgRow (.slice aq gs.length cq) xs gs).star F2))))) (by ac_rfl)
      obtain⟨ac1,cc1,al1,cl1,ap1,cp1,⟨q1,q2,q3,_⟩,z,_,rd⟩:=ref_rd ok' hs3;obtain⟨⟨b,rfl,c0'⟩,_,b3,g,vi,vd,rfl,hgj,hpg,g0,g1,g2,g3,g4⟩:=rd j hj;obtain⟨b2,cc2,e4,_,f2,wrt⟩:=ref_wr_count hs3 hj
      have ebb:b2=b:=by
       have h1:=hs3.perm (B:=((Pr.pts r (refC s.refs (.slice a0 s.counts.length c0) (.slice al s.counts.length cl) (.slice ap gs.length cp) hush)).star ((IntsRow (.slice a0 s.counts.length c0) cs).star ((BoolsRow (.slice al s.counts.length cl) s.last).star ((PgRow (.slice ap gs.length cp) xs gs).star ((Pr.own hh).star ((Row 3 1 (.slice (some ⟨b7,0,none⟩) L ct) L (t.reverse.map (Value.int .i64))).star ((IntsRow (.slice ac s.counts.length cc) s.counts).star ((PgRow (.slice aq gs.length cq) xs gs).star F2))))))))) (by unfold RefAt;dsimp only;ac_rfl)
       have h2:wr.cell? ⟨r,1,none⟩=some (.slice a0 s.counts.length c0):=by rw [cell_of_heap h1.pts_heap];rfl
       rw [q1] at h2;dsimp only at e4;simp only [Option.some.injEq] at h2;rw [← h2] at e4;cases e4;rfl
      subst ebb
      have hne:r≠b2∧r≠b3∧b2≠b3:=by
       obtain⟨e5,e6⟩:(Value.slice a0 s.counts.length c0= .slice (some ⟨b2,0,none⟩) cs.length cc1)∧(Value.slice ap gs.length cp= .slice (some ⟨b3,0,none⟩) cs.length cp1):=by
        have h1:=hs3.perm (B:=((Pr.pts r (refC s.refs (.slice a0 s.counts.length c0) (.slice al s.counts.length cl) (.slice ap gs.length cp) hush)).star ((IntsRow (.slice a0 s.counts.length c0) cs).star ((BoolsRow (.slice al s.counts.length cl) s.last).star ((PgRow (.slice ap gs.length cp) xs gs).star ((Pr.own hh).star ((Row 3 1 (.slice (some ⟨b7,0,none⟩) L ct) L (t.reverse.map (Value.int .i64))).star ((IntsRow (.slice ac s.counts.length cc) s.counts).star ((PgRow (.slice aq gs.length cq) xs gs).star F2))))))))) (by unfold RefAt;dsimp only;ac_rfl)
        have h2:wr.cell? ⟨r,1,none⟩=some (.slice a0 s.counts.length c0):=by rw [cell_of_heap h1.pts_heap];rfl
        have h3:wr.cell? ⟨r,3,none⟩=some (.slice ap gs.length cp):=by rw [cell_of_heap h1.pts_heap];rfl
        rw [q1] at h2;rw [q3] at h3;exact⟨(Option.some.inj h2).symm,(Option.some.inj h3).symm⟩
       have h1:=hs3.perm (B:=((IntsRow (.slice a0 s.counts.length c0) cs).star ((Pr.pts r (refC s.refs (.slice a0 s.counts.length c0) (.slice al s.counts.length cl) (.slice ap gs.length cp) hush)).star ((BoolsRow (.slice al s.counts.length cl) s.last).star ((PgRow (.slice ap gs.length cp) xs gs).star ((Pr.own hh).star ((Row 3 1 (.slice (some ⟨b7,0,none⟩) L ct) L (t.reverse.map (Value.int .i64))).star ((IntsRow (.slice ac s.counts.length cc) s.counts).star ((PgRow (.slice aq gs.length cq) xs gs).star F2))))))))) (by unfold RefAt;dsimp only;ac_rfl)
       have h2:Sat ((Row 3 1 (.slice a0 s.counts.length c0) cs.length (cs.map (Value.int .i64))).star ((Pr.pts r (refC s.refs (.slice a0 s.counts.length c0) (.slice al s.counts.length cl) (.slice ap gs.length cp) hush)).star ((BoolsRow (.slice al s.counts.length cl) s.last).star ((PgRow (.slice ap gs.length cp) xs gs).star ((Pr.own hh).star ((Row 3 1 (.slice (some ⟨b7,0,none⟩) L ct) L (t.reverse.map (Value.int .i64))).star ((IntsRow (.slice ac s.counts.length cc) s.counts).star ((PgRow (.slice aq gs.length cq) xs gs).star F2)))))))) wr:=h1
       have h3:Sat ((Row 31 5 (.slice ap gs.length cp) gs.length ((xs.zip gs).flatMap pgCells)).star ((Pr.pts r (refC s.refs (.slice a0 s.counts.length c0) (.slice al s.counts.length cl) (.slice ap gs.length cp) hush)).star ((Row 3 1 (.slice a0 s.counts.length c0) cs.length (cs.map (Value.int .i64))).star ((BoolsRow (.slice al s.counts.length cl) s.last).star ((Pr.own hh).star ((Row 3 1 (.slice (some ⟨b7,0,none⟩) L ct) L (t.reverse.map (Value.int .i64))).star ((IntsRow (.slice ac s.counts.length cc) s.counts).star ((PgRow (.slice aq gs.length cq) xs gs).star F2)))))))) wr:=h1.perm (by unfold IntsRow PgRow;ac_rfl)
       have h4:Sat ((Row 3 1 (.slice a0 s.counts.length c0) cs.length (cs.map (Value.int .i64))).star ((Row 31 5 (.slice ap gs.length cp) gs.length ((xs.zip gs).flatMap pgCells)).star ((Pr.pts r (refC s.refs (.slice a0 s.counts.length c0) (.slice al s.counts.length cl) (.slice ap gs.length cp) hush)).star ((BoolsRow (.slice al s.counts.length cl) s.last).star ((Pr.own hh).star ((Row 3 1 (.slice (some ⟨b7,0,none⟩) L ct) L (t.reverse.map (Value.int .i64))).star ((IntsRow (.slice ac s.counts.length cc) s.counts).star ((PgRow (.slice aq gs.length cq) xs gs).star F2)))))))) wr:=h1.perm (by unfold IntsRow PgRow;ac_rfl)
       have hgl:gs.length=cs.length:=ok'.gl;rw [e5] at h2 h4;rw [e6] at h3 h4;rw [hgl] at h3 h4;exact⟨pts_row_ne h2,pts_row_ne h3,row_row_ne h4⟩
      obtain⟨hne1,hne2,hne3⟩:=hne;have epg:pgAt gs ((j:Int)+1)=g:=by unfold pgAt;rw [show ((j:Int)+1).toNat-1=j by omega,List.getD_eq_getElem?_getD,hgj];rfl
      have hgfit:=OK.out.fit g (List.mem_of_getElem? hgj);obtain⟨_,_,epv,hit,hby⟩:=id hpg;simp only [pageV,Value.agg.injEq,Array.mk.injEq,List.cons.injEq,and_true,true_and] at epv;obtain⟨rfl,rfl⟩:=epv;obtain⟨a1,d1,rfl,_,_⟩:=items_rd hit;obtain⟨a2,d2,rfl⟩:=bytes_shape hby;have hn2:=OK.out.n2;have hjb:(j:Int)<65536:=by have:=hcl.out;omega
      have hcsl:cs.length=s.counts.length:=hcl.out;have zb:=World.block_lt_of_cell? _ _ c0';have zb3:=World.block_lt_of_cell? _ _ g0;have hsumc:=sum_addC (cs:=cs) (n:=(j:Int)+1) (b:= -1) (by omega) (by omega) (by omega);have hcl2:(addC cs ((j:Int)+1) (-1)).length=s.counts.length:=by rw [addC_len];exact hcl.out
      have hnn2:=addC_bd (n:=(j:Int)+1) hnn0.out hc1;have hcnt2:=addC_cnt (cs:=cs) (n:=(j:Int)+1) (b:= -1) (by omega) ((j:Int)+1);rw [if_pos rfl,cnt_idx hj] at hcnt2;have hadd:=addC_idx hj (-1);rw [cnt_idx hj] at hc1 h0;have HW0:=hQ (show countsW r s.counts.length wr=cs from by have:=counts_w ok' hs3;rw [← hcsl];exact this);have HWR:=hQ wrt;have HN:=hQ (And.intro hcl2 (And.intro hnn2 hsumc))
      have HADD:=hQ hadd;have HCNT:=hQ hcnt2;have HC0:=hQ (show cntL cs ((j:Int)+1)≠0 from by rw [cnt_idx hj];exact h0);have HPG:=hQ (And.intro hpg (And.intro epg hgfit));have HSTK:=hQ hst;dsimp only at q1 q2 q3 c0' f2;clear hs hs2 hs3 hcut ok' hc7 hd7 hct e1 e2 e3 hLb hL rd e4 wrt q2 hgj hpg epg hgfit hit hby hsumc hcl2 hnn2 hcnt2 hadd ht HCUT h0 hst hcsl;generalize cs.getD j 0=c at*
      have hs9:Sat ((RefAt r { s with counts:=addC cs ((j:Int)+1) (-1) } gs hush ⟨.slice a0 s.counts.length c0,.slice al s.counts.length cl,.slice ap gs.length cp,xs,hh⟩).star ((Row 3 1 (.slice (some ⟨b7,0,none⟩) L ct) L (t.reverse.map (Value.int .i64))).star ((IntsRow (.slice ac s.counts.length cc) s.counts).star ((PgRow (.slice aq gs.length cq) xs gs).star F2)))) (wr.setCell ⟨b2,j,none⟩ (.int .i64 (c-1))):=by
       have h9:=HWR.out (c-1);have h10:cs.set j (c-1)=addC cs ((j:Int)+1) (-1):=by rw [HADD.out];rfl
       dsimp only at h9;rw [h10] at h9;exact h9
      have okn:ROk { s with counts:=addC cs ((j:Int)+1) (-1) } gs ⟨.slice a0 s.counts.length c0,.slice al s.counts.length cl,.slice ap gs.length cp,xs,hh⟩:=rok_counts OK.out HN.out.1 (fun c hc=>(HN.out.2.1 c hc).1)
      have HW1:=hQ (show countsW r s.counts.length (wr.setCell ⟨b2,j,none⟩ (.int .i64 (c-1)))=addC cs ((j:Int)+1) (-1) from by
       have:=counts_w okn hs9
       have h1:=HN.out.1
       rw [← h1]
       exact this)
      have HS9:=hQ hs9;have HOKN:=hQ okn;clear hs9 okn HWR;by_cases hl:c-1=0
      · have hbl:(c-1 == 0)=true:=beq_iff_eq.2 hl
        have HLN:=hQ hl;have hgl:=HPG.out.2.2
        have RK:=hQ (rkids_any hh _ g HPG.out.1 (by have:=hgl.n;omega) _ _ (HS9.out.perm (B:=((Pr.own hh).star ((Pr.pts r (refC s.refs (.slice a0 s.counts.length c0) (.slice al s.counts.length cl) (.slice ap gs.length cp) hush)).star ((IntsRow (.slice a0 s.counts.length c0) (addC cs ((j:Int)+1) (-1))).star ((BoolsRow (.slice al s.counts.length cl) s.last).star ((PgRow (.slice ap gs.length cp) xs gs).star ((Row 3 1 (.slice (some ⟨b7,0,none⟩) L ct) L (t.reverse.map (Value.int .i64))).star ((IntsRow (.slice ac s.counts.length cc) s.counts).star ((PgRow (.slice aq gs.length cq) xs gs).star F2))))))))) (by unfold RefAt;dsimp only;ac_rfl)))
        have hklb:(kidsOf g).length≤9:=by have:=kidsOf_len g;have:=hgl.n;omega
        obtain⟨kl,hkl⟩:∃kl,kidsOf g=kl:=⟨_,rfl⟩;rw [hkl] at RK hklb;have HKL:=hQ hkl;clear hl hgl hkl;go_wp2_with fail
        refine RT.out.mono ?_;rintro e w4 ⟨rfl,rfl⟩;go_wp2_with fail
        refine RK.out.mono ?_;rintro e w6 ⟨kv,rfl,hs10,st6⟩;obtain⟨ak,ck,rfl,_,_⟩:=Row.read hs10
        have hs11:=hs10.perm (B:=((Row 3 1 (.slice (some ⟨b7,0,none⟩) L ct) L (t.reverse.map (Value.int .i64))).star ((IntsRow (.slice ak kl.length ck) kl).star ((RefAt r { s with counts:=addC cs ((j:Int)+1) (-1) } gs hush ⟨.slice a0 s.counts.length c0,.slice al s.counts.length cl,.slice ap gs.length cp,xs,hh⟩).star ((IntsRow (.slice ac s.counts.length cc) s.counts).star ((PgRow (.slice aq gs.length cq) xs gs).star F2)))))) (by unfold RefAt;dsimp only;ac_rfl)
        have HS11:=hQ hs11;have HST6:=hQ ((HSTK.out.setCell ⟨b2,j,none⟩ (.int .i64 (c-1))).trans st6);clear hs10 hs11 st6 RK q1 q3 c0' f2 g0 g1 g2 g3 g4 z zb zb3 q7 z7 HS9 hne1 hne2 hne3;go_wp2
        go_loopw [7,10] (fun todo i wx=> ∃k:Nat,k≤kl.length∧i= .int .i64 ((k:Int)-1)∧Stays w wx∧Sat ((Row 3 1 todo (L+(kl.length-k)) ((t.reverse++(kl.drop k).reverse).map (Value.int .i64))).star ((IntsRow (.slice ak kl.length ck) kl).star ((RefAt r { s with counts:=addC cs ((j:Int)+1) (-1) } gs hush ⟨.slice a0 s.counts.length c0,.slice al s.counts.length cl,.slice ap gs.length cp,xs,hh⟩).star ((IntsRow (.slice ac s.counts.length cc) s.counts).star ((PgRow (.slice aq gs.length cq) xs gs).star F2))))) wx) (fun _ i _=>(intOf i+1).toNat)
        case atStart=>
         refine⟨kl.length,Nat.le_refl _,rfl,HST6.out,?_⟩;rw [Nat.sub_self,List.drop_length,List.reverse_nil,List.append_nil];exact HS11.out
        case round=>
         obtain⟨k,hk,rfl,hst,hs⟩:=hrel;clear HS11 HST6;obtain⟨ax,cx,rfl,_,_⟩:=Row.read hs;cases k with
         | zero=>
           have HS:=hQ hs;clear hs;go_wp2;go_roundw
           case rel=>
            refine⟨kl++t,addC cs ((j:Int)+1) (-1),hst,hQ ?_,hQ ?_,hQ HN.out.1,hQ HN.out.2.1,?_⟩
            · intro e c3 h
              refine hdr.out e c3 (.last _ _ _ _ _ HC0.out (by rw [HCNT.out];have:=HLN.out;omega) ?_);rw [HPG.out.2.1,HKL.out];exact h
            · have h1:=hbd.out
              have h2:=HN.out.2.2;simp only [List.length_cons,List.length_append] at h1 ⊢;omega
            · have h1:=HS.out.perm (B:=((Row 3 1 (.slice ax (L+(kl.length-0)) cx) (L+(kl.length-0)) ((t.reverse++(kl.drop 0).reverse).map (Value.int .i64))).star ((RefAt r { s with counts:=addC cs ((j:Int)+1) (-1) } gs hush ⟨.slice a0 s.counts.length c0,.slice al s.counts.length cl,.slice ap gs.length cp,xs,hh⟩).star ((IntsRow (.slice ac s.counts.length cc) s.counts).star ((PgRow (.slice aq gs.length cq) xs gs).star ((IntsRow (.slice ak kl.length ck) kl).star F2)))))) (by ac_rfl)
              have h2:Sat ((IntsRow (.slice ax (L+(kl.length-0)) cx) (kl++t).reverse).star ((RefAt r { s with counts:=addC cs ((j:Int)+1) (-1) } gs hush ⟨.slice a0 s.counts.length c0,.slice al s.counts.length cl,.slice ap gs.length cp,xs,hh⟩).star ((IntsRow (.slice ac s.counts.length cc) s.counts).star ((PgRow (.slice aq gs.length cq) xs gs).star ((IntsRow (.slice ak kl.length ck) kl).star F2))))) wr:=by
               unfold IntsRow;rw [List.reverse_append,List.length_append,List.length_reverse,List.length_reverse,HL.out];exact h1
              exact(h2.perm (B:=((IntsRow (.slice ak kl.length ck) kl).star ((IntsRow (.slice ax (L+(kl.length-0)) cx) (kl++t).reverse).star ((RefAt r { s with counts:=addC cs ((j:Int)+1) (-1) } gs hush ⟨.slice a0 s.counts.length c0,.slice al s.counts.length cl,.slice ap gs.length cp,xs,hh⟩).star ((IntsRow (.slice ac s.counts.length cc) s.counts).star ((PgRow (.slice aq gs.length cq) xs gs).star F2)))))) (by ac_rfl)).right
           case measure=>
            have hw2:countsW r s.counts.length wr=addC cs ((j:Int)+1) (-1):=by
             have h1:=HS.out.perm (B:=((RefAt r { s with counts:=addC cs ((j:Int)+1) (-1) } gs hush ⟨.slice a0 s.counts.length c0,.slice al s.counts.length cl,.slice ap gs.length cp,xs,hh⟩).star ((Row 3 1 (.slice ax (L+(kl.length-0)) cx) (L+(kl.length-0)) ((t.reverse++(kl.drop 0).reverse).map (Value.int .i64))).star ((IntsRow (.slice ac s.counts.length cc) s.counts).star ((PgRow (.slice aq gs.length cq) xs gs).star ((IntsRow (.slice ak kl.length ck) kl).star F2)))))) (by ac_rfl)
             have:=counts_w HOKN.out h1
             have h2:=HN.out.1;rw [← h2];exact this
            simp only [lenV];rw [HW0.out,hw2];have h2:=HN.out.2.2;omega
         | succ k=>
           have hklt:k<kl.length:=by omega
           obtain⟨_,_,e8,_,hc8⟩:=Row.read hs.right;obtain⟨b8,e9,hd8⟩:=hc8 (by omega);cases e8;subst e9
           have q8:wr.cell? ⟨b8,k,none⟩=some (.int .i64 kl[k]):=by
            rw [(hd8 k (by omega)).1];simp [hklt]
           have z8:=World.block_lt_of_cell? _ _ q8
           have hdk:(kl.drop k).reverse=(kl.drop (k+1)).reverse++ [kl[k]]:=by
            rw [List.drop_eq_getElem_cons hklt,List.reverse_cons]
           have HDK:=hQ hdk;clear hc8 hd8 hdk;generalize kl[k]=kn at*;have A1:=hQ (hs.alloc (.cells [.int .i64 kn].toArray 3)).right;have hnew:=hQ (new_cells wr [.int .i64 kn] 3 _ rfl);have HSTX:=hQ (hst.alloc (.cells [.int .i64 kn].toArray 3));clear hs hst
           go_wp2_with (
            at_builtin
            refine wpList_append_sl rfl _ _ _ rfl 3 i0 (.int .i64 0) 1 8 Tryz.underlying40 hi0 hz0 hz1 hz2 rfl _ _ _ rfl A1.out ⟨wr.heap.size,0,none⟩ 1 1 [.int .i64 kn] rfl rfl hnew.out (by simp [Value.oneCell']) (by simp only [maxLen];omega) (by omega) ?_
            intro v7 w7 hs7 hg7 _
            obtain⟨a7',c7',e7',_,_⟩:=Row.read hs7
            subst e7'
            have HS7:=hQ hs7
            have HG7:=hQ (HSTX.out.of_grown hg7)
            clear hs7 hg7)
           go_roundw
           case rel=>
            refine⟨k,by omega,congrArg (Value.int .i64) (by omega),HG7.out,?_⟩;have h1:=HS7.out;rw [HDK.out, ← List.append_assoc,List.map_append];rw [show L+(kl.length-k)=L+(kl.length-(k+1))+1 by omega];exact h1
           case measure=>simp [intOf]
      · have hbl:(c-1 == 0)=false:=beq_eq_false_iff_ne.2 hl
        have HLN:=hQ hl;clear hl;go_wp2_with fail
        refine RT.out.mono ?_;rintro e w4 ⟨rfl,rfl⟩;go_wp2;go_roundw
        case rel=>
         refine⟨t,addC cs ((j:Int)+1) (-1),HSTK.out.setCell _ _,hQ ?_,hQ ?_,hQ HN.out.1,hQ HN.out.2.1,?_⟩
         · intro e c3 h
           exact hdr.out e c3 (.more _ _ _ _ _ HC0.out (by rw [HCNT.out];have:=HLN.out;omega) h)
         · have h1:=hbd.out
           have h2:=HN.out.2.2;simp only [List.length_cons] at h1;omega
         · have h1:=HS9.out.perm (B:=((Row 3 1 (.slice (some ⟨b7,0,none⟩) L ct) L (t.reverse.map (Value.int .i64))).star ((RefAt r { s with counts:=addC cs ((j:Int)+1) (-1) } gs hush ⟨.slice a0 s.counts.length c0,.slice al s.counts.length cl,.slice ap gs.length cp,xs,hh⟩).star ((IntsRow (.slice ac s.counts.length cc) s.counts).star ((PgRow (.slice aq gs.length cq) xs gs).star F2))))) (by ac_rfl)
           unfold IntsRow;rw [List.length_reverse,HL.out];exact h1
        case measure=>
         show L+9*sumC (countsW r s.counts.length (wr.setCell ⟨b2,j,none⟩ (.int .i64 (c-1))))<(L+1)+9*sumC (countsW r s.counts.length wr)
         rw [HW0.out,HW1.out];have h2:=HN.out.2.2;omega
end
end Go.Proofs.YtbobcmimkonnoaaGreat.Py
