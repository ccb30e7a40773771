/- The document's Load; the conditions stand as hypotheses. -/
import Derived.Test.YtbobcmimkonnoaaGreatVaultLoadsM28
import Derived.Test.YtbobcmimkonnoaaGreatVaultLoadsM17
import Derived.Test.YtbobcmimkonnoaaGreatVaultLoadsM04
import Derived.Test.YtbobcmimkonnoaaGreatVaultLoadsM01
set_option maxRecDepth 100000
set_option maxHeartbeats 16000000
namespace Go.Proofs.YtbobcmimkonnoaaGreat.Y7
open ChangeShapes WideShapes ChangeAt RowKit Sl Cop D2 M3 Q3 U3 D4 M2 N2 E4 G4 P4 X4 E6 G6 J4 L6 P6 F6 Y4 G7 U4 M7 Q7 U7 X7
def pgsOf(n:Nat)(on:Int→Option PageV):List PageV:=(List.range n).map fun i:Nat=>(on ((i:Int)+1)).getD zeroP
def laidOf(n:Nat)(on:Int→Option PageV):List Bool:=(List.range n).map fun i:Nat=>(on ((i:Int)+1)).isSome
theorem pgsOf_put {n:Nat}{on:Int→Option PageV}{j:Nat}(g:PageV):(pgsOf n on).set j g=pgsOf n fun m=>if m=(j:Int)+1 then some g else on m:=by
 unfold pgsOf;refine List.ext_getElem (by simp) fun i h1 h2=> ?_
 rw [List.getElem_set];simp only [List.getElem_map,List.getElem_range];by_cases h:j=i
 · subst h;simp
 · rw [if_neg h,if_neg (by omega)]
theorem laidOf_put {n:Nat}{on:Int→Option PageV}{j:Nat}(g:PageV):(laidOf n on).set j true=laidOf n fun m=>if m=(j:Int)+1 then some g else on m:=by
 unfold laidOf;refine List.ext_getElem (by simp) fun i h1 h2=> ?_
 rw [List.getElem_set];simp only [List.getElem_map,List.getElem_range];by_cases h:j=i
 · subst h;simp
 · rw [if_neg h,if_neg (by omega)]
theorem laidOf_at {n:Nat}{on:Int→Option PageV}{j:Nat}(hj:j<n):(laidOf n on).getD j false=(on ((j:Int)+1)).isSome:=by
 unfold laidOf;simp [List.getD_eq_getElem?_getD,hj]
theorem pgsOf_none(n:Nat):pgsOf n (fun _=>none)=List.replicate n zeroP:=by
 unfold pgsOf;refine List.ext_getElem (by simp) fun i h1 h2=> ?_
 simp
theorem laidOf_none(n:Nat):laidOf n (fun _=>none)=List.replicate n false:=by
 unfold laidOf;refine List.ext_getElem (by simp) fun i h1 h2=> ?_
 simp
abbrev LaidRow(v:Value)(l:List Bool):Pr:=Row 4 1 v l.length (l.map Value.bool)
theorem filled {α:Type}{us cs:List α}(hl:us.length=cs.length)(h:∀i,i<cs.length→us[i]? =cs[i]?):us=cs:=
 List.ext_getElem? fun i=>by
  rcases Nat.lt_or_ge i cs.length with hi | hi
  · exact h i hi
  · rw [List.getElem?_eq_none (by omega),List.getElem?_eq_none hi]
theorem fill_step {α:Type}{us cs:List α}{k:Nat}(hl:us.length=cs.length)(hk:k<cs.length)(h:∀i,i<k→us[i]? =cs[i]?):∀i,i<k+1→(us.set k cs[k])[i]? =cs[i]? :=by
 intro i hi;by_cases he:i=k
 · subst he
   rw [List.getElem?_set_self (by omega),List.getElem?_eq_getElem hk]
 · rw [List.getElem?_set_ne (by omega)]
   exact h i (by omega)
abbrev lawS(refs:Int)(us:List Int)(bs:List Bool):PoolS:= { refs:=refs,counts:=us,last:=bs,acts:= [],floor:=0 }
theorem ref_put {r:Nat}{s:PoolS}{gs:List PageV}{hush:RTail}{x:RX}{F:Pr}{w:World}{h':Hp}{vi vd:Value}{g:PageV}{j:Nat}(ok:ROk s gs x)(hg:PageIn h' (pageV g.kind g.level vi vd g.next) g)(hf:Fit g)
 (h:Sat ((RefAt r s (gs.set j g) hush { x with xs:=x.xs.set j (vi,vd) }).star ((Pr.own h').star F)) w):Sat ((RefA r s (gs.set j g) hush).star F) w:=by
 have h1:Sat ((Pr.own x.h).star ((Pr.own h').star ((Pr.pts r (refC s.refs x.cv x.lv x.pv hush)).star ((IntsRow x.cv s.counts).star ((BoolsRow x.lv s.last).star ((PgRow x.pv (x.xs.set j (vi,vd)) (gs.set j g)).star F)))))) w:=h.perm (by unfold RefAt;dsimp only;ac_rfl);obtain⟨hd,h2⟩:=h1.own_join;obtain⟨_,_,e,y1,y2⟩:=hg
 simp only [pageV,Value.agg.injEq,Array.mk.injEq,List.cons.injEq,and_true,true_and] at e;obtain⟨rfl,rfl⟩:=e;refine refA_iff.2 ⟨{ x with xs:=x.xs.set j (vi,vd),h:=x.h.un h' },⟨⟨?_,fun i hx hl=> ?_⟩,ok.ll,?_,ok.n2,ok.c0,fun g2 hg2=> ?_⟩,h2.perm (by unfold RefAt;dsimp only;ac_rfl)⟩
 · simp only [List.length_set];exact ok.pgs.len
 · dsimp only
   simp only [List.length_set] at hx hl;by_cases he:j=i
   · subst he
     simp only [List.getElem_set_self];exact⟨y1.sub (Hp.sub_un_right hd),y2.sub (Hp.sub_un_right hd)⟩
   · simp only [List.getElem_set_ne he]
     obtain⟨p1,p2⟩:=ok.pgs.at' i hx hl;exact⟨p1.sub (Hp.sub_un_left _ _),p2.sub (Hp.sub_un_left _ _)⟩
 · rw [List.length_set];exact ok.gl
 · rcases List.mem_or_eq_of_mem_set hg2 with h3 | h3
   · exact ok.fit g2 h3
   · rw [h3];exact hf
theorem rload_any(refs:Int)(h:Hp)(vc vl:Value)(cs:List Int)(l:List NumV)(hx:Ints h vc cs)(hl:NumsIn h vl l)(hn:l.length≤65536)(F:Pr)(w:World)(hF:Sat ((Pr.own h).star F) w):
 Calls Tryz.prog 29 #[.int .i64 refs,vc,vl] w fun e w'=>Stays w w'∧
  (((loadE refs cs l).1≠0∧e= .returned (.tuple #[.pointer none,.int .i64 (loadE refs cs l).1])∧Sat ((Pr.own h).star F) w')∨
   ((loadE refs cs l).1=0∧∃r,e= .returned (.tuple #[.pointer (some ⟨r,0,none⟩),.int .i64 0])∧Sat ((RefA r (poolOf refs cs 0) (pgsOf cs.length (loadE refs cs l).2) (quietT false)).star ((Pr.own h).star F)) w')):=by
 obtain⟨al,cl,rfl,rd⟩:=nums_rd hl;obtain⟨ac,cc,rfl,rc⟩:=ints_rd hx;have RD:=hQ rd;have RC:=hQ rc;have hn0:(l.length:Int)≤65536:=by omega
 clear rd rc hl hx;cases hr:rangeOk cs.length refs with
 | false=>
   have NB:=fun wx=>hQ (rnew_bad cs.length refs hr wx)
   have HR:=hQ hr;clear hr;go_enter Tryz.func29,Tryz.ntmps29
   go_wp2_with fail
   refine(NB _).out.mono ?_;rintro e w1 ⟨rfl,rfl⟩;go_wp2;go_ret2;refine⟨Stays.refl _,.inl ?_⟩;rw [loadE_range HR.out];exact⟨by decide,rfl,hF⟩
 | true=>
   have hnc:cs.length≤65536:=by have:=rangeOk_iff.1 hr;omega
   have hnc0:(cs.length:Int)≤65536:=by omega
   have NW:=hQ (rnew_any cs.length refs hr _ w hF);have HR:=hQ hr;clear hr hF;go_enter Tryz.func29,Tryz.ntmps29
   go_wp2_with fail
   refine NW.out.mono ?_;rintro e w1 ⟨hst1,r,rfl,hs1⟩;obtain⟨x,ok,hs2⟩:=refA_iff.1 hs1;have OK:=hQ ok;have HS2:=hQ hs2;have HST1:=hQ hst1;clear hs1 hs2 ok hst1 NW;go_wp2_with fail
   go_loopw [10,11] (fun lw i wr=> ∃(k:Nat) (us:List Int) (bs:List Bool),k≤cs.length∧i= .int .i64 k∧Stays w wr∧us.length=cs.length∧bs.length=cs.length∧Hid (∀i,i<k→us[i]? =cs[i]?)∧Hid (∀i,i<k→bs[i]? =(lastsOf cs)[i]?)∧Hid (∀i,i<k→0≤cs.getD i 0∧cs.getD i 0≤refs)∧
    Sat ((RefAt r (lawS refs us bs) (List.replicate cs.length zeroP) (quietT false) x).star ((Row 4 1 lw k (List.replicate k (.bool false))).star ((Pr.own h).star F))) wr) (fun _ i _=>cs.length-(intOf i).toNat)
   case atStart=>
    refine⟨0,List.replicate cs.length 0,List.replicate cs.length false,Nat.zero_le _,rfl,HST1.out,by simp,by simp,hQ (fun i hi=>absurd hi (by omega)),hQ (fun i hi=>absurd hi (by omega)),hQ (fun i hi=>absurd hi (by omega)),?_⟩;show Sat ((RefAt r _ _ (quietT false) x).star ((Row 4 1 (.slice none 0 0) 0 []).star ((Pr.own h).star F))) _
    rw [Row.nil,Pr.emp_star];exact HS2.out
   case round=>
    obtain⟨k,us,bs,hkl,rfl,hst,hul,hbl,hus,hbs,hck,hs⟩:=hrel;obtain⟨aw,dw,rfl,_,_⟩:=Row.read hs.right;rcases Nat.lt_or_ge k cs.length with hlt | hge
    · obtain⟨b,off,rfl,c1⟩:=RC.out k hlt
      have q0:=c1 wr hs.right.right.own;have hcm:cs.getD k 0∈cs:=by simp [hlt]
      have hcg:cs.getD k 0=cs[k]:=by simp [hlt]
      have HCM:=hQ hcm;have HCG:=hQ hcg;have HC1:=hQ c1;have HUL:=hQ hul;have HBL:=hQ hbl;clear c1 hcm hcg hul hbl;generalize cs.getD k 0=c at*;by_cases hc0:c<0
      · have HC0:=hQ hc0
        have HS:=hQ hs;clear hs;go_wp2;go_ret2;refine⟨hst,.inl ?_⟩;rw [loadE_bad HR.out (badC_min ⟨c,HCM.out,HC0.out⟩)];exact⟨(show (13:Int)≠0 by decide),rfl,HS.out.right.right⟩
      by_cases hc1:refs<c
      · have HC0:=hQ hc1
        have HS:=hQ hs;clear hs;go_wp2;go_ret2;refine⟨hst,.inl ?_⟩;rw [loadE_bad HR.out (badC_max ⟨c,HCM.out,HC0.out⟩)];exact⟨(show (13:Int)≠0 by decide),rfl,HS.out.right.right⟩
      have HC0:=hQ (show 0≤c∧c≤refs by omega);have hsd:=hs;have hk1:k<(lawS refs us bs).counts.length:=by show k<us.length;rw [HUL.out];exact hlt
      obtain⟨b1,d1,ecv,k0,kf,wr1⟩:=ref_wr_count hsd hk1;have hp7:=pts7 (hs.perm (B:=(Pr.pts r (refC refs x.cv x.lv x.pv (quietT false))).star ((IntsRow x.cv us).star ((BoolsRow x.lv bs).star ((PgRow x.pv x.xs (List.replicate cs.length zeroP)).star ((Pr.own x.h).star ((Row 4 1 (.slice aw k dw) k (List.replicate k (.bool false))).star ((Pr.own h).star F))))))) (by unfold RefAt;ac_rfl))
      obtain⟨q1,q2,q3,_,z,_⟩:=hp7;rw [ecv] at q1;have eul:(lawS refs us bs).counts.length=cs.length:=HUL.out;rw [eul] at q1 ecv;have W1:=(wr1 c).drew;have HECV:=hQ ecv;have HST:=hQ hst;clear hs hsd wr1 hst hk1 eul ecv;go_wp2_with fail
      refine wS 134 [0,1,2,3,4,5,6,7,8,9] [(10,[],[])] ?_;refine wpQ_all _ rfl rfl ?_;simp only [pick,pQ];iterate 10 (go_big_quiet_step (fail))
      refine wpQuiet_nil ?_;refine wpRest_act rfl ?_;go_wp2;refine onN_mk (wpQ_nil ⟨chk_nil,wpRest_nil ?_⟩);have hst2:=(HST.out.setCell ⟨b1,k,none⟩ (.int .i64 c)).drew;generalize (wr.setCell ⟨b1,k,none⟩ (.int .i64 c)).drew=w5 at*;have q05:=HC1.out w5 W1.right.right.own;have hk2:k<(lawS refs (us.set k c) bs).last.length:=by show k<bs.length;rw [HBL.out];exact hlt
      obtain⟨b2,d2,elv,m0,mf,wr2⟩:=ref_wr_last (s:=lawS refs (us.set k c) bs) W1 hk2
      have hp7:=pts7 (W1.perm (B:=(Pr.pts r (refC refs x.cv x.lv x.pv (quietT false))).star ((IntsRow x.cv (us.set k c)).star ((BoolsRow x.lv bs).star ((PgRow x.pv x.xs (List.replicate cs.length zeroP)).star ((Pr.own x.h).star ((Row 4 1 (.slice aw k dw) k (List.replicate k (.bool false))).star ((Pr.own h).star F))))))) (by unfold RefAt;ac_rfl));clear q1 q2 q3 z;obtain⟨q1,q2,q3,_,z,_⟩:=hp7
      rw [elv] at q2;have ebl:(lawS refs (us.set k c) bs).last.length=cs.length:=HBL.out;rw [ebl] at q2 elv;have W2:=(wr2 (decide (0<c))).drew;have HST2:=hQ hst2;clear W1 wr2 hst2 hk2 ebl elv q0 k0 kf;go_wp2_with fail
      refine wS 134 [0,1,2,3,4,5,6,7,8,9,10] [(11,[],[])] ?_;refine wpQ_all _ rfl rfl ?_;simp only [pick,pQ];iterate 11 (go_big_quiet_step (fail))
      refine wpQuiet_nil ?_;refine wpRest_act rfl ?_;go_wp2;refine onN_mk (wpQ_nil ⟨chk_nil,wpRest_nil ?_⟩);have hst3:=(HST2.out.setCell ⟨b2,k,none⟩ (.bool (decide (0<c)))).drew;generalize (w5.setCell ⟨b2,k,none⟩ (.bool (decide (0<c)))).drew=w6 at*;obtain⟨j0,hj,hy0,hy1,hy2⟩:=info_parts infoBool;have A2:=hQ ((W2.perm (Pr.left_comm _ _ _)).alloc (.cells #[.bool false] 4)).right
      have hnew2:=hQ (new_cells w6 [.bool false] 4 w6.heap.size rfl);have HST3:=hQ hst3;clear W2 hst3 q05 q1 q2 q3 z m0 mf
      go_wp2_with (
       at_builtin
       refine wpList_append_sl rfl _ _ _ rfl 4 j0 (.bool false) 1 1 Tryz.underlying47 hj hy0 hy1 hy2 rfl _ _ _ rfl A2.out ⟨w6.heap.size,0,none⟩ 1 1 [.bool false] rfl rfl hnew2.out (by simp [Value.oneCell']) (by simp only [maxLen];omega) (by omega) ?_
       intro v7 w7 hs7 hg7 _
       obtain⟨a7',c7',e7',_,_⟩:=Row.read hs7
       subst e7'
       have HS7:=hQ hs7
       have HG7:=hQ hg7
       clear hs7 hg7)
      refine⟨⟨k+1,us.set k c,bs.set k (decide (0<c)),by omega,congrArg (Value.int .i64) (by omega),(HST3.out.alloc _).of_grown HG7.out,by rw [List.length_set];exact HUL.out,by rw [List.length_set];exact HBL.out,hQ ?_,hQ ?_,hQ ?_,?_⟩,by simp [intOf];omega⟩
      · rw [HCG.out];exact fill_step HUL.out hlt hus.out
      · have hl2:k<(lastsOf cs).length:=by simpa [lastsOf] using hlt
        have e2:decide (0<c)=(lastsOf cs)[k]:=by rw [HCG.out];simp [lastsOf]
        rw [e2];exact fill_step (by rw [HBL.out];simp [lastsOf]) hl2 hbs.out
      · intro i hi
        by_cases he:i=k
        · subst he
          have:cs.getD i 0=c:=by rw [HCG.out];simp [hlt]
          rw [this];exact HC0.out
        · exact hck.out i (by omega)
      · rw [← rep_snoc]
        exact HS7.out.perm (Pr.left_comm _ _ _)
    · have hkn2:k=cs.length:=by omega
      subst hkn2;have e1:us=cs:=filled hul hus.out;have e2:bs=lastsOf cs:=filled (by rw [hbl];simp [lastsOf]) (by intro i hi;exact hbs.out i (by simpa [lastsOf] using hi));subst e1 e2
      have hbad:badC refs us=false:=by
       refine List.any_eq_false.2 fun c hc=> ?_
       obtain⟨i,hi,rfl⟩:=List.getElem_of_mem hc;have:=hck.out i hi
       simp only [List.getD_eq_getElem?_getD,List.getElem?_eq_getElem hi,Option.getD_some] at this;simp only [decide_eq_true_eq];omega
      have HLE:=hQ (loadE_lay (l:=l) HR.out hbad);have hpos:∀c∈us,0≤c:=fun c hc=>(badC_false hbad c hc).1
      have hra:Sat ((RefA r (poolOf refs us 0) (pgsOf us.length fun _=>none) (quietT false)).star ((LaidRow (.slice aw us.length dw) (laidOf us.length fun _=>none)).star ((Pr.own h).star F))) wr:=by
       rw [pgsOf_none,laidOf_none];refine refA_iff.2 ⟨x,⟨OK.out.pgs,by simp [lastsOf],by simp,hnc,hpos,OK.out.fit⟩,?_⟩;unfold LaidRow;rw [List.length_replicate,List.map_replicate];exact hs
      have HRA:=hQ hra;have HST:=hQ hst;have HPOS:=hQ hpos;clear hs hra hst hpos hbad hus hbs hck hul hbl HS2 OK HST1;go_wp2_with fail
      go_loopw [12] (fun i wr=> ∃(k:Nat) (on:Int→Option PageV),k≤l.length∧i= .int .i64 k∧Stays w wr∧Hid (lay us (l.drop k) on=lay us l fun _=>none)∧Hid (OnOk us on)∧
       Sat ((RefA r (poolOf refs us 0) (pgsOf us.length on) (quietT false)).star ((LaidRow (.slice aw us.length dw) (laidOf us.length on)).star ((Pr.own h).star F))) wr) (fun i _=>l.length-(intOf i).toNat)
      case atStart=>exact⟨0,fun _=>none,Nat.zero_le _,rfl,HST.out,hQ rfl,hQ (OnOk.none us),HRA.out⟩
      case round=>
       obtain⟨k,on,hkl,rfl,hst,hlay,hon,hs⟩:=hrel;rcases Nat.lt_or_ge k l.length with hlt | hge
       · obtain⟨b,off,ai,ci,ad,cd,rfl,hpg,hcell⟩:=RD.out k hlt
         obtain⟨c0,_⟩:=hcell wr hs.right.right.own;have hlay1:=hlay.out;rw [List.drop_eq_getElem_cons hlt] at hlay1;have HLAY:=hQ hlay1;have HCELL:=hQ hcell;clear hlay hlay1 hcell;generalize l[k]=x at*;have RT:=hQ (rthere_any r (poolOf refs us 0) _ (quietT false) x.no _ wr hs);rw [show (poolOf refs us 0).count x.no=cntL us x.no from count_poolOf refs us x.no] at RT;by_cases hc0:cntL us x.no=0
         · rw [hc0] at RT
           have HC0:=hQ hc0;have HS:=hQ hs;clear hs;go_wp2_with fail
           refine RT.out.mono ?_;rintro e w4 ⟨rfl,rfl⟩;go_wp2;go_ret2;refine⟨hst,.inl ?_⟩;have e:lay us l (fun _=>none)=(15,on):=by rw [← HLAY.out];unfold lay;rw [if_pos HC0.out]
           rw [HLE.out,e,if_pos (show (15:Int)≠0 by decide)];exact⟨(show (15:Int)≠0 by decide),rfl,HS.out.right.right⟩
         obtain⟨hb1,hb2⟩:=cntL_bd hc0;obtain⟨j,hno,hj⟩:∃j:Nat,x.no=(j:Int)+1∧j<us.length:=⟨x.no.toNat-1,by omega,by omega⟩
         have hcp:0<cntL us x.no:=by
          have hm:us.getD j 0∈us:=by simp [hj]
          have h1:cntL us x.no=us.getD j 0:=by unfold cntL;rw [if_pos ⟨hb1,hb2⟩,show x.no.toNat-1=j by omega]
          have:=HPOS.out _ hm
          omega
         rw [decide_eq_true hcp,hno] at RT;rw [hno] at c0;have HC0:=hQ hc0;have HNO:=hQ hno;have HJ:=hQ hj;have hjl:j<(laidOf us.length on).length:=by unfold laidOf;simpa using hj
         obtain⟨al2,cl2,el2,_,hrl⟩:=Row.read hs.right;obtain⟨bw,ebw,hrl2⟩:=hrl (by omega);rw [show (laidOf us.length on).length=us.length by simp [laidOf]] at el2;cases el2;subst ebw
         have hlc:wr.cell? ⟨bw,j,none⟩=some (.bool (on ((j:Int)+1)).isSome):=by
          rw [(hrl2 j (by omega)).1];have:=laidOf_at (on:=on) hj
          rw [List.getD_eq_getElem?_getD,List.getElem?_eq_getElem hjl] at this;rw [List.getElem?_map,List.getElem?_eq_getElem hjl];simpa using this
         have hlf:=(hrl2 j (by omega)).2;clear hrl hrl2 hcp hc0 hb1 hb2 hno;cases hox:on ((j:Int)+1) with
         | some g=>
           rw [hox] at hlc;have HS:=hQ hs;clear hs;go_wp2_with fail
           refine RT.out.mono ?_;rintro e w4 ⟨rfl,rfl⟩;go_wp2;go_ret2;refine⟨hst,.inl ?_⟩;have e:lay us l (fun _=>none)=(10,on):=by rw [← HLAY.out];unfold lay;rw [if_neg HC0.out,if_pos (by rw [HNO.out,hox];rfl)]
           rw [HLE.out,e,if_pos (show (10:Int)≠0 by decide)];exact⟨(show (10:Int)≠0 by decide),rfl,HS.out.right.right⟩
         | none=>
         rw [hox] at hlc;obtain⟨_,c1,c2,c3,c4,c5⟩:=HCELL.out wr hs.right.right.own;have RK:=fun wx hx=>hQ (rcheck_any x.page h _ hpg wx hx)
         have HS:=hQ hs;have HST2:=hQ hst;clear hs hst;go_wp2_with fail
         refine RT.out.mono ?_;rintro e w4 ⟨rfl,rfl⟩;go_wp2_with fail
         refine(RK _ HS.out.right.right.own).out.mono ?_;rintro e w5 ⟨rfl,ho5⟩;have hs5:=HS.out.only ho5;have hst5:=HST2.out.trans ho5.st;clear c0 c1 c2 c3 c4 c5 hlc hlf HS HST2 RK ho5;by_cases hcp:checkP x.page=0
         · have hcn:(checkP x.page != 0)=false:=by rw [bne_eq_false_iff_eq];exact hcp
           have HCP:=hQ hcp;have hfit:=fit_of_check hcp;have HFIT:=hQ hfit;obtain⟨al2,cl2,el2,_,hrl⟩:=Row.read hs5.right;obtain⟨bw2,ebw,hrl2⟩:=hrl (by omega);rw [show (laidOf us.length on).length=us.length by simp [laidOf]] at el2;cases el2;cases ebw;have hlc:∃u,w5.cell? ⟨bw,j,none⟩=some u:=⟨_,(hrl2 j (by omega)).1.trans (by rw [List.getElem?_map,List.getElem?_eq_getElem hjl];rfl)⟩
           obtain⟨u0,hlc⟩:=hlc;have hlf:=(hrl2 j (by omega)).2;have hL:=hs5.perm (Pr.left_comm _ _ _)
           have hL2:Sat ((Row 4 1 (.slice (some ⟨bw,0,none⟩) us.length dw) us.length ((laidOf us.length on).map Value.bool)).star ((RefA r (poolOf refs us 0) (pgsOf us.length on) (quietT false)).star ((Pr.own h).star F))) w5:=by
            have e:=show (laidOf us.length on).length=us.length by simp [laidOf]
            unfold LaidRow at hL;rw [e] at hL;exact hL
           have hL3:=Row.set hL2 j (by simpa [laidOf] using hj) (.bool true);have hz5:bw<w5.heap.size:=World.block_lt_of_cell? _ _ hlc;have hst6:=hst5.setCell ⟨bw,j,none⟩ (.bool true);have HL3:=hQ hL3;have HST6:=hQ hst6;clear hrl hrl2 hL hL2 hL3 hs5 hst5 hst6 hcp hfit;go_wp2_with fail
           generalize w5.setCell ⟨bw,j,none⟩ (.bool true)=w6 at*;clear hlc hlf hz5;obtain⟨x2,ok2,hsR⟩:=refA_iff.1 (HL3.out.perm (Pr.left_comm _ _ _));have hjg:j<(pgsOf us.length on).length:=by simpa [pgsOf] using hj
           obtain⟨b8,d8,epv,_,_⟩:=ref_wr_page ok2.pgs.len hsR hjg
           obtain⟨_,_,q3,_,z,_⟩:=pts7 (hsR.perm (B:=(Pr.pts r (refC refs x2.cv x2.lv x2.pv (quietT false))).star ((IntsRow x2.cv us).star ((BoolsRow x2.lv (lastsOf us)).star ((PgRow x2.pv x2.xs (pgsOf us.length on)).star ((Pr.own x2.h).star ((Row 4 1 (.slice (some ⟨bw,0,none⟩) us.length dw) us.length (((laidOf us.length on).map Value.bool).set j (.bool true))).star ((Pr.own h).star F))))))) (by unfold RefAt;ac_rfl))
           rw [epv,show (pgsOf us.length on).length=us.length by simp [pgsOf]] at q3;have EPV:=hQ epv;obtain⟨_,c1,c2,c3,c4,c5⟩:=HCELL.out w6 hsR.right.right.own
           have CP:=hQ (copypage_any h _ x.page hpg (by have:=HFIT.out.n;omega) (fun y hy=>by have:=fit_keys HFIT.out y hy;omega) (by have:=HFIT.out.d;omega) _ w6.drew ((hsR.drew).perm (B:=(Pr.own h).star ((RefAt r (poolOf refs us 0) (pgsOf us.length on) (quietT false) x2).star ((Row 4 1 (.slice (some ⟨bw,0,none⟩) us.length dw) us.length (((laidOf us.length on).map Value.bool).set j (.bool true))).star F))) (by ac_rfl)))
           have OK2:=hQ ok2;clear hsR ok2 HL3 epv;go_wp2_with fail
           refine wS 134 [0,1,2,3,4,5,6,7,8,9,10] [(11,[12],[0,1,2,3,4,5,6,7,8,9]),(13,[],[])] ?_;refine wpQ_all _ rfl rfl ?_;simp only [pick,pQ];iterate 11 (go_big_quiet_step (fail))
           refine wpQuiet_nil ?_;refine wpRest_act rfl ?_;go_wp2_with fail
           refine CP.out.mono ?_;rintro e w7 ⟨pv,h',rfl,hpv,hs7,st7⟩;obtain⟨vi,vd,rfl,hit,hby⟩:=id hpv;obtain⟨a8,c8,rfl,_,_⟩:=items_rd hit;obtain⟨a9,c9,rfl⟩:=bytes_shape hby
           have H7:Sat ((RefAt r (poolOf refs us 0) (pgsOf us.length on) (quietT false) x2).star ((Pr.own h').star ((Row 4 1 (.slice (some ⟨bw,0,none⟩) us.length dw) us.length (((laidOf us.length on).map Value.bool).set j (.bool true))).star ((Pr.own h).star F)))) w7:=hs7.perm (by ac_rfl);obtain⟨b9,d9,epv,hcl,wr8⟩:=ref_wr_page OK2.out.pgs.len H7 hjg;rw [EPV.out] at epv;cases epv
           obtain⟨g0,u0,k0⟩:=hcl 0 (by omega);obtain⟨g1,u1,k1⟩:=hcl 1 (by omega);obtain⟨g2,u2,k2⟩:=hcl 2 (by omega);obtain⟨g3,u3,k3⟩:=hcl 3 (by omega);obtain⟨g4,u4,k4⟩:=hcl 4 (by omega);rw [Nat.add_zero] at g0 k0;have W8:=hQ (wr8 x.page (.slice a8 x.page.items.length c8) (.slice a9 x.page.data.length c9));have HST7:=hQ (HST6.out.drew.trans st7)
           have q37:w7.cell? ⟨r,3,none⟩=some (.slice (some ⟨b8,0,none⟩) us.length d8):=by
            have:=(pts7 (H7.perm (B:=(Pr.pts r (refC refs x2.cv x2.lv x2.pv (quietT false))).star ((IntsRow x2.cv us).star ((BoolsRow x2.lv (lastsOf us)).star ((PgRow x2.pv x2.xs (pgsOf us.length on)).star ((Pr.own x2.h).star ((Pr.own h').star ((Row 4 1 (.slice (some ⟨bw,0,none⟩) us.length dw) us.length (((laidOf us.length on).map Value.bool).set j (.bool true))).star ((Pr.own h).star F)))))))) (by unfold RefAt;ac_rfl))).2.2.1
            rw [EPV.out,show (pgsOf us.length on).length=us.length by simp [pgsOf]] at this;exact this
           have zk:=World.block_lt_of_cell? _ _ k0;have zr:=World.block_lt_of_cell? _ _ q37;clear q3 z c1 c2 c3 c4 c5;obtain⟨_,c1,c2,c3,c4,c5⟩:=HCELL.out w7 H7.right.right.right.own;have HPV:=hQ hpv;clear hs7 st7 H7 hcl wr8 hit hby CP hpv;go_wp2;refine onN_mk ?_;refine wpQ_all _ rfl rfl ?_;simp only [pick,pQ];iterate 1 (go_big_quiet_step (fail))
           refine wpQuiet_nil ⟨?_,?_⟩
           · exact cQ
           refine wpRest_act rfl ?_;go_wp2;refine onN_mk (wpQ_nil ⟨chk_nil,wpRest_nil ?_⟩);have W9:=W8.out;have T9:=((((HST7.out.setCell ⟨b8,j*5,none⟩ (.int .i64 x.page.kind)).setCell ⟨b8,j*5+1,none⟩ (.int .i64 x.page.level)).setCell ⟨b8,j*5+2,none⟩ (.slice a8 x.page.items.length c8)).setCell ⟨b8,j*5+3,none⟩ (.slice a9 x.page.data.length c9)).setCell ⟨b8,j*5+4,none⟩ (.int .i64 x.page.next)
           generalize (((((w7.setCell ⟨b8,j*5,none⟩ (.int .i64 x.page.kind)).setCell ⟨b8,j*5+1,none⟩ (.int .i64 x.page.level)).setCell ⟨b8,j*5+2,none⟩ (.slice a8 x.page.items.length c8)).setCell ⟨b8,j*5+3,none⟩ (.slice a9 x.page.data.length c9)).setCell ⟨b8,j*5+4,none⟩ (.int .i64 x.page.next))=w8 at*;clear g0 g1 g2 g3 g4 k0 k1 k2 k3 k4 c1 c2 c3 c4 c5 q37 zk zr W8;go_wp2;go_roundw
           case rel=>
            have h10:=ref_put OK2.out HPV.out HFIT.out W9;rw [pgsOf_put] at h10;refine⟨k+1,fun m=>if m=(j:Int)+1 then some x.page else on m,by omega,congrArg (Value.int .i64) (by omega),T9,hQ ?_,hQ ?_,?_⟩
            · rw [← HLAY.out]
              conv=>rhs;unfold lay
              rw [if_neg HC0.out,if_neg (by rw [HNO.out,hox];decide),if_neg (by rw [HCP.out];decide),HNO.out]
            · have:=hon.out.put HC0.out HCP.out
              rw [HNO.out] at this;exact this
            · have e7:=laidOf_put (n:=us.length) (on:=on) (j:=j) x.page
              unfold LaidRow;rw [← e7,List.length_set,show (laidOf us.length on).length=us.length by simp [laidOf],List.map_set];exact h10
           case measure=>simp [intOf];omega
         · have hcn:(checkP x.page != 0)=true:=by rw [bne_iff_ne];exact hcp
           have HCP:=hQ hcp;have HS:=hQ hs5;clear hs5 hcp;go_wp2;go_ret2;refine⟨hst5,.inl ?_⟩;have e:lay us l (fun _=>none)=(checkP x.page,on):=by rw [← HLAY.out];unfold lay;rw [if_neg HC0.out,if_neg (by rw [HNO.out,hox];decide),if_pos HCP.out]
           rw [HLE.out,e,if_pos HCP.out];exact⟨HCP.out,rfl,HS.out.right.right⟩
       · have hkl2:k=l.length:=by omega
         subst hkl2;have hlay1:=hlay.out;rw [List.drop_length] at hlay1;have HLAY:=hQ (show lay us l (fun _=>none)=(0,on) from hlay1.symm);have HS:=hQ hs;have HST2:=hQ hst;have hll:(laidOf us.length on).length=us.length:=by simp [laidOf]
         have HLL:=hQ hll;clear hlay hlay1 hs hst hll;go_wp2_with fail
         go_loopw [15] (fun i wz=> ∃k:Nat,k≤us.length∧i= .int .i64 k∧wz=wr∧Hid (∀i,i<k→us.getD i 0≠0→on ((i:Int)+1)≠none)) (fun i _=>us.length-(intOf i).toNat)
         case atStart=>exact⟨0,Nat.zero_le _,rfl,rfl,hQ (fun i hi=>absurd hi (by omega))⟩
         case round=>
          obtain⟨k,hk3,rfl,rfl,hall⟩:=hrel;rcases Nat.lt_or_ge k us.length with hlt | hge
          · obtain⟨b,off,rfl,c1⟩:=RC.out k hlt
            have q0:=c1 wr HS.out.right.right.own;have hm:us.getD k 0∈us:=by simp [hlt]
            have hc0:=HPOS.out _ hm;obtain⟨al2,cl2,el2,_,hrl⟩:=Row.read HS.out.right;obtain⟨bw,ebw,hrl2⟩:=hrl (by rw [HLL.out];omega);rw [HLL.out] at el2;cases el2;subst ebw
            have hlc:wr.cell? ⟨bw,k,none⟩=some (.bool (on ((k:Int)+1)).isSome):=by
             rw [(hrl2 k (by rw [HLL.out];omega)).1];have:=laidOf_at (on:=on) hlt
             have hjl:k<(laidOf us.length on).length:=by rw [HLL.out];exact hlt
             rw [List.getD_eq_getElem?_getD,List.getElem?_eq_getElem hjl] at this;rw [List.getElem?_map,List.getElem?_eq_getElem hjl];simpa using this
            have HD:=hQ (show us.getD k 0=us.getD k 0 from rfl);obtain⟨c,hc⟩:∃c,c=us.getD k 0:=⟨_,rfl⟩;rw [← hc] at q0 hc0;have HC:=hQ hc;clear c1 hm hrl hrl2 HD hc;by_cases hz:c=0
            · subst hz
              go_wp2;go_roundw
              case rel=>
               refine⟨k+1,by omega,congrArg (Value.int .i64) (by omega),trivial,hQ fun i hi hne=> ?_⟩;by_cases he:i=k
               · subst he;exact absurd HC.out.symm hne
               · exact hall.out i (by omega) hne
              case measure=>simp [intOf];omega
            · have hp:0<c:=by omega
              cases hox:on ((k:Int)+1) with
              | none=>
                rw [hox] at hlc;go_wp2;go_ret2;refine⟨HST2.out,.inl ?_⟩
                have hlk:lacks us on=true:=lacks_iff.2 ⟨(k:Int)+1,held_mem.2 (by
                 unfold cntL
                 rw [if_pos (by omega),show ((k:Int)+1).toNat-1=k by omega, ← HC.out]
                 exact hz),hox⟩
                rw [HLE.out,HLAY.out,if_neg (show ¬(0:Int)≠0 by decide),if_pos hlk];exact⟨(show (9:Int)≠0 by decide),rfl,HS.out.right.right⟩
              | some g=>
                rw [hox] at hlc;go_wp2;go_roundw
                case rel=>
                 refine⟨k+1,by omega,congrArg (Value.int .i64) (by omega),trivial,hQ fun i hi hne=> ?_⟩;by_cases he:i=k
                 · subst he;rw [hox];exact fun h=>by cases h
                 · exact hall.out i (by omega) hne
                case measure=>simp [intOf];omega
          · have hkn3:k=us.length:=by omega
            subst hkn3;have HALL:=hQ hall.out;clear hall;go_wp2;go_ret2;refine⟨HST2.out,.inr ?_⟩
            have hlk:lacks us on=false:=by
             cases hq:lacks us on with
             | false=>rfl
             | true=>
               obtain⟨y,hy,hn9⟩:=lacks_iff.1 hq;have hcy:=held_mem.1 hy;obtain⟨y1,y2⟩:=cntL_bd hcy;unfold cntL at hcy;rw [if_pos ⟨y1,y2⟩] at hcy;have:=HALL.out (y.toNat-1) (by omega) hcy
               rw [show (((y.toNat-1:Nat):Int))+1=y by omega] at this;exact absurd hn9 this
            rw [HLE.out,HLAY.out,if_neg (show ¬(0:Int)≠0 by decide),if_neg (by rw [hlk];decide)];exact⟨rfl,r,rfl,(HS.out.perm (Pr.left_comm _ _ _)).right⟩
end Go.Proofs.YtbobcmimkonnoaaGreat.Y7
namespace Go.Proofs.YtbobcmimkonnoaaGreat.K8
open ChangeShapes WideShapes ChangeAt RowKit Sl Cop M3 D4 M2 N2 Y2 E4 G4 E5 G6 J4 Y7
def markB(i:Nat):Int:=bits .xor .i64 165 (i:Int) % 256
def spareL(l:List Int):List Int:=l++(List.range 64).map fun i=>markB (l.length+i)
theorem spareL_len(l:List Int):(spareL l).length=l.length+64:=by simp [spareL]
theorem spareL_low {l:List Int}{k:Nat}(h:k<l.length):(spareL l)[k]'(by rw [spareL_len];omega)=l.getD k 0:=by
 unfold spareL;rw [List.getElem_append_left h];simp [h]
theorem spareL_high {l:List Int}{k:Nat}(h:l.length≤k)(h2:k<l.length+64):(spareL l)[k]'(by rw [spareL_len];omega)=markB k:=by
 unfold spareL;rw [List.getElem_append_right h];simp only [List.getElem_map,List.getElem_range];rw [show l.length+(k-l.length)=k by omega]
abbrev WholeRow(b:Nat)(l:List Int):Pr:=Row 5 1 (.slice (some ⟨b,0,none⟩) (l.length+64) (l.length+64)) (l.length+64) ((spareL l).map (Value.int .u8))
theorem row_made1 {F:Pr}{w:World}(T:Nat)(z:Value)(n:Nat)(hn:n≤maxLen)(h:Sat F w):
 Sat ((Row T 1 (.slice (some ⟨w.heap.size,0,none⟩) n n) n (List.replicate n z)).star F) (w.alloc (.cells (madeCells #[z] n) T)):=row_made T z n hn h
theorem spare_any(h:Hp)(v:Value)(l:List Int)(F:Pr)(w:World)(hF:Sat ((Pr.own h).star F) w)(hx:Bytes h v l)(hn:l.length≤140737488351232):
 Calls Tryz.prog 83 #[v] w fun e w'=> ∃b,e= .returned (.slice (some ⟨b,0,none⟩) l.length (l.length+64))∧Sat ((WholeRow b l).star ((Pr.own h).star F)) w'∧Stays w w':=by
 obtain⟨a,c,rfl,r1⟩:=bytes_rd hx;obtain⟨i0,hi,hz0,hz1,hz2⟩:=info_parts infoByte
 have hmk:∀wx:World,(Instr.makeSlice 29 (.int .i64 ((l.length:Int)+64)) (.int .i64 ((l.length:Int)+64))).run Tryz.prog wx= .ok (.slice (some ⟨wx.heap.size,0,none⟩) (l.length+64) (l.length+64)) (wx.alloc (.cells (madeCells #[.int .u8 0] (l.length+64)) 5)):=by
  intro wx;have:=run_make (P:=Tryz.prog) wx 29 5 i0 (.int .u8 0) Tryz.underlying29 hi hz0 .i64 .i64 ((l.length:Int)+64) ((l.length:Int)+64) (by omega) (by omega) (by rw [hz2];omega) (by omega)
  rw [hz1,show ((l.length:Int)+64).toNat=l.length+64 by omega,Nat.mul_one] at this;exact this
 have h2:=hQ (row_made1 5 (.int .u8 0) (l.length+64) (by simp only [maxLen];omega) hF);have R1:=hQ r1;have hn0:(l.length:Int)≤140737488351232:=by omega
 clear hF hx r1;go_enter Tryz.func83,Tryz.ntmps83
 go_wp2;go_loopw [4] (fun i wr=> ∃(k:Nat) (zs:List Int),k≤l.length+64∧i= .int .i64 k∧Stays w wr∧zs.length=l.length+64∧Hid (∀i,i<k→zs[i]? =(spareL l)[i]?)∧Sat ((Row 5 1 (.slice (some ⟨w.heap.size,0,none⟩) (l.length+64) (l.length+64)) (l.length+64) (zs.map (Value.int .u8))).star ((Pr.own h).star F)) wr) (fun i _=>l.length+64-(intOf i).toNat)
 case atStart=>
  refine⟨0,List.replicate (l.length+64) 0,Nat.zero_le _,rfl,(Stays.refl w).alloc _,by simp,hQ (fun i hi=>absurd hi (by omega)),?_⟩;rw [List.map_replicate];exact h2.out
 case round=>
  obtain⟨k,zs,hk,rfl,hst,hzl,hfill,hs⟩:=hrel;have HZL:=hQ hzl;clear hzl;rcases Nat.lt_or_ge k (l.length+64) with hlt | hge
  · obtain⟨_,_,e,_,hc⟩:=Row.read hs
    cases e;obtain⟨b,eb,hd⟩:=hc (by omega);cases eb
    have k0:∃u,wr.cell? ⟨w.heap.size,k,none⟩=some u:=by
     have:=(hd k (by omega)).1
     rw [List.getElem?_eq_getElem (by rw [List.length_map,HZL.out];omega)] at this;exact⟨_,this⟩
    obtain⟨u,k0⟩:=k0;have kf:=(hd k (by omega)).2;have kz:=World.block_lt_of_cell? _ _ k0;clear hc hd;have HS:=hQ hs;have HSTK:=hQ hst;clear hst;rcases Nat.lt_or_ge k l.length with hl1 | hl1
    · obtain⟨b,off,rfl,c1⟩:=R1.out k hl1
      have q1:=c1 wr hs.right.own;have HLO:=hQ (spareL_low hl1);clear c1 hs;generalize l.getD k 0=x at*;go_wp2;refine⟨⟨k+1,zs.set k (x),by omega,congrArg (Value.int .i64) (by omega),HSTK.out.setCell _ _,by rw [List.length_set];exact HZL.out,hQ ?_,?_⟩,by simp [intOf];omega⟩
      · have e:x=(spareL l)[k]'(by rw [spareL_len];omega):=HLO.out.symm
        rw [e];exact fill_step (by rw [spareL_len];exact HZL.out) (by rw [spareL_len];exact hlt) hfill.out
      · rw [List.map_set]
        exact Row.set HS.out k (by rw [List.length_map,HZL.out];exact hlt) _
    · have HHI:=hQ (spareL_high hl1 hlt)
      clear hs;go_wp2;refine⟨⟨k+1,zs.set k (bits .xor .i64 165 (k:Int) % 256),by omega,congrArg (Value.int .i64) (by omega),HSTK.out.setCell _ _,by rw [List.length_set];exact HZL.out,hQ ?_,?_⟩,by simp [intOf];omega⟩
      · have e:bits .xor .i64 165 (k:Int) % 256=(spareL l)[k]'(by rw [spareL_len];omega):=HHI.out.symm
        rw [e];exact fill_step (by rw [spareL_len];exact HZL.out) (by rw [spareL_len];exact hlt) hfill.out
      · rw [List.map_set]
        exact Row.set HS.out k (by rw [List.length_map,HZL.out];exact hlt) _
  · have hkl:k=l.length+64:=by omega
    subst hkl;have e1:zs=spareL l:=filled (by rw [spareL_len];exact HZL.out) (by intro i hi;rw [spareL_len] at hi;exact hfill.out i hi);subst e1;have HS:=hQ hs;have HSTK:=hQ hst;clear hs hst hfill HZL;go_wp2;go_ret;exact⟨w.heap.size,rfl,HS.out,HSTK.out⟩
end Go.Proofs.YtbobcmimkonnoaaGreat.K8
namespace Go.Proofs.YtbobcmimkonnoaaGreat.L8
open ChangeShapes WideShapes ChangeAt RowKit Sl Cop M3 D4 M2 N2 Y2 E4 G4 E5 G6 J4 E6 U4 Y7 F6 Y4
def markI(i:Nat):Int:= -7-(i:Int)
def spareI(l:List Int):List Int:=l++(List.range 64).map fun i=>markI (l.length+i)
theorem spareI_len(l:List Int):(spareI l).length=l.length+64:=by simp [spareI]
theorem spareI_low {l:List Int}{k:Nat}(h:k<l.length):(spareI l)[k]'(by rw [spareI_len];omega)=l.getD k 0:=by
 unfold spareI;rw [List.getElem_append_left h];simp [h]
theorem spareI_high {l:List Int}{k:Nat}(h:l.length≤k)(h2:k<l.length+64):(spareI l)[k]'(by rw [spareI_len];omega)=markI k:=by
 unfold spareI;rw [List.getElem_append_right h];simp only [List.getElem_map,List.getElem_range];rw [show l.length+(k-l.length)=k by omega]
abbrev WholeI(b:Nat)(l:List Int):Pr:=Row 3 1 (.slice (some ⟨b,0,none⟩) (l.length+64) (l.length+64)) (l.length+64) ((spareI l).map (Value.int .i64))
theorem row_madeI {F:Pr}{w:World}(T:Nat)(z:Value)(n:Nat)(hn:n≤maxLen)(h:Sat F w):
 Sat ((Row T 1 (.slice (some ⟨w.heap.size,0,none⟩) n n) n (List.replicate n z)).star F) (w.alloc (.cells (madeCells #[z] n) T)):=row_made T z n hn h
theorem spareints_any(h:Hp)(v:Value)(l:List Int)(F:Pr)(w:World)(hF:Sat ((Pr.own h).star F) w)(hx:Ints h v l)(hn:l.length≤300):
 Calls Tryz.prog 25 #[v] w fun e w'=> ∃b,e= .returned (.slice (some ⟨b,0,none⟩) l.length (l.length+64))∧Sat ((WholeI b l).star ((Pr.own h).star F)) w'∧Stays w w':=by
 obtain⟨a,c,rfl,r1⟩:=ints_rd hx;obtain⟨i0,hi,hz0,hz1,hz2⟩:=info_parts infoInt
 have hmk:∀wx:World,(Instr.makeSlice 40 (.int .i64 ((l.length:Int)+64)) (.int .i64 ((l.length:Int)+64))).run Tryz.prog wx= .ok (.slice (some ⟨wx.heap.size,0,none⟩) (l.length+64) (l.length+64)) (wx.alloc (.cells (madeCells #[.int .i64 0] (l.length+64)) 3)):=by
  intro wx;have:=run_make (P:=Tryz.prog) wx 40 3 i0 (.int .i64 0) Tryz.underlying40 hi hz0 .i64 .i64 ((l.length:Int)+64) ((l.length:Int)+64) (by omega) (by omega) (by rw [hz2];omega) (by omega)
  rw [hz1,show ((l.length:Int)+64).toNat=l.length+64 by omega,Nat.mul_one] at this;exact this
 have h2:=hQ (row_madeI 3 (.int .i64 0) (l.length+64) (by simp only [maxLen];omega) hF);have R1:=hQ r1;have hn0:(l.length:Int)≤300:=by omega
 clear hF hx r1;go_enter Tryz.func25,Tryz.ntmps25
 go_wp2;go_loopw [4] (fun i wr=> ∃(k:Nat) (zs:List Int),k≤l.length+64∧i= .int .i64 k∧Stays w wr∧zs.length=l.length+64∧Hid (∀i,i<k→zs[i]? =(spareI l)[i]?)∧Sat ((Row 3 1 (.slice (some ⟨w.heap.size,0,none⟩) (l.length+64) (l.length+64)) (l.length+64) (zs.map (Value.int .i64))).star ((Pr.own h).star F)) wr) (fun i _=>l.length+64-(intOf i).toNat)
 case atStart=>
  refine⟨0,List.replicate (l.length+64) 0,Nat.zero_le _,rfl,(Stays.refl w).alloc _,by simp,hQ (fun i hi=>absurd hi (by omega)),?_⟩;rw [List.map_replicate];exact h2.out
 case round=>
  obtain⟨k,zs,hk,rfl,hst,hzl,hfill,hs⟩:=hrel;have HZL:=hQ hzl;clear hzl;rcases Nat.lt_or_ge k (l.length+64) with hlt | hge
  · obtain⟨_,_,e,_,hc⟩:=Row.read hs
    cases e;obtain⟨b,eb,hd⟩:=hc (by omega);cases eb
    have k0:∃u,wr.cell? ⟨w.heap.size,k,none⟩=some u:=by
     have:=(hd k (by omega)).1
     rw [List.getElem?_eq_getElem (by rw [List.length_map,HZL.out];omega)] at this;exact⟨_,this⟩
    obtain⟨u,k0⟩:=k0;have kf:=(hd k (by omega)).2;have kz:=World.block_lt_of_cell? _ _ k0;clear hc hd;have HS:=hQ hs;have HSTK:=hQ hst;clear hst;rcases Nat.lt_or_ge k l.length with hl1 | hl1
    · obtain⟨b,off,rfl,c1⟩:=R1.out k hl1
      have q1:=c1 wr hs.right.own;have HLO:=hQ (spareI_low hl1);clear c1 hs;generalize l.getD k 0=x at*;go_wp2;refine⟨⟨k+1,zs.set k (x),by omega,congrArg (Value.int .i64) (by omega),HSTK.out.setCell _ _,by rw [List.length_set];exact HZL.out,hQ ?_,?_⟩,by simp [intOf];omega⟩
      · have e:x=(spareI l)[k]'(by rw [spareI_len];omega):=HLO.out.symm
        rw [e];exact fill_step (by rw [spareI_len];exact HZL.out) (by rw [spareI_len];exact hlt) hfill.out
      · rw [List.map_set]
        exact Row.set HS.out k (by rw [List.length_map,HZL.out];exact hlt) _
    · have HHI:=hQ (spareI_high hl1 hlt)
      clear hs;go_wp2;refine⟨⟨k+1,zs.set k (-7-(k:Int)),by omega,congrArg (Value.int .i64) (by omega),HSTK.out.setCell _ _,by rw [List.length_set];exact HZL.out,hQ ?_,?_⟩,by simp [intOf];omega⟩
      · have e: -7-(k:Int)=(spareI l)[k]'(by rw [spareI_len];omega):=HHI.out.symm
        rw [e];exact fill_step (by rw [spareI_len];exact HZL.out) (by rw [spareI_len];exact hlt) hfill.out
      · rw [List.map_set]
        exact Row.set HS.out k (by rw [List.length_map,HZL.out];exact hlt) _
  · have hkl:k=l.length+64:=by omega
    subst hkl;have e1:zs=spareI l:=filled (by rw [spareI_len];exact HZL.out) (by intro i hi;rw [spareI_len] at hi;exact hfill.out i hi);subst e1;have HS:=hQ hs;have HSTK:=hQ hst;clear hs hst hfill HZL;go_wp2;go_ret;exact⟨w.heap.size,rfl,HS.out,HSTK.out⟩
theorem wholeI_ints {b:Nat}{l:List Int}{hx:Hp}(h:WholeI b l hx):Ints hx (.slice (some ⟨b,0,none⟩) l.length (l.length+64)) l:=by
 obtain⟨_,a,c,e,h1,h2,h3⟩:=Row.rowIn h;cases e;refine⟨by simp,some ⟨b,0,none⟩,l.length+64,rfl,by omega,h2,fun _=>⟨b,0,rfl,fun i hi=> ?_⟩⟩;obtain⟨b',off,eb,hc⟩:=h3 (by omega);cases eb;rw [hc i (by omega)];have hi2:i<l.length:=by omega
 simp [spareI,List.getElem?_append_left,hi2]
theorem wholeI_at {b:Nat}{l:List Int}{F:Pr}{w:World}(h:Sat ((WholeI b l).star F) w){k:Nat}(h1:l.length≤k)(h2:k<l.length+64):w.cell? ⟨b,k,none⟩=some (.int .i64 (markI k)):=by
 obtain⟨_,_,e,_,hc⟩:=Row.read h;cases e;obtain⟨b',eb,hd⟩:=hc (by omega);cases eb;rw [(hd k (by omega)).1,List.getElem?_map,List.getElem?_eq_getElem (by rw [spareI_len];exact h2),spareI_high h1 h2];rfl
theorem keptints_any(b:Nat)(l:List Int)(h:Hp)(v:Value)(hx:Ints h v l)(hn:l.length≤300)(F:Pr)(w:World)(hF:Sat ((WholeI b l).star ((Pr.own h).star F)) w):
 Calls Tryz.prog 30 #[.slice (some ⟨b,0,none⟩) l.length (l.length+64),v] w fun e w'=>e= .returned (.bool true)∧Only w w':=by
 obtain⟨a,ha,h2⟩:=hF.toOwn;have EQ:=hQ (eqints_same a h _ v l (wholeI_ints ha) hx (by omega) w h2.own h2.right.own);obtain⟨av,cv,rfl, -⟩:=ints_rd hx;have HF:=hQ hF;have hn0:(l.length:Int)≤300:=by omega
 clear hF ha h2 hx;go_enter Tryz.func30,Tryz.ntmps30
 go_wp2_with fail
 refine EQ.out.mono ?_;rintro e w1 ⟨rfl,ho1⟩;go_wp2_with fail
 go_loopw [6] (fun i wr=> ∃k:Nat,l.length≤k∧k≤l.length+64∧i= .int .i64 k∧Only w wr) (fun i _=>l.length+64-(intOf i).toNat)
 case atStart=>exact⟨l.length,Nat.le_refl _,by omega,rfl,ho1⟩
 case round=>
  obtain⟨k,hk1,hk2,rfl,ho⟩:=hrel;rcases Nat.lt_or_ge k (l.length+64) with hlt | hge
  · have q0:=wholeI_at (HF.out.only ho) hk1 hlt
    unfold markI at q0;go_wp2;go_roundw
    case rel=>exact⟨k+1,by omega,by omega,congrArg (Value.int .i64) (by omega),ho⟩
    case measure=>simp [intOf];omega
  · have hkl:k=l.length+64:=by omega
    subst hkl;go_wp2;go_ret;exact⟨rfl,ho⟩
end Go.Proofs.YtbobcmimkonnoaaGreat.L8
namespace Go.Proofs.YtbobcmimkonnoaaGreat.M8
open ChangeShapes WideShapes ChangeAt RowKit Sl Cop M3 D4 M2 N2 Y2 E4 G4 J4 U4 K8
theorem whole_bytes {b:Nat}{l:List Int}{hx:Hp}(h:WholeRow b l hx):Bytes hx (.slice (some ⟨b,0,none⟩) l.length (l.length+64)) l:=by
 obtain⟨_,a,c,e,h1,h2,h3⟩:=Row.rowIn h;cases e;refine⟨by simp,some ⟨b,0,none⟩,l.length+64,rfl,by omega,h2,fun _=>⟨b,0,rfl,fun i hi=> ?_⟩⟩;obtain⟨b',off,eb,hc⟩:=h3 (by omega);cases eb;rw [hc i (by omega)];have hi2:i<l.length:=by omega
 simp [spareL,List.getElem?_append_left,hi2]
theorem whole_at {b:Nat}{l:List Int}{F:Pr}{w:World}(h:Sat ((WholeRow b l).star F) w){k:Nat}(h1:l.length≤k)(h2:k<l.length+64):w.cell? ⟨b,k,none⟩=some (.int .u8 (markB k)):=by
 obtain⟨_,_,e,_,hc⟩:=Row.read h;cases e;obtain⟨b',eb,hd⟩:=hc (by omega);cases eb;rw [(hd k (by omega)).1,List.getElem?_map,List.getElem?_eq_getElem (by rw [spareL_len];exact h2),spareL_high h1 h2];rfl
theorem kept_any(b:Nat)(l:List Int)(h:Hp)(v:Value)(hx:Bytes h v l)(hn:l.length≤140737488351232)(F:Pr)(w:World)(hF:Sat ((WholeRow b l).star ((Pr.own h).star F)) w):
 Calls Tryz.prog 91 #[.slice (some ⟨b,0,none⟩) l.length (l.length+64),v] w fun e w'=>e= .returned (.bool true)∧Only w w':=by
 obtain⟨a,ha,h2⟩:=hF.toOwn;have EQ:=hQ (eq_same a h _ v l (whole_bytes ha) hx (by omega) w h2.own h2.right.own);obtain⟨av,cv,rfl⟩:=bytes_shape hx;have HF:=hQ hF;have hn0:(l.length:Int)≤140737488351232:=by omega
 clear hF ha h2 hx;go_enter Tryz.func91,Tryz.ntmps91
 go_wp2_with fail
 refine EQ.out.mono ?_;rintro e w1 ⟨rfl,ho1⟩;go_wp2_with fail
 go_loopw [6] (fun i wr=> ∃k:Nat,l.length≤k∧k≤l.length+64∧i= .int .i64 k∧Only w wr) (fun i _=>l.length+64-(intOf i).toNat)
 case atStart=>exact⟨l.length,Nat.le_refl _,by omega,rfl,ho1⟩
 case round=>
  obtain⟨k,hk1,hk2,rfl,ho⟩:=hrel;rcases Nat.lt_or_ge k (l.length+64) with hlt | hge
  · have q0:=whole_at (HF.out.only ho) hk1 hlt
    unfold markB at q0;go_wp2;go_roundw
    case rel=>exact⟨k+1,by omega,by omega,congrArg (Value.int .i64) (by omega),ho⟩
    case measure=>simp [intOf];omega
  · have hkl:k=l.length+64:=by omega
    subst hkl;go_wp2;go_ret;exact⟨rfl,ho⟩
end Go.Proofs.YtbobcmimkonnoaaGreat.M8
namespace Go.Proofs.YtbobcmimkonnoaaGreat.Q8
open ChangeShapes WideShapes ChangeAt RowKit Sl Cop M3 D4 M2 N2 Y2 E4 G4 J4 L6 U4 K8 M8
end Go.Proofs.YtbobcmimkonnoaaGreat.Q8
