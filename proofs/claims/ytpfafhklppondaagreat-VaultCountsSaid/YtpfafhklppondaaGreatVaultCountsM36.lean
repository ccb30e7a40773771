/- The document's Pages: a list of numbered pages; the conditions stand as hypotheses. -/
import Derived.Test.YtpfafhklppondaaGreatVaultCountsM23
import Derived.Test.YtpfafhklppondaaGreatVaultCountsM35
import Derived.Test.YtpfafhklppondaaGreatVaultCountsM05
import Derived.Test.YtpfafhklppondaaGreatVaultCountsM01
set_option maxRecDepth 100000
set_option maxHeartbeats 16000000
namespace Go.Proofs.YtpfafhklppondaaGreat.Uy
open ChangeShapes WideShapes ChangeAt RowKit Sl Cop M2 P3 X3 G4 Q2 X2 J4 L4 V4 K6 P4 Q6 X7 Z7 V9 Y9 G5 F7
def numR(gs:List PageV)(k n:Int):NumV:=⟨n,if k=1 then zeroP else pgAt gs n⟩
def numsR(s:PoolS)(gs:List PageV)(k:Int)(m:Nat):List NumV:=(pagesTo s k m).map (numR gs k)
theorem numsR_yes {s:PoolS}{gs:List PageV}{k:Int}{m:Nat}(h:s.state ((m:Int)+1)=k):numsR s gs k (m+1)=numsR s gs k m++ [numR gs k ((m:Int)+1)]:=by
 unfold numsR;rw [pagesTo_yes h,List.map_append];rfl
theorem numsR_no {s:PoolS}{gs:List PageV}{k:Int}{m:Nat}(h:s.state ((m:Int)+1)≠k):numsR s gs k (m+1)=numsR s gs k m:=by
 unfold numsR;rw [pagesTo_no h]
theorem numsR_len(s:PoolS)(gs:List PageV)(k:Int)(m:Nat):(numsR s gs k m).length≤m:=by
 unfold numsR;rw [List.length_map];exact pagesTo_len s k m
theorem rpages_x(r:Nat)(s:PoolS)(gs:List PageV)(hush:RTail)(x:RX)(ok:ROk s gs x)(k:Int)(F:Pr)(w:World)(h:Sat ((RefAt r s gs hush x).star F) w):
 Calls Tryz.prog 84 #[.pointer (some ⟨r,0,none⟩),.int .i64 k] w fun e w'=>
  Stays w w'∧∃lv,e= .returned lv∧Sat ((NumsRow lv (numsR s gs k s.counts.length)).star ((RefAt r s gs hush x).star F)) w':=by
 have hn2:=ok.n2;have hn3:(s.counts.length:Int)≤65536:=by omega
 have HOK:=hQ ok;have H0:=hQ h;obtain⟨i0,hi0,hz0,hz1,hz2⟩:=info_parts infoNum;clear h ok;go_enter Tryz.func84,Tryz.ntmps84
 go_wp2;go_loopw [5,6] (fun lv i wr=> ∃m:Nat,m≤s.counts.length∧i= .int .i64 ((m:Int)+1)∧Stays w wr∧Sat ((NumsRow lv (numsR s gs k m)).star ((RefAt r s gs hush x).star F)) wr) (fun _ i _=>s.counts.length+1-(intOf i).toNat)
 case atStart=>exact⟨0,Nat.zero_le _,rfl,Stays.refl _,numsRow_start H0.out⟩
 case round=>
  obtain⟨m,hm,rfl,hst,hs⟩:=hrel;clear H0;obtain⟨xs,hk,hna,hs1⟩:=numsRow_iff.1 hs;have hml:=numsR_len s gs k m;obtain⟨L,hL⟩:∃L,(numsR s gs k m).length=L:=⟨_,rfl⟩;rw [hL] at hs1 hml;obtain⟨al,cl,rfl⟩:=Row.shape hs1;have hs2:=OwnL.in3 hs1;have hAt:=hs2.pull1 (A1:=RefAt r s gs hush x);obtain⟨ac,cc,ali,cli,ap,cp,⟨q1,q2,q3,_⟩,z,_,rd⟩:=ref_rd HOK.out hAt
  have ST:=hQ (rstate_any r s gs hush ((m:Int)+1) _ _ (refAt_refA r s gs hush HOK.out hAt));have HYES:=hQ (fun h=>numsR_yes (s:=s) (gs:=gs) (k:=k) (m:=m) h);have HNO:=hQ (fun h=>numsR_no (s:=s) (gs:=gs) (k:=k) (m:=m) h);rcases Nat.lt_or_ge m s.counts.length with hlt | hge
  · by_cases hkk:s.state ((m:Int)+1)=k
    · have hb:(s.state ((m:Int)+1) == k)=true:=beq_iff_eq.2 hkk
      have HK:=hQ hkk;have hs3:=hs2.alloc (.cells #[.int .i64 ((m:Int)+1),.int .i64 0,.int .i64 0,.slice none 0 0,.slice none 0 0,.int .i64 0] 69);have HNA:=hQ hna;have HL:=hQ hL;by_cases hk1:k=1
      · subst hk1
        have hnew:=hQ (show ∀j u,[Value.int .i64 ((m:Int)+1),.int .i64 0,.int .i64 0,.slice none 0 0,.slice none 0 0,.int .i64 0][j]? =some u→((wr.alloc (.cells #[.int .i64 ((m:Int)+1),.int .i64 0,.int .i64 0,.slice none 0 0,.slice none 0 0,.int .i64 0] 69)).alloc (.cells #[.int .i64 ((m:Int)+1),.int .i64 0,.int .i64 0,.slice none 0 0,.slice none 0 0,.int .i64 0] 69)).cell? ((⟨(wr.alloc (.cells #[.int .i64 ((m:Int)+1),.int .i64 0,.int .i64 0,.slice none 0 0,.slice none 0 0,.int .i64 0] 69)).heap.size,0,none⟩:Addr).add j)=some u from fresh_cells (wr.alloc (.cells #[.int .i64 ((m:Int)+1),.int .i64 0,.int .i64 0,.slice none 0 0,.slice none 0 0,.int .i64 0] 69)) [.int .i64 ((m:Int)+1),.int .i64 0,.int .i64 0,.slice none 0 0,.slice none 0 0,.int .i64 0] 69)
        rw [show (wr.alloc (.cells #[.int .i64 ((m:Int)+1),.int .i64 0,.int .i64 0,.slice none 0 0,.slice none 0 0,.int .i64 0] 69)).heap.size=wr.heap.size+1 by simp] at hnew;have A1:=hQ ((hs3.alloc (.cells #[.int .i64 ((m:Int)+1),.int .i64 0,.int .i64 0,.slice none 0 0,.slice none 0 0,.int .i64 0] 69)).drop.drop.pull1 (A1:=Row 69 6 (.slice al L cl) L ((xs.zip (numsR s gs 1 m)).flatMap numCells)))
        have HSTA:=hQ ((hst.alloc (.cells #[.int .i64 ((m:Int)+1),.int .i64 0,.int .i64 0,.slice none 0 0,.slice none 0 0,.int .i64 0] 69)).alloc (.cells #[.int .i64 ((m:Int)+1),.int .i64 0,.int .i64 0,.slice none 0 0,.slice none 0 0,.int .i64 0] 69));clear hs hs1 hs2 hs3 hst hkk hAt rd hna hL;generalize s.state ((m:Int)+1)=sm at*;go_wp2_with fail
        refine ST.out.mono ?_;rintro e w1 ⟨rfl,rfl⟩
        go_wp2_with (
         at_builtin
         refine wpList_append_sl rfl _ _ _ rfl 69 i0 (.agg #[.int .i64 0,.int .i64 0,.int .i64 0,.slice none 0 0,.slice none 0 0,.int .i64 0]) 6 80 Tryz.underlying30 hi0 hz0 hz1 hz2 rfl _ _ _ rfl A1.out ⟨wr.heap.size+1,0,none⟩ 1 1 [.int .i64 ((m:Int)+1),.int .i64 0,.int .i64 0,.slice none 0 0,.slice none 0 0,.int .i64 0] rfl rfl hnew.out (by simp [Value.oneCell']) (by simp only [maxLen];omega) (by omega) ?_
         intro v7 w4 hs4 hg4 _
         obtain⟨a7',c7',e7',_,_⟩:=Row.read hs4
         subst e7'
         have HS4:=hQ hs4
         have HG4:=hQ (HSTA.out.of_grown hg4)
         clear hs4 hg4)
        go_roundw
        case rel=>
         refine⟨m+1,by omega,congrArg (Value.int .i64) (by omega),HG4.out,?_⟩;rw [HYES.out HK.out]
         have hz:Sat ((Pr.own hk).star ((Pr.own Hp.nil).star (starL [Row 69 6 (.slice a7' (L+1) c7') (L+1) ((xs.zip (numsR s gs 1 m)).flatMap numCells++ [.int .i64 ((m:Int)+1),.int .i64 0,.int .i64 0,.slice none 0 0,.slice none 0 0,.int .i64 0]),RefAt r s gs hush x,F]))) w4:=by
          rw [own_nil,Pr.emp_star];exact(OwnL.of1 HS4.out).pull1 (A1:=Pr.own hk)
         obtain⟨hd,h11⟩:=hz.own_join;have h13:=(OwnL.of1 h11).pull2 (A1:=Row 69 6 (.slice a7' (L+1) c7') (L+1) ((xs.zip (numsR s gs 1 m)).flatMap numCells++ [.int .i64 ((m:Int)+1),.int .i64 0,.int .i64 0,.slice none 0 0,.slice none 0 0,.int .i64 0])) (A2:=Pr.own (hk.un Hp.nil));have e5:numR gs 1 ((m:Int)+1)=⟨(m:Int)+1,zeroP⟩:=by unfold numR;rw [if_pos rfl]
         rw [e5];have h14:=(numsRow_iff (v:= .slice a7' (L+1) c7') (l:=numsR s gs 1 m++ [⟨(m:Int)+1,zeroP⟩])).2 ⟨xs++ [(.slice none 0 0,.slice none 0 0)],hk.un Hp.nil,HNA.out.snoc hd (x:=⟨(m:Int)+1,zeroP⟩) (items_mk (Nat.zero_le _)) (RowIn.nil _ _),(by rw [numCells_snoc HNA.out.len,List.length_append,HL.out];exact h13)⟩;exact(OwnL.of1 h14).end3
        case measure=>simp [intOf];omega
      · have hb1:(k != 1)=true:=by rw [bne_iff_ne];exact hk1
        obtain⟨_,_,b,g,vi,vd,rfl,hg,hpg,c0,c1,c2,c3,c4⟩:=rd m hlt;have zb:=World.block_lt_of_cell? _ _ c0;have fit:=HOK.out.fit g (List.mem_of_getElem? hg)
        have e5:numR gs k ((m:Int)+1)=⟨(m:Int)+1,g⟩:=by
         unfold numR;rw [if_neg hk1];unfold pgAt;rw [show ((m:Int)+1).toNat-1=m by omega,List.getD_eq_getElem?_getD,hg];rfl
        obtain⟨_,_,epv,hit,hby⟩:=id hpg;simp only [pageV,Value.agg.injEq,Array.mk.injEq,List.cons.injEq,and_true,true_and] at epv;obtain⟨rfl,rfl⟩:=epv;obtain⟨a1,d1,rfl,_,_⟩:=items_rd hit;obtain⟨a2,d2,rfl⟩:=bytes_shape hby;have hs3b:=refAt_open r s gs hush x hs3
        have D:=hQ (copypage_any x.h _ g hpg (by have:=fit.n;omega) (fun y hy=>by have:=fit_keys fit y hy;omega) (by have:=fit.d;omega) _ _ (hs3b.pull1 (A1:=Pr.own x.h)));have HSTA:=hQ (hst.alloc (.cells #[.int .i64 ((m:Int)+1),.int .i64 0,.int .i64 0,.slice none 0 0,.slice none 0 0,.int .i64 0] 69));have HE5:=hQ e5;have HB1:=hQ hb1;have zr:=z
        clear hs hs1 hs2 hs3 hs3b hst hkk hAt rd hna hL hpg hit hby hg e5 fit hk1;generalize s.state ((m:Int)+1)=sm at*;go_wp2_with fail
        refine ST.out.mono ?_;rintro e w1 ⟨rfl,rfl⟩;go_wp2_with fail
        refine D.out.mono ?_;rintro e w3 ⟨pv2,h',rfl,hp',hs4,st4⟩;obtain⟨vi2,vd2,epv2,hi2,hb2⟩:=id hp';obtain⟨ai2,ci2,rfl,_,_⟩:=items_rd hi2;obtain⟨ad2,cd2,rfl⟩:=bytes_shape hb2;subst epv2;have hs5:=OwnL.of2 hs4;have d1:=hs5.facts;simp only [CellsAt,Nat.reduceAdd,and_true] at d1
        have hs6:=(((((hs5.set wr.heap.size 1 (.int .i64 g.kind)).set wr.heap.size 2 (.int .i64 g.level)).set wr.heap.size 3 (.slice ai2 g.items.length ci2)).set wr.heap.size 4 (.slice ad2 g.data.length cd2)).set wr.heap.size 5 (.int .i64 g.next))
        have hst6:=((((((HSTA.out.trans st4).setCell ⟨wr.heap.size,1,none⟩ (.int .i64 g.kind)).setCell ⟨wr.heap.size,2,none⟩ (.int .i64 g.level)).setCell ⟨wr.heap.size,3,none⟩ (.slice ai2 g.items.length ci2)).setCell ⟨wr.heap.size,4,none⟩ (.slice ad2 g.data.length cd2)).setCell ⟨wr.heap.size,5,none⟩ (.int .i64 g.next))
        obtain⟨hs7,hn7⟩:=hs6.fresh [.int .i64 ((m:Int)+1),.int .i64 g.kind,.int .i64 g.level,.slice ai2 g.items.length ci2,.slice ad2 g.data.length cd2,.int .i64 g.next] 69 w3.heap.size (by simp);have A1:=hQ (hs7.drop.pull1 (A1:=Row 69 6 (.slice al L cl) L ((xs.zip (numsR s gs k m)).flatMap numCells)));have HNEW:=hQ hn7
        have HST7:=hQ (hst6.alloc (.cells [Value.int .i64 ((m:Int)+1),.int .i64 g.kind,.int .i64 g.level,.slice ai2 g.items.length ci2,.slice ad2 g.data.length cd2,.int .i64 g.next].toArray 69));have HI2:=hQ (And.intro hi2 hb2);clear hs4 hs5 hs6 hs7 hn7 hst6 st4 D HSTA hp' hi2 hb2 c0 c1 c2 c3 c4 zb
        go_wp2_with (
         at_builtin
         refine wpList_append_sl rfl _ _ _ rfl 69 i0 (.agg #[.int .i64 0,.int .i64 0,.int .i64 0,.slice none 0 0,.slice none 0 0,.int .i64 0]) 6 80 Tryz.underlying30 hi0 hz0 hz1 hz2 rfl _ _ _ rfl A1.out ⟨w3.heap.size,0,none⟩ 1 1 [.int .i64 ((m:Int)+1),.int .i64 g.kind,.int .i64 g.level,.slice ai2 g.items.length ci2,.slice ad2 g.data.length cd2,.int .i64 g.next] rfl rfl HNEW.out (by simp [Value.oneCell']) (by simp only [maxLen];omega) (by omega) ?_
         intro v7 w4 hs4 hg4 _
         obtain⟨a7',c7',e7',_,_⟩:=Row.read hs4
         subst e7'
         have HS4:=hQ hs4
         have HG4:=hQ (HST7.out.of_grown hg4)
         clear hs4 hg4)
        go_roundw
        case rel=>
         refine⟨m+1,by omega,congrArg (Value.int .i64) (by omega),HG4.out,?_⟩;rw [HYES.out HK.out,HE5.out];obtain⟨hd,h11⟩:=((OwnL.of1 HS4.out).pull2 (A1:=Pr.own hk) (A2:=Pr.own h')).own_join
         have h13:=(OwnL.of1 h11).pull2 (A1:=Row 69 6 (.slice a7' (L+1) c7') (L+1) ((xs.zip (numsR s gs k m)).flatMap numCells++ [.int .i64 ((m:Int)+1),.int .i64 g.kind,.int .i64 g.level,.slice ai2 g.items.length ci2,.slice ad2 g.data.length cd2,.int .i64 g.next])) (A2:=Pr.own (hk.un h'))
         have h14:=(numsRow_iff (v:= .slice a7' (L+1) c7') (l:=numsR s gs k m++ [⟨(m:Int)+1,g⟩])).2 ⟨xs++ [(.slice ai2 g.items.length ci2,.slice ad2 g.data.length cd2)],hk.un h',HNA.out.snoc hd (x:=⟨(m:Int)+1,g⟩) HI2.out.1 HI2.out.2,(by rw [numCells_snoc HNA.out.len,List.length_append,HL.out];exact h13)⟩
         have h15:=(OwnL.of1 h14).pull5 (A2:=IntsRow x.cv s.counts) (A1:=Pr.pts r (refC s.refs x.cv x.lv x.pv hush)) (A3:=BoolsRow x.lv s.last) (A4:=PgRow x.pv x.xs gs) (A5:=Pr.own x.h);have h16:=OwnL.of1 (refAt_close r s gs hush x h15);exact h16.end3
        case measure=>simp [intOf];omega
    · have hb:(s.state ((m:Int)+1) == k)=false:=beq_eq_false_iff_ne.2 hkk
      have HK:=hQ hkk;have HS:=hQ hs;clear hs hs1 hs2 hkk hAt rd hna hL;generalize s.state ((m:Int)+1)=sm at*;go_wp2_with fail
      refine ST.out.mono ?_;rintro e w1 ⟨rfl,rfl⟩;go_wp2;go_roundw
      case rel=>exact⟨m+1,by omega,congrArg (Value.int .i64) (by omega),hst,by rw [HNO.out HK.out];exact HS.out⟩
      case measure=>simp [intOf];omega
  · have hme:m=s.counts.length:=by omega
    subst hme;have HS:=hQ hs;clear hs hs1 hs2 ST hAt rd hna hL;go_wp2;go_ret;exact⟨hst,_,rfl,HS.out⟩
theorem rpagesH_any(r:Nat)(s:PoolS)(gs:List PageV)(fl:Int)(l:List (List Int × List PageV))(k:Int)(F:Pr)(w:World)(hF:Sat ((RefH r s gs fl l).star F) w):
 Calls Tryz.prog 84 #[.pointer (some ⟨r,0,none⟩),.int .i64 k] w fun e w'=>
  Stays w w'∧∃lv h',e= .returned lv∧NumsIn h' lv (numsR s gs k s.counts.length)∧Sat ((Pr.own h').star ((RefH r s gs fl l).star F)) w':=by
 obtain⟨y,ok,h⟩:=refH_iff.1 hF;rw [hparts_at] at h;refine(rpages_x r s gs ⟨y.av,fl,false⟩ y.rx ok.now k _ w h).mono ?_;rintro e w' ⟨st,lv,rfl,hs⟩;obtain⟨h',hn,hs2⟩:=hs.toOwn;refine⟨st,lv,h',rfl,numsRow_in hn,?_⟩;rw [Pr.left_comm];refine refH_iff.2 ⟨y,ok,?_⟩;rw [hparts_at];exact hs2.perm (by ac_rfl)
end Go.Proofs.YtpfafhklppondaaGreat.Uy
