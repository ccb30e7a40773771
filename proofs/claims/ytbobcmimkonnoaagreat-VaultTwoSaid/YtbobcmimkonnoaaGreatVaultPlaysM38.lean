/- The document's Pages: a list of numbered pages; the conditions stand as hypotheses. -/
import Derived.Test.YtbobcmimkonnoaaGreatVaultPlaysM36
import Derived.Test.YtbobcmimkonnoaaGreatVaultPlaysM27
import Derived.Test.YtbobcmimkonnoaaGreatVaultPlaysM37
import Derived.Test.YtbobcmimkonnoaaGreatVaultPlaysM33
import Derived.Test.YtbobcmimkonnoaaGreatVaultPlaysM35
import Derived.Test.YtbobcmimkonnoaaGreatVaultPlaysM34
import Derived.Test.YtbobcmimkonnoaaGreatVaultPlaysM28
import Derived.Test.YtbobcmimkonnoaaGreatVaultPlaysM01
set_option maxRecDepth 100000
set_option maxHeartbeats 16000000
namespace Go.Proofs.YtbobcmimkonnoaaGreat.Hy
open ChangeShapes WideShapes ChangeAt RowKit Sl Cop D2 K3 N3 Q3 G2 M2 U3 Y3 Z3 L5 X3 X5 E6 F6 Z6 B7 G4 Dy
def numR(gs:List PageV)(k n:Int):NumV:=⟨n,if k=1 then zeroP else pgAt gs n⟩
def numsR(s:PoolS)(gs:List PageV)(k:Int)(m:Nat):List NumV:=(pagesTo s k m).map (numR gs k)
theorem numsR_yes {s:PoolS}{gs:List PageV}{k:Int}{m:Nat}(h:s.state ((m:Int)+1)=k):numsR s gs k (m+1)=numsR s gs k m++ [numR gs k ((m:Int)+1)]:=by
 unfold numsR
 rw [pagesTo_yes h,List.map_append]
 rfl
theorem numsR_no {s:PoolS}{gs:List PageV}{k:Int}{m:Nat}(h:s.state ((m:Int)+1)≠k):numsR s gs k (m+1)=numsR s gs k m:=by
 unfold numsR
 rw [pagesTo_no h]
theorem numsR_len(s:PoolS)(gs:List PageV)(k:Int)(m:Nat):(numsR s gs k m).length≤m:=by
 unfold numsR
 rw [List.length_map]
 exact pagesTo_len s k m
theorem rpages_x(r:Nat)(s:PoolS)(gs:List PageV)(hush:RTail)(x:RX)(ok:ROk s gs x)(k:Int)(F:Pr)(w:World)(h:Sat ((RefAt r s gs hush x).star F) w):
 Calls Tryz.prog 53 #[.pointer (some ⟨r,0,none⟩),.int .i64 k] w fun e w'=>
  Stays w w'∧∃lv,e= .returned lv∧Sat ((NumsRow lv (numsR s gs k s.counts.length)).star ((RefAt r s gs hush x).star F)) w':=by
 have hn2:=ok.n2
 have hn3:(s.counts.length:Int)≤65536:=by omega
 have HOK:=hQ ok
 have H0:=hQ h
 obtain⟨i0,hi0,hz0,hz1,hz2⟩:=info_parts infoNum
 clear h ok
 go_enter Tryz.func53,Tryz.ntmps53
 go_wp2
 go_loopw [5,6] (fun lv i wr=> ∃m:Nat,m≤s.counts.length∧i= .int .i64 ((m:Int)+1)∧Stays w wr∧Sat ((NumsRow lv (numsR s gs k m)).star ((RefAt r s gs hush x).star F)) wr) (fun _ i _=>s.counts.length+1-(intOf i).toNat)
 case atStart=>exact⟨0,Nat.zero_le _,rfl,Stays.refl _,numsRow_start H0.out⟩
 case round=>
  obtain⟨m,hm,rfl,hst,hs⟩:=hrel
  clear H0
  obtain⟨xs,hk,hna,hs1⟩:=numsRow_iff.1 hs
  have hml:=numsR_len s gs k m
  obtain⟨L,hL⟩:∃L,(numsR s gs k m).length=L:=⟨_,rfl⟩
  rw [hL] at hs1 hml
  obtain⟨al,cl,rfl⟩:=Row.shape hs1
  have hs2:=OwnL.in3 hs1
  have hAt:=hs2.pull1 (A1:=RefAt r s gs hush x)
  obtain⟨ac,cc,ali,cli,ap,cp,⟨q1,q2,q3,_⟩,z,_,rd⟩:=ref_rd HOK.out hAt
  have ST:=hQ (rstate_any r s gs hush ((m:Int)+1) _ _ (refAt_refA r s gs hush HOK.out hAt))
  have HYES:=hQ (fun h=>numsR_yes (s:=s) (gs:=gs) (k:=k) (m:=m) h)
  have HNO:=hQ (fun h=>numsR_no (s:=s) (gs:=gs) (k:=k) (m:=m) h)
  rcases Nat.lt_or_ge m s.counts.length with hlt | hge
  · by_cases hkk:s.state ((m:Int)+1)=k
    · have hb:(s.state ((m:Int)+1) == k)=true:=beq_iff_eq.2 hkk
      have HK:=hQ hkk
      have hs3:=hs2.alloc (.cells #[.int .i64 ((m:Int)+1),.int .i64 0,.int .i64 0,.slice none 0 0,.slice none 0 0,.int .i64 0] 78)
      have HNA:=hQ hna
      have HL:=hQ hL
      by_cases hk1:k=1
      · subst hk1
        have hnew:=hQ (show ∀j u,[Value.int .i64 ((m:Int)+1),.int .i64 0,.int .i64 0,.slice none 0 0,.slice none 0 0,.int .i64 0][j]? =some u→((wr.alloc (.cells #[.int .i64 ((m:Int)+1),.int .i64 0,.int .i64 0,.slice none 0 0,.slice none 0 0,.int .i64 0] 78)).alloc (.cells #[.int .i64 ((m:Int)+1),.int .i64 0,.int .i64 0,.slice none 0 0,.slice none 0 0,.int .i64 0] 78)).cell? ((⟨(wr.alloc (.cells #[.int .i64 ((m:Int)+1),.int .i64 0,.int .i64 0,.slice none 0 0,.slice none 0 0,.int .i64 0] 78)).heap.size,0,none⟩:Addr).add j)=some u from fresh_cells (wr.alloc (.cells #[.int .i64 ((m:Int)+1),.int .i64 0,.int .i64 0,.slice none 0 0,.slice none 0 0,.int .i64 0] 78)) [.int .i64 ((m:Int)+1),.int .i64 0,.int .i64 0,.slice none 0 0,.slice none 0 0,.int .i64 0] 78)
        rw [show (wr.alloc (.cells #[.int .i64 ((m:Int)+1),.int .i64 0,.int .i64 0,.slice none 0 0,.slice none 0 0,.int .i64 0] 78)).heap.size=wr.heap.size+1 by simp] at hnew
        have A1:=hQ ((hs3.alloc (.cells #[.int .i64 ((m:Int)+1),.int .i64 0,.int .i64 0,.slice none 0 0,.slice none 0 0,.int .i64 0] 78)).drop.drop.pull1 (A1:=Row 78 6 (.slice al L cl) L ((xs.zip (numsR s gs 1 m)).flatMap numCells)))
        have HSTA:=hQ ((hst.alloc (.cells #[.int .i64 ((m:Int)+1),.int .i64 0,.int .i64 0,.slice none 0 0,.slice none 0 0,.int .i64 0] 78)).alloc (.cells #[.int .i64 ((m:Int)+1),.int .i64 0,.int .i64 0,.slice none 0 0,.slice none 0 0,.int .i64 0] 78))
        clear hs hs1 hs2 hs3 hst hkk hAt rd hna hL
        generalize s.state ((m:Int)+1)=sm at*
        go_wp2_with fail
        refine ST.out.mono ?_
        rintro e w1 ⟨rfl,rfl⟩
        go_wp2_with (
         at_builtin
         refine wpList_append_sl rfl _ _ _ rfl 78 i0 (.agg #[.int .i64 0,.int .i64 0,.int .i64 0,.slice none 0 0,.slice none 0 0,.int .i64 0]) 6 80 Tryz.underlying41 hi0 hz0 hz1 hz2 rfl _ _ _ rfl A1.out ⟨wr.heap.size+1,0,none⟩ 1 1 [.int .i64 ((m:Int)+1),.int .i64 0,.int .i64 0,.slice none 0 0,.slice none 0 0,.int .i64 0] rfl rfl hnew.out (by simp [Value.oneCell']) (by simp only [maxLen];omega) (by omega) ?_
         intro v7 w4 hs4 hg4 _
         obtain⟨a7',c7',e7',_,_⟩:=Row.read hs4
         subst e7'
         have HS4:=hQ hs4
         have HG4:=hQ (HSTA.out.of_grown hg4)
         clear hs4 hg4)
        go_roundw
        case rel=>
         refine⟨m+1,by omega,congrArg (Value.int .i64) (by omega),HG4.out,?_⟩
         rw [HYES.out HK.out]
         have hz:Sat ((Pr.own hk).star ((Pr.own Hp.nil).star (starL [Row 78 6 (.slice a7' (L+1) c7') (L+1) ((xs.zip (numsR s gs 1 m)).flatMap numCells++ [.int .i64 ((m:Int)+1),.int .i64 0,.int .i64 0,.slice none 0 0,.slice none 0 0,.int .i64 0]),RefAt r s gs hush x,F]))) w4:=by
          rw [own_nil,Pr.emp_star]
          exact(OwnL.of1 HS4.out).pull1 (A1:=Pr.own hk)
         obtain⟨hd,h11⟩:=hz.own_join
         have h13:=(OwnL.of1 h11).pull2 (A1:=Row 78 6 (.slice a7' (L+1) c7') (L+1) ((xs.zip (numsR s gs 1 m)).flatMap numCells++ [.int .i64 ((m:Int)+1),.int .i64 0,.int .i64 0,.slice none 0 0,.slice none 0 0,.int .i64 0])) (A2:=Pr.own (hk.un Hp.nil))
         have e5:numR gs 1 ((m:Int)+1)=⟨(m:Int)+1,zeroP⟩:=by unfold numR;rw [if_pos rfl]
         rw [e5]
         have h14:=(numsRow_iff (v:= .slice a7' (L+1) c7') (l:=numsR s gs 1 m++ [⟨(m:Int)+1,zeroP⟩])).2 ⟨xs++ [(.slice none 0 0,.slice none 0 0)],hk.un Hp.nil,HNA.out.snoc hd (x:=⟨(m:Int)+1,zeroP⟩) (items_mk (Nat.zero_le _)) (RowIn.nil _ _),(by rw [numCells_snoc HNA.out.len,List.length_append,HL.out];exact h13)⟩
         exact(OwnL.of1 h14).end3
        case measure=>simp [intOf];omega
      · have hb1:(k != 1)=true:=by rw [bne_iff_ne];exact hk1
        obtain⟨_,_,b,g,vi,vd,rfl,hg,hpg,c0,c1,c2,c3,c4⟩:=rd m hlt
        have zb:=World.block_lt_of_cell? _ _ c0
        have fit:=HOK.out.fit g (List.mem_of_getElem? hg)
        have e5:numR gs k ((m:Int)+1)=⟨(m:Int)+1,g⟩:=by
         unfold numR
         rw [if_neg hk1]
         unfold pgAt
         rw [show ((m:Int)+1).toNat-1=m by omega,List.getD_eq_getElem?_getD,hg]
         rfl
        obtain⟨_,_,epv,hit,hby⟩:=id hpg
        simp only [pageV,Value.agg.injEq,Array.mk.injEq,List.cons.injEq,and_true,true_and] at epv
        obtain⟨rfl,rfl⟩:=epv
        obtain⟨a1,d1,rfl,_,_⟩:=items_rd hit
        obtain⟨a2,d2,rfl⟩:=bytes_shape hby
        have hs3b:=refAt_open r s gs hush x hs3
        have D:=hQ (copypage_any x.h _ g hpg (by have:=fit.n;omega) (fun y hy=>by have:=fit_keys fit y hy;omega) (by have:=fit.d;omega) _ _ (hs3b.pull1 (A1:=Pr.own x.h)))
        have HSTA:=hQ (hst.alloc (.cells #[.int .i64 ((m:Int)+1),.int .i64 0,.int .i64 0,.slice none 0 0,.slice none 0 0,.int .i64 0] 78))
        have HE5:=hQ e5
        have HB1:=hQ hb1
        have zr:=z
        clear hs hs1 hs2 hs3 hs3b hst hkk hAt rd hna hL hpg hit hby hg e5 fit hk1
        generalize s.state ((m:Int)+1)=sm at*
        go_wp2_with fail
        refine ST.out.mono ?_
        rintro e w1 ⟨rfl,rfl⟩
        go_wp2_with fail
        refine D.out.mono ?_
        rintro e w3 ⟨pv2,h',rfl,hp',hs4,st4⟩
        obtain⟨vi2,vd2,epv2,hi2,hb2⟩:=id hp'
        obtain⟨ai2,ci2,rfl,_,_⟩:=items_rd hi2
        obtain⟨ad2,cd2,rfl⟩:=bytes_shape hb2
        subst epv2
        have hs5:=OwnL.of2 hs4
        have d1:=hs5.facts
        simp only [CellsAt,Nat.reduceAdd,and_true] at d1
        have hs6:=(((((hs5.set wr.heap.size 1 (.int .i64 g.kind)).set wr.heap.size 2 (.int .i64 g.level)).set wr.heap.size 3 (.slice ai2 g.items.length ci2)).set wr.heap.size 4 (.slice ad2 g.data.length cd2)).set wr.heap.size 5 (.int .i64 g.next))
        have hst6:=((((((HSTA.out.trans st4).setCell ⟨wr.heap.size,1,none⟩ (.int .i64 g.kind)).setCell ⟨wr.heap.size,2,none⟩ (.int .i64 g.level)).setCell ⟨wr.heap.size,3,none⟩ (.slice ai2 g.items.length ci2)).setCell ⟨wr.heap.size,4,none⟩ (.slice ad2 g.data.length cd2)).setCell ⟨wr.heap.size,5,none⟩ (.int .i64 g.next))
        obtain⟨hs7,hn7⟩:=hs6.fresh [.int .i64 ((m:Int)+1),.int .i64 g.kind,.int .i64 g.level,.slice ai2 g.items.length ci2,.slice ad2 g.data.length cd2,.int .i64 g.next] 78 w3.heap.size (by simp)
        have A1:=hQ (hs7.drop.pull1 (A1:=Row 78 6 (.slice al L cl) L ((xs.zip (numsR s gs k m)).flatMap numCells)))
        have HNEW:=hQ hn7
        have HST7:=hQ (hst6.alloc (.cells [Value.int .i64 ((m:Int)+1),.int .i64 g.kind,.int .i64 g.level,.slice ai2 g.items.length ci2,.slice ad2 g.data.length cd2,.int .i64 g.next].toArray 78))
        have HI2:=hQ (And.intro hi2 hb2)
        clear hs4 hs5 hs6 hs7 hn7 hst6 st4 D HSTA hp' hi2 hb2 c0 c1 c2 c3 c4 zb
        go_wp2_with (
         at_builtin
         refine wpList_append_sl rfl _ _ _ rfl 78 i0 (.agg #[.int .i64 0,.int .i64 0,.int .i64 0,.slice none 0 0,.slice none 0 0,.int .i64 0]) 6 80 Tryz.underlying41 hi0 hz0 hz1 hz2 rfl _ _ _ rfl A1.out ⟨w3.heap.size,0,none⟩ 1 1 [.int .i64 ((m:Int)+1),.int .i64 g.kind,.int .i64 g.level,.slice ai2 g.items.length ci2,.slice ad2 g.data.length cd2,.int .i64 g.next] rfl rfl HNEW.out (by simp [Value.oneCell']) (by simp only [maxLen];omega) (by omega) ?_
         intro v7 w4 hs4 hg4 _
         obtain⟨a7',c7',e7',_,_⟩:=Row.read hs4
         subst e7'
         have HS4:=hQ hs4
         have HG4:=hQ (HST7.out.of_grown hg4)
         clear hs4 hg4)
        go_roundw
        case rel=>
         refine⟨m+1,by omega,congrArg (Value.int .i64) (by omega),HG4.out,?_⟩
         rw [HYES.out HK.out,HE5.out]
         obtain⟨hd,h11⟩:=((OwnL.of1 HS4.out).pull2 (A1:=Pr.own hk) (A2:=Pr.own h')).own_join
         have h13:=(OwnL.of1 h11).pull2 (A1:=Row 78 6 (.slice a7' (L+1) c7') (L+1) ((xs.zip (numsR s gs k m)).flatMap numCells++ [.int .i64 ((m:Int)+1),.int .i64 g.kind,.int .i64 g.level,.slice ai2 g.items.length ci2,.slice ad2 g.data.length cd2,.int .i64 g.next])) (A2:=Pr.own (hk.un h'))
         have h14:=(numsRow_iff (v:= .slice a7' (L+1) c7') (l:=numsR s gs k m++ [⟨(m:Int)+1,g⟩])).2 ⟨xs++ [(.slice ai2 g.items.length ci2,.slice ad2 g.data.length cd2)],hk.un h',HNA.out.snoc hd (x:=⟨(m:Int)+1,g⟩) HI2.out.1 HI2.out.2,(by rw [numCells_snoc HNA.out.len,List.length_append,HL.out];exact h13)⟩
         have h15:=(OwnL.of1 h14).pull5 (A2:=IntsRow x.cv s.counts) (A1:=Pr.pts r (refC s.refs x.cv x.lv x.pv hush)) (A3:=BoolsRow x.lv s.last) (A4:=PgRow x.pv x.xs gs) (A5:=Pr.own x.h)
         have h16:=OwnL.of1 (refAt_close r s gs hush x h15)
         exact h16.end3
        case measure=>simp [intOf];omega
    · have hb:(s.state ((m:Int)+1) == k)=false:=beq_eq_false_iff_ne.2 hkk
      have HK:=hQ hkk
      have HS:=hQ hs
      clear hs hs1 hs2 hkk hAt rd hna hL
      generalize s.state ((m:Int)+1)=sm at*
      go_wp2_with fail
      refine ST.out.mono ?_
      rintro e w1 ⟨rfl,rfl⟩
      go_wp2
      go_roundw
      case rel=>exact⟨m+1,by omega,congrArg (Value.int .i64) (by omega),hst,by rw [HNO.out HK.out];exact HS.out⟩
      case measure=>simp [intOf];omega
  · have hme:m=s.counts.length:=by omega
    subst hme
    have HS:=hQ hs
    clear hs hs1 hs2 ST hAt rd hna hL
    go_wp2
    go_ret
    exact⟨hst,_,rfl,HS.out⟩
theorem rpagesH_any(r:Nat)(s:PoolS)(gs:List PageV)(fl:Int)(l:List (List Int × List PageV))(k:Int)(F:Pr)(w:World)(hF:Sat ((RefH r s gs fl l).star F) w):
 Calls Tryz.prog 53 #[.pointer (some ⟨r,0,none⟩),.int .i64 k] w fun e w'=>
  Stays w w'∧∃lv h',e= .returned lv∧NumsIn h' lv (numsR s gs k s.counts.length)∧Sat ((Pr.own h').star ((RefH r s gs fl l).star F)) w':=by
 obtain⟨y,ok,h⟩:=refH_iff.1 hF
 rw [hparts_at] at h
 refine(rpages_x r s gs ⟨y.av,fl,false⟩ y.rx ok.now k _ w h).mono ?_
 rintro e w' ⟨st,lv,rfl,hs⟩
 obtain⟨h',hn,hs2⟩:=hs.toOwn
 refine⟨st,lv,h',rfl,numsRow_in hn,?_⟩
 rw [Pr.left_comm]
 refine refH_iff.2 ⟨y,ok,?_⟩
 rw [hparts_at]
 exact hs2.perm (by ac_rfl)
end Go.Proofs.YtbobcmimkonnoaaGreat.Hy
namespace Go.Proofs.YtbobcmimkonnoaaGreat.Jy
open ChangeShapes WideShapes ChangeAt RowKit Sl Cop D2 K3 G2 M2 U3 Y3 X3 Q8 X5 Y5 F6 Z6 N9 Dy Hy Ey Fy Gy
structure LawS where
 s:VaultS
 H:List VaultS
 rs:PoolS
 gs:List PageV
 fl:Int
 l:List (List Int × List PageV)
 kv:Value
 ws:List WkE
 h:Hp
 tv:Value
 xv:Value
 bs:List BkE
structure LOK(z:LawS)(k:Nat):Prop where
 j:Join z.s z.H z.rs z.gs z.fl z.l k
 ll:z.l.length+k≤1048576
 wl:z.ws.length+k≤1048576
 bk:BOk z.h ⟨z.tv,z.xv,z.bs⟩
 wk:∀x∈z.ws,WkOk z.h x
theorem LOK.le {z:LawS}{k m:Nat}(h:LOK z k)(hm:m≤k):LOK z m:=⟨h.j.le hm,by have:=h.ll;omega,by have:=h.wl;omega,h.bk,h.wk⟩
def BRest(tv xv:Value)(bs:List BkE):Pr:=(TldRow tv bs).star ((WntRow xv bs).star (big bkOwn bs))
abbrev lawL(wb v r:Nat)(z:LawS)(T:List Pr):List Pr:=VaultA v z.s :: RefH r z.rs z.gs z.fl z.l :: workO wb v r z.kv z.tv z.xv :: BRest z.tv z.xv z.bs :: WksRow z.kv z.ws :: Pr.own z.h :: T
def DoneH(wb v r k:Nat)(F:Pr)(w:World):Prop:= ∃z,LOK z k∧OwnL (lawL wb v r z [F]) w
def DoneP(wb v r k:Nat)(P:VaultS→Prop)(F:Pr)(w:World):Prop:= ∃z,LOK z k∧P z.s∧OwnL (lawL wb v r z [F]) w
theorem DoneP.done {wb v r k:Nat}{P:VaultS→Prop}{F:Pr}{w:World}(h:DoneP wb v r k P F w):DoneH wb v r k F w:=by
 obtain⟨z,ok,_,hs⟩:=h
 exact⟨z,ok,hs⟩
theorem book_close {wb v r:Nat}{kv tv xv:Value}{bs:List BkE}{h:Hp}(ok:BOk h ⟨tv,xv,bs⟩){L R R2:List Pr}{w:World}(o:OwnL L w) [Pull (workO wb v r kv tv xv) L R] [Pull (BRest tv xv bs) R R2]:OwnL (BookE wb v r kv h :: R2) w:=
 ⟨bookE_iff.2 ⟨⟨tv,xv,bs⟩,ok,(o.pull2 (A1:=workO wb v r kv tv xv) (A2:=BRest tv xv bs)).perm (by unfold BRest;simp only [Pr.star_assoc])⟩⟩
theorem book_open {wb v r:Nat}{kv:Value}{h:Hp}{L R:List Pr}{w:World}(o:OwnL L w) [Pull (BookE wb v r kv h) L R]:∃tv xv bs,BOk h ⟨tv,xv,bs⟩∧OwnL (workO wb v r kv tv xv :: BRest tv xv bs :: R) w:=by
 obtain⟨⟨tv,xv,bs⟩,ok,h2⟩:=bookE_iff.1 (o.pull1 (A1:=BookE wb v r kv h))
 exact⟨tv,xv,bs,ok,⟨h2.perm (by unfold BRest;simp only [BookP,starL,Pr.star_assoc])⟩⟩
theorem nums_same {s:VaultS}{rs:PoolS}{gs:List PageV}(tw:Go.Cop.Twin s rs gs)(k:Int):numsOf s (pagesIn s.pool k)=numsR rs gs k rs.counts.length:=by
 have e1:pagesIn s.pool k=pagesTo rs k rs.counts.length:=by
  unfold pagesIn pagesTo
  rw [tw.cs]
  congr 1
  refine List.filter_congr fun i _=> ?_
  rw [tw.state]
 unfold numsOf numsR
 rw [← e1]
 refine List.map_congr_left fun n hn=> ?_
 obtain⟨h1,h2⟩:=pages_mem.1 hn
 unfold numR
 congr 1
 by_cases hk:k=1
 · rw [if_pos hk,tw.bare n (by rw [h2];exact hk)]
   rfl
 · rw [if_neg hk,tw.pg n (by rw [h2];exact hk) h1]
   rfl
theorem nums_fit {s:VaultS}(hfit:∀n g,s.on n=some g→Fit g)(l:List Int):∀x∈numsOf s l,Fit x.page:=by
 intro x hx
 unfold numsOf at hx
 obtain⟨n,_,rfl⟩:=List.mem_map.1 hx
 show Fit ((s.on n).getD zeroP)
 cases h:s.on n with
 | none=>exact fitZ
 | some g=>exact hfit n g h
abbrev opC11(kind N K pk pl:Int)(vi vd:Value)(nx:Int):Obj:= .cells #[.int .i64 kind,.int .i64 N,.int .i64 K,.int .i64 pk,.int .i64 pl,vi,vd,.int .i64 nx] 33
end Go.Proofs.YtbobcmimkonnoaaGreat.Jy
namespace Go.Proofs.YtbobcmimkonnoaaGreat.Ky
open ChangeShapes WideShapes ChangeAt RowKit Sl Cop K3 Q3 G2 M2 N2 U3 Y3 X3 X5 Y5 M9 Ay N9 Fy Jy Y9 Cy
theorem row5_rd {α:Type}{T:Nat}{a:Option Addr}{n c:Nat}(f:α→List Value)(hf:∀x,(f x).length=5){l:List α}{F:Pr}{w:World}(h:Sat ((Row T 5 (.slice a n c) n (l.flatMap f)).star F) w)(hl:l.length=n)(i:Nat)(hi:i<l.length):
 ∃b,a=some ⟨b,0,none⟩∧∀j,j<5→w.cell? ⟨b,i*5+j,none⟩=(f l[i])[j]? ∧w.frozen? ⟨b,i*5+j,none⟩=false:=by
 obtain⟨_,_,e,_,hc⟩:=Row.read h
 cases e
 obtain⟨b,eb,hd⟩:=hc (by omega)
 refine⟨b,eb,fun j hj=> ?_⟩
 obtain⟨h1,h2⟩:=hd (i*5+j) (by omega)
 exact⟨h1.trans (flat_at f 5 hf l i j hi hj),h2⟩
def BkE.at(e:BkE)(v:Value):BkE:= { e with t:= { e.t with vi:=v } }
theorem told_put {b n c i:Nat}{qs:List BkE}{F:Pr}{w:World}(h:Sat ((Row 31 5 (.slice (some ⟨b,0,none⟩) n c) n (qs.flatMap bkT)).star F) w)(hi:i<qs.length)(v:Value):
 Sat ((Row 31 5 (.slice (some ⟨b,0,none⟩) n c) n ((qs.set i (BkE.at qs[i] v)).flatMap bkT)).star F) (w.setCell ⟨b,i*5+2,none⟩ v):=by
 have hlen:=flat_len bkT 5 (fun _=>rfl) qs
 have h1:=Row.set h (i*5+2) (by rw [hlen];omega) v
 rw [flat_set bkT 5 (fun _=>rfl) 2 v (BkE.at qs[i] v) (by omega) qs i hi (by simp [bkT,BkE.at])] at h1
 exact h1
theorem told_rd {b n c i:Nat}{qs:List BkE}{e:BkE}{F:Pr}{w:World}(h:Sat ((Row 31 5 (.slice (some ⟨b,0,none⟩) n c) n (qs.flatMap bkT)).star F) w)(hl:qs.length=n)(he:qs[i]? =some e):
 w.cell? ⟨b,i*5,none⟩=some (.int .i64 e.t.g.kind)∧w.cell? ⟨b,i*5+1,none⟩=some (.int .i64 e.t.g.level)∧w.cell? ⟨b,i*5+2,none⟩=some e.t.vi∧w.cell? ⟨b,i*5+3,none⟩=some e.t.vd∧w.cell? ⟨b,i*5+4,none⟩=some (.int .i64 e.t.g.next)∧w.frozen? ⟨b,i*5+2,none⟩=false:=by
 obtain⟨hi,rfl⟩:=List.getElem?_eq_some_iff.1 he
 obtain⟨b',eb,hc⟩:=row5_rd bkT (fun _=>rfl) h hl i hi
 cases eb
 exact⟨(hc 0 (by omega)).1,(hc 1 (by omega)).1,(hc 2 (by omega)).1,(hc 3 (by omega)).1,(hc 4 (by omega)).1,(hc 2 (by omega)).2⟩
theorem want_rd {b n c i:Nat}{qs:List BkE}{e:BkE}{F:Pr}{w:World}(h:Sat ((Row 31 5 (.slice (some ⟨b,0,none⟩) n c) n (qs.flatMap bkW)).star F) w)(hl:qs.length=n)(he:qs[i]? =some e):
 w.cell? ⟨b,i*5,none⟩=some (.int .i64 e.t.g.kind)∧w.cell? ⟨b,i*5+1,none⟩=some (.int .i64 e.t.g.level)∧w.cell? ⟨b,i*5+2,none⟩=some e.wi∧w.cell? ⟨b,i*5+3,none⟩=some e.wd∧w.cell? ⟨b,i*5+4,none⟩=some (.int .i64 e.t.g.next):=by
 obtain⟨hi,rfl⟩:=List.getElem?_eq_some_iff.1 he
 obtain⟨b',eb,hc⟩:=row5_rd bkW (fun _=>rfl) h hl i hi
 cases eb
 exact⟨(hc 0 (by omega)).1,(hc 1 (by omega)).1,(hc 2 (by omega)).1,(hc 3 (by omega)).1,(hc 4 (by omega)).1⟩
def ovI(j:Nat):It:=((.slice none 0 0,.slice none 0 0),⟨[],[], -3-(j:Int),0⟩)
theorem ov_three(n i:Nat):((List.replicate n (ovI i)).flatMap itCells)++ [.slice none 0 0,.slice none 0 0,.int .i64 (-3-(i:Int)),.int .i64 0,.slice none 0 0,.slice none 0 0,.int .i64 (-3-(i:Int)),.int .i64 0,.slice none 0 0,.slice none 0 0,.int .i64 (-3-(i:Int)),.int .i64 0]=(List.replicate (n+3) (ovI i)).flatMap itCells:=by
 rw [← List.replicate_append_replicate,List.flatMap_append]
 rfl
def pgL(t:ToldX):List (Value × List Int):=(t.vd,t.g.data) :: (t.ys.zip t.g.items).flatMap fun y=> [(y.1.1,y.2.key),(y.1.2,y.2.value)]
theorem zip_len2:∀(ys:List (Value × Value)) (its:List ItemV),ys.length=its.length→((ys.zip its).flatMap fun y=> [(y.1.1,y.2.key),(y.1.2,y.2.value)]).length=2*its.length
 | [],[],_=>rfl
 | [],_ :: _,h=>by simp at h
 | _ :: _,[],h=>by simp at h
 | y :: ys,x :: its,h=>by
   have:=zip_len2 ys its (by simpa using h)
   simp only [List.zip_cons_cons,List.flatMap_cons,List.length_append,this,List.length_cons,List.length_nil]
   omega
theorem pgL_len {t:ToldX}(h:t.ys.length=t.g.items.length):(pgL t).length=1+2*t.g.items.length:=by
 unfold pgL
 rw [List.length_cons,zip_len2 _ _ h]
 omega
theorem zip_fst2:∀(ys:List (Value × Value)) (its:List ItemV),ys.length=its.length→(((ys.zip its).flatMap fun y=> [(y.1.1,y.2.key),(y.1.2,y.2.value)]).map (·.1))=ys.flatMap bothOf
 | [],[],_=>rfl
 | [],_ :: _,h=>by simp at h
 | _ :: _,[],h=>by simp at h
 | y :: ys,x :: its,h=>by
   have:=zip_fst2 ys its (by simpa using h)
   simp only [List.zip_cons_cons,List.flatMap_cons,List.map_append,this,List.map_cons,List.map_nil,bothOf]
theorem pgL_fst {t:ToldX}(h:t.ys.length=t.g.items.length):(pgL t).map (·.1)=t.vd :: t.ys.flatMap bothOf:=by
 unfold pgL
 rw [List.map_cons,zip_fst2 _ _ h]
theorem pgL_sz {t:ToldX}(hf:Fit t.g):∀x∈pgL t,x.2.length≤65536:=by
 intro x hx
 unfold pgL at hx
 rcases List.mem_cons.1 hx with rfl | hx
 · have:=hf.d;dsimp only;omega
 · obtain⟨y,hy,hx⟩:=List.mem_flatMap.1 hx
   have hm:=(List.of_mem_zip hy).2
   have:=hf.k _ hm
   rcases List.mem_cons.1 hx with rfl | hx
   · dsimp only;omega
   · cases List.mem_singleton.1 hx;dsimp only;omega
theorem big_rows2:∀(l:List ((Value × Value) × ItemV)),big rowsOf l=big rowOf (l.flatMap fun y=> [(y.1.1,y.2.key),(y.1.2,y.2.value)])
 | []=>rfl
 | y :: l=>by
   rw [big_cons,List.flatMap_cons,big_append, ← big_rows2 l,big_cons,big_one]
   rfl
theorem pgOwn_lists {t:ToldX}{F:Pr}{w:World}:Sat ((PgOwn t).star F) w↔t.ys.length=t.g.items.length∧Sat ((ItRow t.vi t.ys t.g.items).star ((big rowOf (pgL t)).star F)) w:=by
 rw [pgOwn_iff]
 have e:big rowOf (pgL t)=(BytesRow t.vd t.g.data).star (big rowsOf (t.ys.zip t.g.items)):=by
  unfold pgL
  rw [big_cons, ← big_rows2]
  rfl
 rw [e]
 constructor
 · rintro⟨h1,h2⟩
   exact⟨h1,h2.perm (by simp only [TRows];ac_rfl)⟩
 · rintro⟨h1,h2⟩
   exact⟨h1,h2.perm (by simp only [TRows];ac_rfl)⟩
def allL(bs:List BkE):List (Value × List Int):=bs.flatMap fun e=>pgL e.t
theorem allL_take {bs:List BkE}{i:Nat}(hi:i<bs.length):allL (bs.take (i+1))=allL (bs.take i)++pgL bs[i].t:=by
 unfold allL
 rw [List.take_succ_eq_append_getElem hi,List.flatMap_append]
 simp only [List.flatMap_cons,List.flatMap_nil,List.append_nil]
def ovOf(o:Value × Nat × Nat):Pr:=Row 58 4 o.1 o.2.1 ((List.replicate o.2.1 (ovI o.2.2)).flatMap itCells)
theorem ov_rd {os:List (Value × Nat × Nat)}{i:Nat}(hi:i<os.length){F:Pr}{w:World}(h:Sat ((big ovOf os).star F) w):
 ∃a c,os[i].1= .slice a os[i].2.1 c∧∀q,q<os[i].2.1→∃b,a=some ⟨b,0,none⟩∧w.cell? ⟨b,q*4+2,none⟩=some (.int .i64 (-3-(os[i].2.2:Int))):=by
 rw [big_at _ _ i hi,Pr.star_assoc] at h
 have h1:Sat ((Row 58 4 os[i].1 os[i].2.1 ((List.replicate os[i].2.1 (ovI os[i].2.2)).flatMap itCells)).star ((big ovOf (os.eraseIdx i)).star F)) w:=h
 obtain⟨a,c,e⟩:=Row.shape h1
 refine⟨a,c,e,fun q hq=> ?_⟩
 rw [e] at h1
 obtain⟨_,_,e2,_,hc⟩:=Row.read h1
 cases e2
 obtain⟨b,eb,hd⟩:=hc (by omega)
 refine⟨b,eb,(hd (q*4+2) (by omega)).1.trans ?_⟩
 have:=flat_at itCells 4 (fun _=>rfl) (List.replicate os[i].2.1 (ovI os[i].2.2)) q 2 (by rw [List.length_replicate];exact hq) (by omega)
 rw [List.getElem_replicate] at this
 exact this
theorem bRest_nil:BRest (.slice none 0 0) (.slice none 0 0) []=Pr.emp:=by
 unfold BRest
 simp only [TldRow,WntRow,List.length_nil,List.flatMap_nil,Row.nil,big_nil,Pr.star_emp]
theorem allL_sz {bs:List BkE}(hf:∀e∈bs,Fit e.t.g):∀x∈allL bs,x.2.length≤65536:=by
 intro x hx
 obtain⟨e,he,hx⟩:=List.mem_flatMap.1 hx
 exact pgL_sz (hf e he) x hx
theorem rows_sl {ys:List (Value × Value)}{its:List ItemV}(hl:ys.length=its.length){F:Pr}{w:World}(h:Sat ((big rowsOf (ys.zip its)).star F) w):∀y∈ys,isSl y.1∧isSl y.2:=by
 intro y hy
 obtain⟨k,hk,rfl⟩:=List.mem_iff_getElem.1 hy
 have hz:k<(ys.zip its).length:=by simp;omega
 rw [big_at _ _ k hz] at h
 have h2:Sat (((BytesRow (ys.zip its)[k].1.1 (ys.zip its)[k].2.key).star (BytesRow (ys.zip its)[k].1.2 (ys.zip its)[k].2.value)).star ((big rowsOf ((ys.zip its).eraseIdx k)).star F)) w:=by rw [← Pr.star_assoc];exact h
 rw [Pr.star_assoc] at h2
 obtain⟨a1,c1,e1⟩:=Row.shape h2
 obtain⟨a2,c2,e2⟩:=Row.shape h2.right
 have e:(ys.zip its)[k].1=ys[k]:=by simp
 rw [e] at e1 e2
 exact⟨⟨_,_,_,e1⟩,⟨_,_,_,e2⟩⟩
end Go.Proofs.YtbobcmimkonnoaaGreat.Ky
namespace Go.Proofs.YtbobcmimkonnoaaGreat.Ly
open M5 J4 ChangeShapes WideShapes ChangeAt RowKit Sl Cop D2 K3 N3 Q3 G2 M2 U3 Y3 F4 X9 X3 V6 E6 F6 G6 Z6 K8 Fy Jy Ky
def zNew(refs:Int)(n:Nat):LawS:=⟨newV refs n,[],poolN refs n,List.replicate n zeroP,0,[],.slice none 0 0,[],Hp.nil,.slice none 0 0,.slice none 0 0,[]⟩
theorem begin_bad(pages refs:Int)(h:rangeOk pages refs=false)(w:World):
 Calls Tryz.prog 9 #[.int .i64 pages,.int .i64 refs] w fun e w'=>e= .returned (.tuple #[.pointer none,.bool true])∧w=w':=by
 have V:=hQ (vnew_bad pages refs h w)
 have R:=hQ (rnew_bad pages refs h w)
 clear h
 go_enter Tryz.func9,Tryz.ntmps9
 go_wp2_with fail
 refine V.out.mono ?_
 rintro e w1 ⟨rfl,rfl⟩
 go_wp2_with fail
 refine R.out.mono ?_
 rintro e w1 ⟨rfl,rfl⟩
 go_wp2
 go_ret2
 exact⟨rfl,rfl⟩
theorem begin_any(n:Nat)(refs:Int)(h:rangeOk n refs=true)(k:Nat)(hk:k≤1000000)(F:Pr)(w:World)(hF:Sat F w):
 Calls Tryz.prog 9 #[.int .i64 n,.int .i64 refs] w fun e w'=>Stays w w'∧∃wb v r,e= .returned (.tuple #[.pointer (some ⟨wb,0,none⟩),.bool true])∧LOK (zNew refs n) k∧OwnL (lawL wb v r (zNew refs n) [F]) w':=by
 obtain⟨n1,n2,n3,n4⟩:=rangeOk_iff.1 h
 have V:=hQ (vnew_any n refs (by omega) _ _ hF)
 have H:=hQ h
 clear hF h
 go_enter Tryz.func9,Tryz.ntmps9
 go_wp2_with fail
 refine V.out.mono ?_
 rintro e w1 ⟨st1,v,rfl,hs1⟩
 have okp:=(vault_ok hs1).1
 have R:=hQ (rnew_any n refs H.out _ _ hs1)
 have HST:=hQ st1
 have OKP:=hQ okp
 clear hs1 st1 V okp
 go_wp2_with fail
 refine R.out.mono ?_
 rintro e w2 ⟨st2,r,rfl,hs2⟩
 have hs3:=refA_refH _ _ _ _ hs2
 have hs4:=(OwnL.in2 hs3).alloc (.cells #[.pointer (some ⟨v,0,none⟩),.pointer (some ⟨r,0,none⟩),.slice none 0 0,.slice none 0 0,.slice none 0 0] 87)
 have HS4:=hQ hs4
 have HST2:=hQ ((HST.out.trans st2).alloc (.cells #[.pointer (some ⟨v,0,none⟩),.pointer (some ⟨r,0,none⟩),.slice none 0 0,.slice none 0 0,.slice none 0 0] 87))
 clear hs2 hs3 hs4 st2 R HST
 go_wp2
 go_ret2
 refine⟨HST2.out,w2.heap.size,v,r,rfl,⟨join_new H.out OKP.out k hk,by show 0+k≤ _;omega,by show 0+k≤ _;omega,⟨fun e he=>(by cases he),Nat.zero_le _⟩,fun x hx=>(by cases hx)⟩,?_⟩
 have h5:=((HS4.out.emp).emp).emp
 have e2:WksRow (.slice none 0 0) []=Pr.emp:=Row.nil _ _
 show OwnL [VaultA v (newV refs n),RefH r (poolN refs n) (List.replicate n zeroP) 0 [],workO w2.heap.size v r (.slice none 0 0) (.slice none 0 0) (.slice none 0 0),BRest (.slice none 0 0) (.slice none 0 0) [],WksRow (.slice none 0 0) [],Pr.own Hp.nil,F] _
 rw [bRest_nil,e2,own_nil]
 exact h5.to
end Go.Proofs.YtbobcmimkonnoaaGreat.Ly
namespace Go.Proofs.YtbobcmimkonnoaaGreat.My
open ChangeShapes WideShapes ChangeAt RowKit Sl Cop G2 M2 N2 U3 X3 B6 C6 X5 B9 Z9
theorem eqpage_sized(ha hb:Hp)(va vb:Value)(g:PageV)(h1:PageIn ha va g)(h2:PageIn hb vb g)(hf:SzP g)(w:World)(l1:ha.le w)(l2:hb.le w):
 Calls Tryz.prog 66 #[va,vb] w fun e w'=>e= .returned (.bool true)∧Only w w':=by
 obtain⟨i1,d1,rfl,hi1,hd1⟩:=h1
 obtain⟨i2,d2,rfl,hi2,hd2⟩:=h2
 obtain⟨a1,c1,rfl,_,rd1⟩:=items_rd hi1
 obtain⟨a3,c3,rfl,_,rd2⟩:=items_rd hi2
 obtain⟨a2,c2,rfl⟩:=bytes_shape hd1
 obtain⟨a4,c4,rfl⟩:=bytes_shape hd2
 obtain⟨k,l,its,dat,nx⟩:=g
 dsimp only at*
 have hn1:(its.length:Int)≤2199023255488:=by have:=hf.n;dsimp only at this;omega
 have hdl:dat.length≤9000000000000000000:=by have:=hf.d;dsimp only at this;omega
 have hkk:∀y∈its,y.key.length≤9000000000000000000∧y.value.length≤9000000000000000000:=fun y hy=>by have:=hf.k y hy;omega
 obtain⟨w0,hw0⟩:∃w0,(w.alloc (pageC k l (.slice a1 its.length c1) (.slice a2 dat.length c2) nx)).alloc (pageC k l (.slice a3 its.length c3) (.slice a4 dat.length c4) nx)=w0:=⟨_,rfl⟩
 have ho0:Only w w0:=hw0 ▸ ((Only.refl w).alloc _).alloc _
 have facts:∀wr,Only w0 wr→(wr.cell? ⟨w.heap.size,0,none⟩=some (.int .i64 k)∧wr.cell? ⟨w.heap.size,1,none⟩=some (.int .i64 l)∧wr.cell? ⟨w.heap.size,2,none⟩=some (.slice a1 its.length c1)∧wr.cell? ⟨w.heap.size,3,none⟩=some (.slice a2 dat.length c2)∧wr.cell? ⟨w.heap.size,4,none⟩=some (.int .i64 nx))∧
  (wr.cell? ⟨w.heap.size+1,0,none⟩=some (.int .i64 k)∧wr.cell? ⟨w.heap.size+1,1,none⟩=some (.int .i64 l)∧wr.cell? ⟨w.heap.size+1,2,none⟩=some (.slice a3 its.length c3)∧wr.cell? ⟨w.heap.size+1,3,none⟩=some (.slice a4 dat.length c4)∧wr.cell? ⟨w.heap.size+1,4,none⟩=some (.int .i64 nx))∧ha.le wr∧hb.le wr∧w.heap.size+1<wr.heap.size:=by
  intro wr ho
  subst hw0
  have s1:Sat ((Pr.pts w.heap.size (pageC k l (.slice a1 its.length c1) (.slice a2 dat.length c2) nx)).star Pr.emp) (w.alloc (pageC k l (.slice a1 its.length c1) (.slice a2 dat.length c2) nx)):=(sat_emp w).alloc _
  have s2:=s1.alloc (pageC k l (.slice a3 its.length c3) (.slice a4 dat.length c4) nx)
  rw [show (w.alloc (pageC k l (.slice a1 its.length c1) (.slice a2 dat.length c2) nx)).heap.size=w.heap.size+1 by simp] at s2
  have s3:=s2.only ho
  obtain⟨p0,p1,p2,p3,p4,_,_⟩:=pts5 s3.right
  obtain⟨r0,r1,r2,r3,r4,_,zz⟩:=pts5 s3
  exact⟨⟨p0,p1,p2,p3,p4⟩,⟨r0,r1,r2,r3,r4⟩,le_only (le_only l1 ho0) ho,le_only (le_only l2 ho0) ho,zz⟩
 have FA:=hQ facts
 have HO0:=hQ ho0
 have RD1:=hQ rd1
 have RD2:=hQ rd2
 have HD1:=hQ hd1
 have HD2:=hQ hd2
 have HK:=hQ hkk
 clear facts ho0 rd1 rd2 hd1 hd2 hi1 hi2 l1 l2 hkk hf
 obtain⟨⟨p0,p1,p2,p3,p4⟩,⟨r0,r1,r2,r3,r4⟩,e1,e2,z⟩:=FA.out w0 (Only.refl _)
 go_enter Tryz.func66,Tryz.ntmps66
 go_wp2_with fail
 refine(eq_same ha hb _ _ dat HD1.out HD2.out hdl _ e1 e2).mono ?_
 rintro e w1 ⟨rfl,ho1⟩
 clear p0 p1 p2 p3 p4 r0 r1 r2 r3 r4 e1 e2 z
 go_wp2_with fail
 go_loopw [5] (fun i wr=> ∃r:Nat,r≤its.length∧i= .int .i64 r∧Only w0 wr) (fun i _=>its.length-(intOf i).toNat)
 case atStart=>exact⟨0,Nat.zero_le _,rfl,ho1⟩
 case round=>
  obtain⟨r,hr,rfl,ho⟩:=hrel
  obtain⟨⟨p0,p1,p2,p3,p4⟩,⟨r0,r1,r2,r3,r4⟩,e1,e2,z⟩:=FA.out wr ho
  rcases Nat.lt_or_ge r its.length with hlt | hge
  · obtain⟨b1,o1,ak1,ck1,av1,cv1,rfl,hbk1,hbv1,hc1⟩:=RD1.out r hlt
    obtain⟨b2,o2,ak2,ck2,av2,cv2,rfl,hbk2,hbv2,hc2⟩:=RD2.out r hlt
    obtain⟨s0,s1,s2,s3⟩:=hc1 wr e1
    obtain⟨t0,t1,t2,t3⟩:=hc2 wr e2
    have HX:=hQ (HK.out its[r] (List.getElem_mem hlt))
    have HC1:=hQ hc1
    have HC2:=hQ hc2
    have HO:=hQ ho
    clear hc1 hc2 ho
    generalize its[r]=x at*
    go_wp2_with fail
    refine wp_region_staged (sz:=61) (by kernel_rfl) [0,1,2,3,4,5,6,7,8,9] [(10,[11],[0,1,2,3,5,6,7,8])] rfl (by kernel_rfl) (by kernel_rfl) (by kernel_rfl) ?_
    refine wpQ_all _ rfl rfl ?_
    simp only [pick,pQ]
    iterate 10 (go_big_quiet_step (fail))
    refine wpQuiet_nil ?_
    refine wpRest_act rfl ?_
    go_wp2_with fail
    refine(eqitem_same ha hb _ _ x ⟨_,_,rfl,hbk1,hbv1⟩ ⟨_,_,rfl,hbk2,hbv2⟩ HX.out _ (le_only e1 ((Only.refl _).drew)) (le_only e2 ((Only.refl _).drew))).mono ?_
    rintro e w2 ⟨rfl,ho2⟩
    have HO2:=hQ (HO.out.drew.trans ho2)
    clear p0 p1 p2 p3 p4 r0 r1 r2 r3 r4 e1 e2 z s0 s1 s2 s3 t0 t1 t2 t3
    obtain⟨⟨p0,p1,p2,p3,p4⟩,⟨r0,r1,r2,r3,r4⟩,e1,e2,z⟩:=FA.out w2 HO2.out
    obtain⟨s0,s1,s2,s3⟩:=HC1.out w2 e1
    obtain⟨t0,t1,t2,t3⟩:=HC2.out w2 e2
    go_wp2
    refine onN_mk ?_
    refine wpQ_all _ rfl rfl ?_
    simp only [pick,pQ]
    iterate 1 (go_big_quiet_step (fail))
    refine wpQuiet_nil ⟨?_,?_⟩
    · refine chk_all _ rfl rfl ?_
      simp only [pick,Same,pQ,and_true]
      repeat' (first | apply And.intro | (go_big_quiet_step (fail);exact wpQuiet_nil rfl))
    refine wpRest_nil ?_
    go_wp2
    go_roundw
    case rel=>exact⟨r+1,by omega,congrArg (Value.int .i64) (by omega),HO2.out⟩
    case measure=>simp [intOf];omega
  · have hrl:r=its.length:=by omega
    subst hrl
    have HO:=hQ ho
    clear ho
    go_wp2
    go_ret
    exact⟨rfl,HO0.out.trans HO.out⟩
end Go.Proofs.YtbobcmimkonnoaaGreat.My
namespace Go.Proofs.YtbobcmimkonnoaaGreat.Ny
open ChangeShapes WideShapes ChangeAt RowKit Sl Cop K3 Q3 G2 M2 N2 U3 Y3 X3 X5 Y5 X8 Y8 Y9 Z9 My
theorem sp_item {ib:Nat}{bs:List (Nat × Nat)}{its:List ItemV}{k:Nat}{F:Pr}{w:World}(h:Sat ((SpRow ib bs its).star F) w)(hl:bs.length=its.length)(hk:k<its.length):
 w.cell? ⟨ib,k*4,none⟩=some (.slice (some ⟨(bs[k]'(by omega)).1,0,none⟩) its[k].key.length (its[k].key.length+64))∧w.cell? ⟨ib,k*4+1,none⟩=some (.slice (some ⟨(bs[k]'(by omega)).2,0,none⟩) its[k].value.length (its[k].value.length+64)):=by
 obtain⟨⟨h1,h2,_,_⟩,_⟩:=z_rd h (spL_len _ _ _) (k:=k) (by rw [spL_len];omega)
 have e:(spL bs its (its.length+2))[k]'(by rw [spL_len];omega)=(kvOf (bs[k]'(by omega)) its[k],its[k]):=by
  rw [spL_at (by omega)]
  unfold spZ
  rw [if_pos (by omega),dif_pos hk]
  simp [List.getD,List.getElem?_eq_getElem (show k<bs.length by omega)]
 rw [e] at h1 h2
 exact⟨h1,h2⟩
theorem sp_ext {ib:Nat}{bs:List (Nat × Nat)}{its:List ItemV}{k:Nat}{F:Pr}{w:World}(h:Sat ((SpRow ib bs its).star F) w)(h1:its.length≤k)(h2:k<its.length+2):
 w.cell? ⟨ib,k*4,none⟩=some (.slice none 0 0)∧w.cell? ⟨ib,k*4+1,none⟩=some (.slice none 0 0)∧w.cell? ⟨ib,k*4+2,none⟩=some (.int .i64 (-5-(k:Int)))∧w.cell? ⟨ib,k*4+3,none⟩=some (.int .i64 (-9)):=by
 obtain⟨h3,_⟩:=z_rd h (spL_len _ _ _) (k:=k) (by rw [spL_len];omega)
 have e:(spL bs its (its.length+2))[k]'(by rw [spL_len];omega)=extZ k:=by
  rw [spL_at (by omega)]
  unfold spZ
  rw [if_pos h2,dif_neg (by omega)]
 rw [e] at h3
 exact h3
theorem keptpage_any(x:SpX)(g:PageV)(hbl:x.bs.length=g.items.length)(hz:SzP g)(h:Hp)(v:Value)(hv:PageIn h v g)(F:Pr)(w:World)
 (hF:Sat ((SpRow x.ib x.bs g.items).star ((big wholeOf (x.bs.zip g.items)).star ((WholeRow x.db g.data).star ((Pr.own h).star F)))) w):
 Calls Tryz.prog 31 #[x.pv g,v] w fun e w'=>e= .returned (.bool true)∧Only w w':=by
 obtain⟨vi,vd,rfl,hi,hdd⟩:=id hv
 obtain⟨ai,ci,rfl,_,rd⟩:=items_rd hi
 obtain⟨ad,cd,rfl⟩:=bytes_shape hdd
 obtain⟨ib,db,bs⟩:=x
 dsimp only at hbl hF
 obtain⟨w0,hw0⟩:∃w0,(w.alloc (pageC g.kind g.level (.slice (some ⟨ib,0,none⟩) g.items.length (g.items.length+2)) (.slice (some ⟨db,0,none⟩) g.data.length (g.data.length+64)) g.next)).alloc (pageC g.kind g.level (.slice ai g.items.length ci) (.slice ad g.data.length cd) g.next)=w0:=⟨_,rfl⟩
 have ho0:Only w w0:=hw0 ▸ ((Only.refl w).alloc _).alloc _
 have hs0:=((OwnL.in4 hF).alloc (pageC g.kind g.level (.slice (some ⟨ib,0,none⟩) g.items.length (g.items.length+2)) (.slice (some ⟨db,0,none⟩) g.data.length (g.data.length+64)) g.next)).alloc (pageC g.kind g.level (.slice ai g.items.length ci) (.slice ad g.data.length cd) g.next)
 rw [hw0,show (w.alloc (pageC g.kind g.level (.slice (some ⟨ib,0,none⟩) g.items.length (g.items.length+2)) (.slice (some ⟨db,0,none⟩) g.data.length (g.data.length+64)) g.next)).heap.size=w.heap.size+1 by simp] at hs0
 have EQ:=hQ (show ∀wr,Only w0 wr→Calls Tryz.prog 66 #[pageV g.kind g.level (.slice (some ⟨ib,0,none⟩) g.items.length (g.items.length+2)) (.slice (some ⟨db,0,none⟩) g.data.length (g.data.length+64)) g.next,pageV g.kind g.level (.slice ai g.items.length ci) (.slice ad g.data.length cd) g.next] wr fun e w'=>e= .returned (.bool true)∧Only wr w' by
  intro wr ho
  have hs:=hs0.ext ho.heap
  have h2:Sat ((SpRows ⟨ib,db,bs⟩ g).star (starL _)) wr:=(hs.join3 (SpRow ib bs g.items) (big wholeOf (bs.zip g.items)) (WholeRow db g.data)).sat
  obtain⟨ha,hq,h3⟩:=h2.toOwn
  exact eqpage_sized ha h _ _ g (spRows_in hbl hq) hv hz wr h3.own (hs.pull1 (A1:=Pr.own h)).own)
 have KD:=hQ (show ∀wr,Only w0 wr→Calls Tryz.prog 91 #[.slice (some ⟨db,0,none⟩) g.data.length (g.data.length+64),.slice ad g.data.length cd] wr fun e w'=>e= .returned (.bool true)∧Only wr w' by
  intro wr ho
  have hs:=hs0.ext ho.heap
  exact kept_any db g.data h _ hdd hz.d _ wr (hs.pull2 (A1:=WholeRow db g.data) (A2:=Pr.own h)))
 have KK:=hQ (show ∀wr,Only w0 wr→∀k (hk:k<g.items.length) a c,Bytes h (.slice a g.items[k].key.length c) g.items[k].key→Calls Tryz.prog 91 #[.slice (some ⟨(bs[k]'(by omega)).1,0,none⟩) g.items[k].key.length (g.items[k].key.length+64),.slice a g.items[k].key.length c] wr fun e w'=>e= .returned (.bool true)∧Only wr w' by
  intro wr ho k hk a c hx
  have hbk:k<bs.length:=by omega
  have hs:=hs0.ext ho.heap
  have hzk:k<(bs.zip g.items).length:=by simp;omega
  have h1:=(hs.take wholeOf (bs.zip g.items) k hzk).sat
  rw [show (bs.zip g.items)[k]=(bs[k],g.items[k]) by simp] at h1
  have h2:Sat (((WholeRow bs[k].1 g.items[k].key).star (WholeRow bs[k].2 g.items[k].value)).star _) wr:=h1
  rw [Pr.star_assoc] at h2
  have h3:=OwnL.of2 h2
  exact kept_any _ g.items[k].key h _ hx (hz.k _ (List.getElem_mem hk)).1 _ wr (h3.pull2 (A1:=WholeRow bs[k].1 g.items[k].key) (A2:=Pr.own h)))
 have KV:=hQ (show ∀wr,Only w0 wr→∀k (hk:k<g.items.length) a c,Bytes h (.slice a g.items[k].value.length c) g.items[k].value→Calls Tryz.prog 91 #[.slice (some ⟨(bs[k]'(by omega)).2,0,none⟩) g.items[k].value.length (g.items[k].value.length+64),.slice a g.items[k].value.length c] wr fun e w'=>e= .returned (.bool true)∧Only wr w' by
  intro wr ho k hk a c hx
  have hbk:k<bs.length:=by omega
  have hs:=hs0.ext ho.heap
  have hzk:k<(bs.zip g.items).length:=by simp;omega
  have h1:=(hs.take wholeOf (bs.zip g.items) k hzk).sat
  rw [show (bs.zip g.items)[k]=(bs[k],g.items[k]) by simp] at h1
  have h2:Sat (((WholeRow bs[k].1 g.items[k].key).star (WholeRow bs[k].2 g.items[k].value)).star _) wr:=h1
  rw [Pr.star_assoc] at h2
  have h3:=OwnL.of2 h2
  exact kept_any _ g.items[k].value h _ hx (hz.k _ (List.getElem_mem hk)).2 _ wr (h3.pull2 (A1:=WholeRow bs[k].2 g.items[k].value) (A2:=Pr.own h)))
 have HS0:=hQ hs0
 have HO0:=hQ ho0
 have RD:=hQ rd
 have HBL:=hQ hbl
 have hn0:(g.items.length:Int)≤2199023255488:=by have:=hz.n;omega
 clear hs0 ho0 rd hi hdd hv hF hz
 have c1:=HS0.out.facts
 simp only [CellsAt,Nat.reduceAdd,and_true] at c1
 rw [show SpX.pv ⟨ib,db,bs⟩ g=pageV g.kind g.level (.slice (some ⟨ib,0,none⟩) g.items.length (g.items.length+2)) (.slice (some ⟨db,0,none⟩) g.data.length (g.data.length+64)) g.next from rfl]
 go_enter Tryz.func31,Tryz.ntmps31
 go_wp2_with fail
 refine(EQ.out w0 (Only.refl _)).mono ?_
 rintro e w1 ⟨rfl,ho1⟩
 clear c1
 have c1:=(HS0.out.ext ho1.heap).facts
 simp only [CellsAt,Nat.reduceAdd,and_true] at c1
 go_wp2_with fail
 refine(KD.out w1 ho1).mono ?_
 rintro e w2 ⟨rfl,ho2⟩
 have ho2:=ho1.trans ho2
 clear c1 ho1
 have c1:=(HS0.out.ext ho2.heap).facts
 simp only [CellsAt,Nat.reduceAdd,and_true] at c1
 clear EQ KD
 go_wp2_with fail
 clear c1
 go_loopw [6] (fun i wr=> ∃k:Nat,k≤g.items.length+2∧i= .int .i64 k∧Only w0 wr) (fun i _=>g.items.length+2-(intOf i).toNat)
 case atStart=>exact⟨0,Nat.zero_le _,rfl,ho2⟩
 case round=>
  obtain⟨k,hk,rfl,ho⟩:=hrel
  have hs:=HS0.out.ext ho.heap
  have c1:=hs.facts
  simp only [CellsAt,Nat.reduceAdd,and_true] at c1
  rcases Nat.lt_or_ge k (g.items.length+2) with hlt | hge
  · rcases Nat.lt_or_ge k g.items.length with hl1 | hl1
    · obtain⟨b,off,ak,ck,av,cv,rfl,hb1,hb2,hcell⟩:=RD.out k hl1
      obtain⟨r0,r1,r2,r3⟩:=hcell wr (hs.pull1 (A1:=Pr.own h)).own
      obtain⟨s0,s1⟩:=sp_item (hs.pull1 (A1:=SpRow ib bs g.items)) HBL.out hl1
      have HC:=hQ hcell
      have V:=hQ (fun wx (hx:Only w0 wx)=>KK.out wx hx k hl1 ak ck hb1)
      have V2:=hQ (fun wx (hx:Only w0 wx)=>KV.out wx hx k hl1 av cv hb2)
      have SI:=hQ (fun wx (hx:Only w0 wx)=>sp_item ((HS0.out.ext hx.heap).pull1 (A1:=SpRow ib bs g.items)) HBL.out hl1)
      have HO:=hQ ho
      clear hs ho hb1 hb2 hcell KK KV
      generalize bs[k]'(by omega)=p at*
      go_wp2_with fail
      refine wp_region_staged (sz:=99) (by kernel_rfl) [0,1,2,3,4,5,6,7,8,9,10,11] [(12,[13,14,15,16,17,18,19,20,21,22,23,24,25,26],[0,1,2,3,4,6,7,8,9,10]),(27,[28,29],[0,1,2,3,4,6,7,8,9,10,13,15,16,17,18,19,21,22,23,24,25])] rfl (by kernel_rfl) (by kernel_rfl) (by kernel_rfl) ?_
      refine wpQ_all _ rfl rfl ?_
      simp only [pick,pQ]
      iterate 12 (go_big_quiet_step (fail))
      refine wpQuiet_nil ?_
      refine wpRest_act rfl ?_
      go_wp2_with fail
      refine(V.out _ HO.out.drew).mono ?_
      rintro e w3 ⟨rfl,ho3⟩
      have HO3:=hQ (HO.out.drew.trans ho3)
      clear c1 r0 r1 r2 r3 s0 s1 ho3
      have hs:=HS0.out.ext HO3.out.heap
      have c1:=hs.facts
      simp only [CellsAt,Nat.reduceAdd,and_true] at c1
      obtain⟨r0,r1,r2,r3⟩:=HC.out w3 (hs.pull1 (A1:=Pr.own h)).own
      obtain⟨s0,s1⟩:=SI.out w3 HO3.out
      clear hs
      go_wp2
      refine onN_mk ?_
      refine wpQ_all _ rfl rfl ?_
      simp only [pick,pQ]
      iterate 14 (go_big_quiet_step (fail))
      refine wpQuiet_nil ⟨?_,?_⟩
      · refine chk_all _ rfl rfl ?_
        simp only [pick,Same,pQ,and_true]
        repeat' (first | apply And.intro | (go_big_quiet_step (fail);exact wpQuiet_nil rfl))
      refine wpRest_act rfl ?_
      go_wp2_with fail
      refine(V2.out _ HO3.out).mono ?_
      rintro e w4 ⟨rfl,ho4⟩
      have HO4:=hQ (HO3.out.trans ho4)
      clear c1 r0 r1 r2 r3 s0 s1 ho4
      have hs:=HS0.out.ext HO4.out.heap
      have c1:=hs.facts
      simp only [CellsAt,Nat.reduceAdd,and_true] at c1
      obtain⟨r0,r1,r2,r3⟩:=HC.out w4 (hs.pull1 (A1:=Pr.own h)).own
      obtain⟨s0,s1⟩:=SI.out w4 HO4.out
      clear hs
      go_wp2
      refine onN_mk ?_
      refine wpQ_all _ rfl rfl ?_
      simp only [pick,pQ]
      iterate 2 (go_big_quiet_step (fail))
      refine wpQuiet_nil ⟨?_,?_⟩
      · refine chk_all _ rfl rfl ?_
        simp only [pick,Same,pQ,and_true]
        repeat' (first | apply And.intro | (go_big_quiet_step (fail);exact wpQuiet_nil rfl))
      refine wpRest_nil ?_
      go_wp2
      refine⟨⟨k+1,by omega,congrArg (Value.int .i64) (by omega),HO4.out⟩,by simp [intOf];omega⟩
    · obtain⟨s0,s1,s2,s3⟩:=sp_ext (hs.pull1 (A1:=SpRow ib bs g.items)) hl1 hlt
      have HO:=hQ ho
      clear hs ho
      go_wp2
      refine⟨⟨k+1,by omega,congrArg (Value.int .i64) (by omega),HO.out⟩,by simp [intOf];omega⟩
  · have hkl:k=g.items.length+2:=by omega
    subst hkl
    have HO:=hQ ho
    clear hs ho
    go_wp2
    go_ret
    exact⟨rfl,HO0.out.trans HO.out⟩
end Go.Proofs.YtbobcmimkonnoaaGreat.Ny
