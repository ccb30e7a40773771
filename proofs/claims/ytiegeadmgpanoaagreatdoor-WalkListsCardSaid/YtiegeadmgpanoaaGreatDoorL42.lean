/- The document's All of a tree that stands; the conditions stand as hypotheses. -/
import Derived.Test.YtiegeadmgpanoaaGreatDoorL34
import Derived.Test.YtiegeadmgpanoaaGreatDoorL39
set_option maxRecDepth 100000
set_option maxHeartbeats 16000000
namespace Go.Proofs.YtiegeadmgpanoaaGreatDoor.D2
open ChangeShapes WideShapes ChangeAt RowKit Sl fB Go.Shelf L3 Z3 E4 X5 M8 Y8 X6
attribute [local go_sem] Oper.semAt_some
section
variable {r:Nat}{s:ef}{gs:List dR}{hush:iJ}{x0:RX}
theorem vp {F:Pr}{w:World}(h:Sat ((eE r s gs hush x0).star F) w):Sat ((Pr.own x0.h).star ((Pr.pts r (mg s.refs x0.cv x0.lv x0.pv hush)).star ((dX x0.cv s.counts).star ((eK x0.lv s.last).star ((kN x0.pv x0.xs gs).star F))))) w:=h.perm (by unfold eE;ac_rfl)
theorem yE {F:Pr}{w:World}(h:Sat ((eE r s gs hush x0).star F) w):x0.h.le w:=(vp h).own
theorem O7(v:Value)(l:List Int)(hx:Bytes x0.h v l)(hn:l.length≤140737488355328)(F:Pr)(w:World)(hF:Sat ((eE r s gs hush x0).star F) w):
 Calls Tryz.prog 58 #[v] w fun e w'=>dN w w'∧∃v',e= .returned v'∧Sat ((dM v' l).star ((eE r s gs hush x0).star F)) w':=by
 refine(jf x0.h v l _ w (vp hF) hx hn).mono ?_;rintro e w' ⟨v',rfl,hs,st⟩;refine⟨st,v',rfl,(hs.perm (B:=(eE r s gs hush x0).star ((dM v' l).star F)) ?_).perm (by ac_rfl)⟩;unfold eE;ac_rfl
theorem Gs(ok:yk s gs x0){look:Int→Option dR}(hl:kT s gs look){n:Int}{g:dR}(hn:look n=some g){F:Pr}{w:World}(hF:Sat ((eE r s gs hush x0).star F) w):
 Calls Tryz.prog 85 #[.pointer (some ⟨r,0,none⟩),.int .i64 n] w fun e w'=>e= .returned (.bool true)∧w=w':=by
 obtain⟨h0,_⟩:=hl.some n g hn
 have ht:s.there n:=by
  by_cases ht:s.there n
  · exact ht
  · exact absurd (by unfold ef.count;rw [if_neg ht]) h0
 have hpos:decide (0<s.count n)=true:=by
  rw [decide_eq_true_eq];obtain⟨j,rfl,hj⟩:=ly ht;rw [pH hj] at h0 ⊢;have:=ok.c0 s.counts[j] (aE hj)
  simp [hj] at h0 ⊢
  omega
 have C:=mS r s gs hush n _ _ (iw.2 ⟨x0,ok,hF⟩);rw [hpos] at C;exact C
end
theorem ML(r:Nat)(s:ef)(gs:List dR)(hush:iJ)(x0:RX)(BJ:yk s gs x0)(look:Int→Option dR)(hl:kT s gs look)(j6:iT look)(root dT items:Int)(L:List en)(hT:kK look root dT items L)(F:Pr)(w:World)(hF:dS [eE r s gs hush x0,F] w):
 Calls Tryz.prog 51 #[.pointer (some ⟨r,0,none⟩),pJ root dT items] w fun e w'=>dN w w'∧∃ov zs,e= .returned ov∧zs.map (·.2)=L.map (jy look)∧dS [eN ov zs,big d_ zs,eE r s gs hush x0,F] w':=by
 obtain⟨j0,Xf,hy0,hy1,Cw⟩:=info_parts uC;obtain⟨i0,lk,hz0,hz1,jg⟩:=info_parts mA;have hval:=As hT;have hlen:=vn j6 hT;have hs0:=hF.alloc (eT root dT items);rcases hT with⟨rfl,rfl,rfl,rfl⟩ | ⟨hr0,hi9,lv,hh9,hlv,hT⟩
 · have jC:=hQ (hs0.to (M:= [eE r s gs hush x0,F]))
   have eR:=hQ ((dN.refl w).alloc (eT 0 0 0));clear hF hs0 hval hlen;go_enter Tryz.func51,Tryz.ntmps51
   go_wp2;go_ret;refine⟨eR.af,.slice none 0 0,[],rfl,rfl,?_⟩;have h1:=jC.af.emp;rw [← Row.nil 49 2] at h1;have h2:dS [big d_ [],eN (.slice none 0 0) [],eE r s gs hush x0,F] (w.alloc (eT 0 0 0)):=h1.emp;exact h2.to
 · clear hi9 hh9
   have hb0:(root == 0)=false:=by rw [beq_eq_false_iff_ne];exact hr0
   obtain⟨n9,So,htr⟩:=IW j6 hT;have Gq:=htr [] [] 0 .nil;rw [aV,Nat.add_zero] at Gq;have Ys:=Ha So hlv;have Qr:=hQ Gq;have hs1:=hs0.alloc (.cells #[.int .i64 root] 3);rw [show (w.alloc (eT root dT items)).heap.size=w.heap.size+1 by simp] at hs1;have jC:=hQ hs1
   have oI:=hQ (((dN.refl w).alloc (eT root dT items)).alloc (.cells #[.int .i64 root] 3));have HH:=hQ (And.intro hl (And.intro j6 BJ));have HL:=hQ (And.intro hval hlen);have hz:=World.size_alloc w (eT root dT items);have c1:=hs0.fx;clear hF hs0 hs1 hT htr Gq hr0 hl j6 hval hlen So BJ;go_enter Tryz.func51,Tryz.ntmps51
   go_wp2;clear c1 hz;have U1:=jC.af;have U2:=oI.af;clear jC oI;generalize (w.alloc (eT root dT items)).alloc (.cells #[.int .i64 root] 3)=W0 at*;generalize w.heap.size+1=B0 at*;generalize w.heap.size=TB at*;have jC:=hQ U1;have oI:=hQ U2;clear U1 U2
   go_loopg [5,6] n9 (fun k o t wr=> ∃(st:List Int) (out:List en) (zs:List fY),k≤n9∧Hid (pA look st out k)∧Hid (zs.map (·.2)++out.map (jy look)=L.map (jy look))∧Hid (∀x∈out,x∈L)∧dN w wr∧dS [dX t st.reverse,eN o zs,big d_ zs,Pr.pts TB (eT root dT items),eE r s gs hush x0,F] wr)
   case atStart=>
    refine⟨[root],L,[],aD _,Qr,hQ rfl,hQ (fun _ h=>h),oI.af,?_⟩;have h1:=jC.af.ej (A1:=Pr.pts B0 (.cells #[.int .i64 root] 3));have h2:=(dS.kS (Row.mk' (T:=3) (k:=1) (b:=B0) (cap:=1) (n:=1) (xs:= [.int .i64 root]) (sp:= []) rfl rfl (aD _) (by simp [maxLen]) h1)).emp;rw [← Row.nil 49 2] at h2
    have h3:dS [big d_ [],eN (.slice none 0 0) [],dX (.slice (some ⟨B0,0,none⟩) 1 1) [root].reverse,Pr.pts TB (eT root dT items),eE r s gs hush x0,F] W0:=h2.emp;exact h3.to
   case round=>
    obtain⟨st,out,zs,hkn,yA,B_,hmem,hst,hs⟩:=hrel;rename World=>wr
    clear Qr jC oI;obtain⟨ao,co,rfl⟩:=Row.shape (hs.ej (A1:=eN u5 zs));cases st with
    | nil=>
      have hs1:=hs;rw [List.reverse_nil] at hs1;obtain⟨a,c,rfl⟩:=Row.shape (hs1.ej (A1:=dX u6 []));have ig:=hQ (hs1.to (M:= [eN (.slice ao zs.length co) zs,big d_ zs,eE r s gs hush x0,F]));have eR:=hQ hst
      have HD:=hQ (show zs.map (·.2)=L.map (jy look) from by
       have h1:=B_.af
       have h2:=yA.af
       cases h2
       rwa [aZ,aV] at h1)
      clear hs hs1 hst yA B_ hmem;go_wp2;go_ret;exact⟨eR.af,_,zs,rfl,HD.af,ig.af⟩
    | cons n st=>
      rw [List.reverse_cons] at hs;obtain⟨T,O4⟩:∃T,T=st.reverse:=⟨_,rfl⟩;obtain⟨m,hm⟩:∃m,m=T.length:=⟨_,rfl⟩;rw [← O4] at hs;obtain⟨a,c,rfl⟩:=Row.shape (hs.ej (A1:=dX u6 (T++ [n])));have MC:=IV yA.af
      have PZ:(m:Int)≤31381059609:=by
       have h1:m=st.length:=by rw [hm,O4,dn]
       simp only [List.length_cons] at MC;omega
      have hl1:(T++ [n]).length=m+1:=by rw [au, ← hm];rfl
      have mh:dS [Row 3 1 (.slice a (m+1) c) (m+1) (T.map (Value.int .i64)++ [.int .i64 n]),eN (.slice ao zs.length co) zs,big d_ zs,Pr.pts TB (eT root dT items),eE r s gs hush x0,F] wr:=by
       have h1:=hs;unfold dX at h1;rw [hl1,aI] at h1;exact h1
      obtain⟨b,u,rfl,hu,d9,_,zb⟩:=Row.sF (mh.row (.slice a (m+1) c)) m (cf m);rw [bV (by simp [hm]),aH, ← hm,b_] at hu;cases hu
      obtain⟨g,hg,Ip⟩:∃g,look n=some g∧((g.kind=1∧∃out' k',gk=k'+1∧out=g.items++out'∧pA look st out' k')∨(g.kind=2∧∃k',gk=k'+1∧pA look (g.items.map (·.child)++st) out k')):=by
       have h2:=yA.af;cases h2 with
       | leaf _ _ g out' k' h3 h4 h5=>exact⟨g,h3,.inl ⟨h4,out',k',rfl,rfl,h5⟩⟩
       | index _ _ g _ k' h3 h4 h5=>exact⟨g,h3,.inr ⟨h4,k',rfl,h5⟩⟩
      have hfit:=fU (HH.af.2.1.uH n g hg);have Hf:=hfit.n;have TH:=hQ (Gs HH.af.2.2 HH.af.1 hg (mh.ej (A1:=eE r s gs hush x0)));obtain⟨j,cp,bp,iG,iE,gX,iF,Pz,hj,q3,y1,y2,oK,d0,d1,d2,d3,d4⟩:=lX HH.af.2.2 HH.af.1 hg (mh.ej (A1:=eE r s gs hush x0));subst Pz;have hj2:(j:Int)<(s.counts.length:Int):=by omega
      have hcl:=HH.af.2.2.n2;have Nl:(j:Int)≤65536:=by omega
      have Px:=Gp (mh.row (.slice (some ⟨b,0,none⟩) (m+1) c));have Un:(m:Int)+1≤(c:Int):=by omega
      obtain⟨_,_,qy,hit,_⟩:=id oK;simp only [fX,Value.agg.injEq,Array.mk.injEq,List.cons.injEq,and_true,true_and] at qy;obtain⟨rfl,rfl⟩:=qy;obtain⟨_,_,e9,_,rd⟩:=fL hit;cases e9;have RD:=hQ rd;have HG:=hQ hfit;have QM:=hQ (And.intro (fun h=>((je (HH.af.2.1.uH _ g hg)).leaf h).2) (fun h=>((je (HH.af.2.1.uH _ g hg)).index h).2.2));have MD:=hQ Ip
      have Ht:=hQ (And.intro O4 hm);have eR:=hQ (hst.alloc (dV g.kind g.level (.slice iG g.items.length gX) (.slice iE g.data.length iF) g.next));have Gi:=hQ hkn;have hcut:=dS.kS (wO (mh.row (.slice (some ⟨b,0,none⟩) (m+1) c)) (Nat.le_succ m));rw [bW (by simp [hm]),bS (by simp [hm])] at hcut
      have hs2:=(hcut.to (M:= [Row 3 1 (.slice (some ⟨b,0,none⟩) m c) m (T.map (Value.int .i64)),eN (.slice ao zs.length co) zs,big d_ zs,Pr.pts TB (eT root dT items),eE r s gs hush x0,F])).alloc (dV g.kind g.level (.slice iG g.items.length gX) (.slice iE g.data.length iF) g.next);have lK:=hQ hs2;have c1:=mh.fx
      rw [hl1];clear hs mh hst yA MC hl1 O4 hm hg Ip hfit Px hkn hit oK rd hcut hs2;go_wp2_with fail
      refine TH.af.mono ?_;rintro e w1 ⟨rfl,rfl⟩;go_wp2;clear c1 d0 d1 d2 d3 d4 d9 q3 y1 y2 zb TH;obtain⟨PB,Yx⟩:∃PB,wr.heap.size=PB:=⟨_,rfl⟩;rw [Yx];have U1:=lK.af;have U2:=eR.af;clear lK eR;rw [Yx] at U1;generalize wr.alloc (dV g.kind g.level (.slice iG g.items.length gX) (.slice iE g.data.length iF) g.next)=W2 at*;clear Yx;have lK:=hQ U1;have eR:=hQ U2;clear U1 U2
      rcases MD.af with⟨hk2,out',k',hk1,ho,yA⟩ | ⟨hk2,k',hk1,yA⟩
      · have HK:=hQ (And.intro hk1 yA)
        have Nq:=hQ (show zs.map (·.2)++(g.items.drop 0).map (jy look)++out'.map (jy look)=L.map (jy look) from by rw [cH,bZ, ← aI, ← ho];exact B_.af);have WO:=hQ (And.intro (show ∀x∈g.items,x∈L from fun x hx=>hmem.af x (ho ▸ bf _ hx)) (show ∀x∈out',x∈L from fun x hx=>hmem.af x (ho ▸ bT _ hx)))
        have Sk:=hQ hk2;have hkb:(g.kind == 2)=false:=by rw [hk2];rfl
        have zc:(g.kind == 1)=true:=by rw [hk2];rfl
        clear MD hk1 yA hk2 ho B_ hmem;go_loopg [6,9] 0 (fun k t i wy=>wy=W2∧t= .slice (some ⟨b,0,none⟩) m c∧i= .int .i64 ((g.items.length:Int)-1))
        case atStart=>exact⟨rfl,rfl,rfl⟩
        case round=>
         obtain⟨rfl,rfl,rfl⟩:=hrel;have c1:=lK.af.fx;have hne:1≤g.items.length:=QM.af.1 Sk.af;have hge:(0:Int)≤(g.items.length:Int)-1:=by omega
         go_wp2
         go_loopg [5,10] g.items.length (fun k o i wy=> ∃(q:Nat) (zs':List fY),q+k=g.items.length∧i= .int .i64 q∧Hid (zs'.map (·.2)++(g.items.drop q).map (jy look)++out'.map (jy look)=L.map (jy look))∧dN w wy∧dS [Pr.pts PB (dV g.kind g.level (.slice iG g.items.length gX) (.slice iE g.data.length iF) g.next),Row 3 1 (.slice (some ⟨b,0,none⟩) m c) m (T.map (Value.int .i64)),eN o zs',big d_ zs',Pr.pts TB (eT root dT items),eE r s gs hush x0,F] wy)
         case atStart=>exact⟨0,zs,Nat.zero_add _,rfl,Nq,eR.af,lK.af.to⟩
         case round=>
          obtain⟨q,zs',hqk,rfl,B_,hst,hs2⟩:=hrel;rename World=>wy
          clear lK eR Nq c1;obtain⟨ao,co,rfl⟩:=Row.shape (hs2.ej (A1:=eN u5 zs'));have c1:=hs2.fx;rcases aB q g.items.length with hlt | hge
          · obtain⟨k0,qn⟩:∃k0,k0+1=gk:=⟨gk-1,by omega⟩
            obtain⟨b1,off,ak,ck,av,cv,rfl,hbk,qR,hc⟩:=RD.af q hlt;have hle:=yE (hs2.ej (A1:=eE r s gs hush x0));obtain⟨d0,d1,d2,d3⟩:=hc wy hle;have zb:=ay _ _ d0;have Sj:=HL.af.1 _ (WO.af.1 _ (aE hlt))
            have hzl:zs'.length+1≤68719476736:=by
             have h1:=congrArg List.length B_.af;simp only [au,aH,dq] at h1;have:=HL.af.2
             omega
            have Yv:(zs'.length:Int)+1≤68719476736:=by omega
            have Ri:(q:Int)<(g.items.length:Int):=by omega
            have P6:g.items.drop q=g.items[q] :: g.items.drop (q+1):=aQ hlt;have Gh:=HG.af.k _ (aE hlt);rw [P6] at B_;generalize g.items[q]=x at*;have BL:=Jz r s gs hush x0 HH.af.2.2 look HH.af.1 x (l6 (.slice ak x.key.length ck) (.slice av x.value.length cv) x.child x.size) ⟨_,_,rfl,hbk,qR⟩ _ _ (hs2.ej (A1:=eE r s gs hush x0))
            rw [Sj] at BL;have JE:=hQ BL;have HC:=hQ (And.intro hbk hc);have JQ:=hQ hst;clear hs2 BL hbk qR hc hle hst P6;go_wp2_with fail
            refine JE.af.mono ?_;rintro e w3 ⟨mF,o,rfl,fP⟩;obtain⟨aw,cw,rfl⟩:=Row.shape fP;have fp:=dS.mH fP;have hle:=yE (fp.ej (A1:=eE r s gs hush x0));clear c1 d0 d1 d2 d3 zb;obtain⟨d0,d1,d2,d3⟩:=HC.af.2 w3 hle;have zb:=ay _ _ d0;have c1:=fp.fx
            have CP:=hQ (O7 _ x.key HC.af.1 (by omega) _ _ (fp.ej (A1:=eE r s gs hush x0)));have gg:=hQ (JQ.af.trans mF);clear fP fp mF hle JE JQ;go_wp2_with fail
            refine CP.af.mono ?_;rintro e w4 ⟨nz,o4,rfl,gu⟩;obtain⟨a4,c4,rfl⟩:=Row.shape gu;have gQ:=dS.mH gu;have GZ:=gQ.alloc (.cells #[.slice a4 x.key.length c4,.slice aw (iI look x.size x.child x.value).1.length cw] 49);have H1:=hQ (GZ.ej (A1:=eN (.slice ao zs'.length co) zs'))
            have J3:=hQ (eW w4 [.slice a4 x.key.length c4,.slice aw (iI look x.size x.child x.value).1.length cw] 49 _ rfl);have ij:=hQ ((gg.af.trans nz).alloc (.cells #[.slice a4 x.key.length c4,.slice aw (iI look x.size x.child x.value).1.length cw] 49));clear c1 d0 d1 d2 d3 zb;have c1:=gQ.fx
            obtain⟨nw,hnw⟩:∃nw,(iI look x.size x.child x.value).1.length=nw:=⟨_,rfl⟩;rw [hnw] at H1 J3 ij ⊢;have HNW:=hQ hnw;have Nq:=hQ B_.af;clear gu gQ GZ nz gg CP HC hnw B_
            go_wp2_with (at_builtin;refine eu rfl _ _ _ rfl 49 j0 _ 2 48 Tryz.underlying60 Xf hy0 hy1 Cw rfl _ _ _ rfl H1.af ⟨w4.heap.size,0,none⟩ 1 1 [.slice a4 x.key.length c4,.slice aw nw cw] rfl rfl J3.af (by simp [Value.oneCell']) (by simp only [maxLen];omega) (by omega) ?_;intro v7 w5 gp tB _;obtain⟨a7,c7,e7,_,_⟩:=Row.read gp;subst e7;have gY:=(dS.kS gp);have se:=hQ gY;have l9:=hQ (ij.af.eH tB);clear gp gY tB)
            go_roundg k0
            case measure=>omega
            case rel=>
             refine⟨q+1,zs'++ [((.slice a4 x.key.length c4,.slice aw nw cw),jy look x)],by omega,congrArg (Value.int .i64) (by omega),hQ ?_,l9.af,?_⟩
             · rw [aI, ← Nq.af]
               simp
             · have h8:=se.af.jk (dM (.slice a4 x.key.length c4) x.key) (dM (.slice aw nw cw) (iI look x.size x.child x.value).1)
               have h9:dS (d_ ((.slice a4 x.key.length c4,.slice aw nw cw),jy look x) :: _) w5:=h8;have h10:=h9.snoc d_ zs' ((.slice a4 x.key.length c4,.slice aw nw cw),jy look x)
               have h11:=h10.to (M:= [Pr.pts PB (dV g.kind g.level (.slice (some ⟨b1,off,none⟩) g.items.length gX) (.slice iE g.data.length iF) g.next),Row 3 1 (.slice (some ⟨b,0,none⟩) m c) m (T.map (Value.int .i64)),Row 49 2 (.slice a7 (zs'.length+1) c7) (zs'.length+1) (zs'.flatMap il++ [.slice a4 x.key.length c4,.slice aw nw cw]),big d_ (zs'++ [((.slice a4 x.key.length c4,.slice aw nw cw),jy look x)]),Pr.pts TB (eT root dT items),eE r s gs hush x0,F])
               refine⟨h11.sat.perm ?_⟩;simp only [eJ,eN,au,List.length_singleton,aN,aX,cV,aV];rfl
          · have Uy:q=g.items.length:=by omega
            have j8:=hQ hs2;have gg:=hQ hst
            have Rb:=hQ (show zs'.map (·.2)++out'.map (jy look)=L.map (jy look) from by
             have h1:=B_.af
             rwa [cy hge,aZ,aV] at h1)
            have hq3:¬(q:Int)<(g.items.length:Int):=by omega
            clear hs2 hst B_;go_wp2;go_roundg k'
            case measure=>rw [HK.af.1];exact cf k'
            case rel=>
             refine⟨st,out',zs',by have h1:=Gi.af;have h2:=HK.af.1;omega,hQ HK.af.2,Rb,hQ WO.af.2,gg.af,?_⟩;rw [← Ht.af.1];unfold dX;rw [← Ht.af.2];exact j8.af.to
      · have HK:=hQ (And.intro hk1 yA)
        have Nq:=hQ B_.af;have WO:=hQ hmem.af;have hkb:(g.kind == 2)=true:=by rw [hk2];rfl
        have zc:(g.kind == 1)=false:=by rw [hk2];rfl
        clear MD hk1 yA hk2 B_ hmem
        go_loopg [6,9] g.items.length (fun k t i wy=>k≤g.items.length∧i= .int .i64 ((k:Int)-1)∧dN w wy∧dS [dX t (T++((g.items.drop k).map (·.child)).reverse),Pr.pts PB (dV g.kind g.level (.slice iG g.items.length gX) (.slice iE g.data.length iF) g.next),eN (.slice ao zs.length co) zs,big d_ zs,Pr.pts TB (eT root dT items),eE r s gs hush x0,F] wy)
        case atStart=>
         refine⟨aD _,rfl,eR.af,?_⟩;rw [bP];unfold dX;rw [aZ,List.reverse_nil,aV, ← Ht.af.2];exact lK.af.to
        case round=>
         obtain⟨hkl,rfl,hst,hs2⟩:=hrel;rename World=>wy
         clear lK eR;obtain⟨at',ct,rfl⟩:=Row.shape (hs2.ej (A1:=dX u6 (T++((g.items.drop gk).map (·.child)).reverse)));have c1:=hs2.fx;cases gk with
         | succ q=>
           have hlt:q<g.items.length:=by omega
           obtain⟨b1,off,ak,ck,av,cv,rfl,_,_,hc⟩:=RD.af q hlt;have hle:=yE (hs2.ej (A1:=eE r s gs hush x0));obtain⟨d0,d1,d2,d3⟩:=hc wy hle;have zb:=ay _ _ d0;have Ri:(q:Int)<(g.items.length:Int):=by omega
           have P6:g.items.drop q=g.items[q] :: g.items.drop (q+1):=aQ hlt;obtain⟨X,hX⟩:∃X,T++((g.items.drop (q+1)).map (·.child)).reverse=X:=⟨_,rfl⟩;have hXn:T++((g.items.drop q).map (·.child)).reverse=X++ [g.items[q].child]:=by rw [P6,aT,List.reverse_cons, ← bZ,hX]
           have hXl:X.length≤m+8:=by
            rw [← hX];simp only [au,dn,aH,dq];have:=Ht.af.2
            omega
           have Sz:((q+1:Nat):Int)-1=(q:Int):=by omega
           rw [hX] at hs2 ⊢;rw [Sz];generalize g.items[q]=x at*;have fP:=hs2.alloc (.cells #[.int .i64 x.child] 3);have H1:=hQ (fP.ej (A1:=dX (.slice at' X.length ct) X));have J3:=hQ (eW wy [.int .i64 x.child] 3 _ rfl);have ij:=hQ (hst.alloc (.cells #[.int .i64 x.child] 3));have HXN:=hQ hXn;clear hs2 fP hc hle hst P6 hX hXn
           go_wp2_with (at_builtin;refine eu rfl _ _ _ rfl 3 i0 (.int .i64 0) 1 8 Tryz.underlying22 lk hz0 hz1 jg rfl _ _ _ rfl H1.af ⟨wy.heap.size,0,none⟩ 1 1 [.int .i64 x.child] rfl rfl J3.af (by simp [Value.oneCell']) (by simp only [maxLen];omega) (by omega) ?_;intro v7 w5 gp tB _;obtain⟨a7,c7,e7,_,_⟩:=Row.read gp;subst e7;have gY:=(dS.kS gp);have se:=hQ gY;have l9:=hQ (ij.af.eH tB);clear gp gY tB)
           go_roundg q
           case measure=>omega
           case rel=>
            refine⟨by omega,rfl,l9.af,?_⟩;rw [HXN.af]
            have h7:=se.af.to (M:= [Row 3 1 (.slice a7 (X.length+1) c7) (X.length+1) (X.map (Value.int .i64)++ [.int .i64 x.child]),Pr.pts PB (dV g.kind g.level (.slice (some ⟨b1,off,none⟩) g.items.length gX) (.slice iE g.data.length iF) g.next),eN (.slice ao zs.length co) zs,big d_ zs,Pr.pts TB (eT root dT items),eE r s gs hush x0,F]);refine⟨h7.sat.perm ?_⟩
            unfold dX;rw [au,aI];rfl
         | zero=>
           have j8:=hQ hs2;have JQ:=hQ hst;clear hs2 hst;rw [show ((0:Nat):Int)-1= -1 from rfl];rw [cH] at j8 ⊢;obtain⟨X,hX⟩:∃X,T++(g.items.map (·.child)).reverse=X:=⟨_,rfl⟩;have HX:=hQ hX;rw [hX] at j8 ⊢;clear hX;go_wp2;go_loopg [5,10] 0 (fun k o i wz=>wz=wy∧o= .slice ao zs.length co∧i= .int .i64 0)
           case atStart=>exact⟨rfl,rfl,rfl⟩
           case round=>
            obtain⟨rfl,rfl,rfl⟩:=hrel;by_cases Yp:(0:Int)<(g.items.length:Int)
            all_goals
             go_wp2;go_roundg k'
             case measure=>rw [HK.af.1];exact cf k'
             case rel=>
              refine⟨g.items.map (·.child)++st,out,zs,by have h1:=Gi.af;have h2:=HK.af.1;omega,hQ HK.af.2,Nq,WO,JQ.af,?_⟩;rw [dJ, ← Ht.af.1,HX.af];exact j8.af.to
end Go.Proofs.YtiegeadmgpanoaaGreatDoor.D2
