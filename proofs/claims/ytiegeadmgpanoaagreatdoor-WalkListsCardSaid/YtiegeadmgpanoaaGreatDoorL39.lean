/- The items of a tree whose keys lie in a range, one by one; the conditions stand as hypotheses. -/
import Derived.Test.YtiegeadmgpanoaaGreatDoorL37
import Derived.Test.YtiegeadmgpanoaaGreatDoorL28
set_option maxRecDepth 100000
set_option maxHeartbeats 16000000
namespace Go.Proofs.YtiegeadmgpanoaaGreatDoor.Y8
open ChangeShapes WideShapes ChangeAt RowKit Sl fB Go.Shelf D2 L3 Z3 E4 X5 M8
attribute [local go_sem] Oper.semAt_some
abbrev lq(v:Nat):Obj:= .cells #[.pointer (some ⟨v,0,none⟩)] 27
theorem O3(v:Nat)(s:eC)(look:Int→Option dR)(hl:D2.Looks s look)(n:Int)(g:dR)(hg:look n=some g)(F:Pr)(w:World)(hF:Sat ((dZ v s).star F) w):
 Calls Tryz.prog 45 #[.pointer (some ⟨v,0,none⟩),.int .i64 n] w fun e w'=>dN w w'∧∃(iG iE:Option Addr) (gX iF:Nat) (ys:List (Value × Value)),e= .returned (.tuple #[fX g.kind g.level (.slice iG g.items.length gX) (.slice iE g.data.length iF) g.next,.int .i64 0])∧ys.length=g.items.length∧
  Sat ((fO (.slice iG g.items.length gX) ys g.items).star ((big rowsOf (ys.zip g.items)).star ((dM (.slice iE g.data.length iF) g.data).star ((dZ v s).star F)))) w':=by
 obtain⟨h1,h2,h3,h4⟩:=hl.some n g hg;refine(Jr v s n h1 g h4 F w hF h2 h3).mono ?_;rintro e w' ⟨hst,t,rfl,rfl,hs⟩;obtain⟨wJ,h5⟩:=Ab.1 hs;obtain⟨vi,vd,ys,g⟩:=t;obtain⟨ai,ci,e1⟩:=Row.shape h5;obtain⟨ad,cd,e2⟩:=Row.shape h5.right.right;dsimp only at e1 e2 wJ h5 ⊢;subst e1 e2;exact⟨hst,ai,ad,ci,cd,ys,rfl,wJ,h5⟩
theorem JX {iG iE:Option Addr}{gX iF:Nat}{ys:List (Value × Value)}{g:dR}{a:Hp}(h:((fO (.slice iG g.items.length gX) ys g.items).star ((big rowsOf (ys.zip g.items)).star (dM (.slice iE g.data.length iF) g.data))) a)(wJ:ys.length=g.items.length):fV a (fX g.kind g.level (.slice iG g.items.length gX) (.slice iE g.data.length iF) g.next) g:=by
 refine LY (t:=⟨.slice iG g.items.length gX,.slice iE g.data.length iF,ys,g⟩) ?_;unfold yi Aa;rw [Pr.ei];exact⟨Hp.nil,a,⟨wJ,rfl⟩,h,fun k=> .inl rfl,rfl⟩
theorem Gp {T k n c:Nat}{a:Option Addr}{xs:List Value}{F:Pr}{w:World}(h:Sat ((Row T k (.slice a n c) n xs).star F) w):n≤c:=by
 obtain⟨_,(⟨e,_,_⟩ | ⟨b,cap,sp,e,_,h2,_,_⟩)⟩:=Row.open' h
 · cases e;exact aD _
 · cases e;exact h2
abbrev Hr:=(Value × Value) × en
def K_(x:Hr):Array Value:= #[l6 x.1.1 x.1.2 x.2.child x.2.size]
def OkI(M:List en)(pre:List Hr)(x:Hr):Prop:=pre.map (·.2)++ [x.2]<+:M
def Mz(tb vb rb v:Nat)(s:eC)(root dT items:Int)(lo hi:Value)(op:Bool)(hr:Hp):Pr:=
 (Pr.pts tb (eT root dT items)).star ((Pr.pts vb (lq v)).star ((Pr.pts rb (dO lo hi op)).star ((dZ v s).star (Pr.own hr))))
theorem BZ {y:Value × Value}{x:en}{a:Hp}(h:rowsOf (y,x) a):Bytes a y.1 x.key∧Bytes a y.2 x.value:=by
 obtain⟨b,c,hb,hc,s1,s2⟩:=fF (show ((dM y.1 x.key).star (dM y.2 x.value)) a from h);exact⟨(Row.jh hb).sub s1,(Row.jh hc).sub s2⟩
theorem Ra(tb vb rb v:Nat)(s:eC)(look:Int→Option dR)(hl:D2.Looks s look)(j6:iT look)(root dT items:Int)(L:List en)(hT:kK look root dT items L)(lo hi:Value)(r:fw)(hr:Hp)(uw:gJ hr (.agg #[lo,hi,.bool r.op]) r)(ur:wT r)(nr:nN 140737488355000 r):
 tm Tryz.prog 92 #[.pointer (some ⟨tb,0,none⟩),.pointer (some ⟨vb,0,none⟩),.pointer (some ⟨rb,0,none⟩)] K_ (OkI (L.filter fun x=>iV r x.key)) (fun xs=>xs.map (·.2)=L.filter fun x=>iV r x.key) (fun xs=>xs.map (·.2)<+:L.filter fun x=>iV r x.key) rowsOf (Mz tb vb rb v s root dT items lo hi r.op hr):=by
 intro l' J Jx W hY h0;refine(callsIn_wide (n:=3)).1 ?_;refine callsIn_of_wp Tryz.func92 rfl trivial ?_ rfl;simp only [Tryz.ntmps92,bu,List.length_cons,List.length_nil,Nat.reduceAdd,Nat.reduceSub,Array.replicate_succ,Array.replicate_zero,bB,a_,List.nil_append,List.cons_append];obtain⟨lo',hi',e,hlo,mK⟩:=id uw;cases e;obtain⟨al,cl,rfl,_⟩:=eL hlo
 obtain⟨ah,ch,rfl,_⟩:=eL mK;have hs0:dS [J [],Pr.pts tb (eT root dT items),Pr.pts vb (lq v),Pr.pts rb (dO (.slice al r.lo.length cl) (.slice ah r.hi.length ch) r.op),dZ v s,Pr.own hr] W:=⟨h0.perm (by simp only [eJ,Pr.ei,Mz])⟩;have c1:=hs0.fx;rcases hT with⟨rfl,rfl,rfl,rfl⟩ | ⟨hr0,_,lv,_,hlv,hT⟩
 · have H0:=hQ h0
   clear h0 hs0 hY uw hlo mK;refine wpIn_wide.2 ?_;go_wp2;go_step3
   go_wp2;rw [Exit.noGoto_ret];refine bodyPost_ret (results_none rfl _ _ _) rfl ?_;exact⟨⟨_,rfl⟩,dN.refl _,.inl ⟨[],rfl,H0.af⟩⟩
 · obtain⟨i0,lk,hz0,hz1,jg⟩:=info_parts mA
   have hb0:(root == 0)=false:=by rw [beq_eq_false_iff_ne];exact hr0
   obtain⟨n9,So,htr⟩:=Lf j6 r ur hT;have Gq:=htr [] [] 0 .nil;rw [aV,Nat.add_zero] at Gq;have Ys:=Ha So hlv;generalize (L.filter fun x=>iV r x.key)=M at*;have Qr:=hQ Gq;have hsa:=hs0.alloc (.cells #[.int .i64 root] 3);have jC:=hQ hsa;have HY:=hQ hY;have HH:=hQ (And.intro hl (And.intro j6 (And.intro uw (And.intro ur nr))))
   clear h0 hs0 hY uw hlo mK hT htr Gq hr0 hl j6 ur nr;refine wpIn_wide.2 ?_;go_wp2;go_step3
   go_wp2;go_step3
   go_wp2;have Ul:=jC.af;have Um:=(dN.refl W).alloc (.cells #[.int .i64 root] 3);clear jC hsa c1;generalize W.alloc (.cells #[.int .i64 root] 3)=W0 at*;generalize W.heap.size=B0 at*;have jC:=hQ Ul;have oI:=hQ Um;clear Ul Um
   go_loopg [5] n9 (fun k t wr=> ∃(st:List Int) (out:List en) (pre:List Hr),k≤n9∧Hid (py look r st out k)∧Hid (pre.map (·.2)++out=M)∧dN W wr∧dS [dX t st.reverse,J pre,Pr.pts tb (eT root dT items),Pr.pts vb (lq v),Pr.pts rb (dO (.slice al r.lo.length cl) (.slice ah r.hi.length ch) r.op),dZ v s,Pr.own hr] wr)
   case atStart=>
    refine⟨[root],M,[],aD _,Qr,hQ rfl,oI.af,?_⟩;have h1:=jC.af.ej (A1:=Pr.pts B0 (.cells #[.int .i64 root] 3));have h2:=dS.kS (Row.mk' (T:=3) (k:=1) (b:=B0) (cap:=1) (n:=1) (xs:= [.int .i64 root]) (sp:= []) rfl rfl (aD _) (by simp [maxLen]) h1);exact h2
   case round=>
    obtain⟨st,out,pre,hkn,yA,B_,hst,hs⟩:=hrel;clear Qr jC oI;cases st with
    | nil=>
      have hs1:=hs;rw [List.reverse_nil] at hs1;obtain⟨a,c,rfl⟩:=Row.shape (hs1.ej (A1:=dX u5 []));have ig:=hQ hs1;have eR:=hQ hst
      have HD:=hQ (show pre.map (·.2)=M from by
       have h1:=B_.af
       have h2:=yA.af
       cases h2
       rwa [aV] at h1)
      clear hs hs1 hst yA B_;go_wp2;rw [Exit.noGoto_normal];go_end0
      refine⟨⟨_,rfl⟩,eR.af,.inl ⟨pre,HD.af,?_⟩⟩;exact(ig.af.to (M:= [J pre,Pr.pts tb (eT root dT items),Pr.pts vb (lq v),Pr.pts rb (dO (.slice al r.lo.length cl) (.slice ah r.hi.length ch) r.op),dZ v s,Pr.own hr])).sat.perm (by simp only [eJ,Pr.ei,Mz])
    | cons n st=>
      rw [List.reverse_cons] at hs;obtain⟨T,O4⟩:∃T,T=st.reverse:=⟨_,rfl⟩;obtain⟨m,hm⟩:∃m,m=T.length:=⟨_,rfl⟩;rw [← O4] at hs;obtain⟨a,c,rfl⟩:=Row.shape (hs.ej (A1:=dX u5 (T++ [n])));have MC:=Le yA.af
      have PZ:(m:Int)≤31381059609:=by
       have h1:m=st.length:=by rw [hm,O4,dn]
       simp only [List.length_cons] at MC;omega
      have hl1:(T++ [n]).length=m+1:=by rw [au, ← hm];rfl
      have mh:dS [Row 3 1 (.slice a (m+1) c) (m+1) (T.map (Value.int .i64)++ [.int .i64 n]),J pre,Pr.pts tb (eT root dT items),Pr.pts vb (lq v),Pr.pts rb (dO (.slice al r.lo.length cl) (.slice ah r.hi.length ch) r.op),dZ v s,Pr.own hr] wr:=by
       have h1:=hs;unfold dX at h1;rw [hl1,aI] at h1;exact h1
      obtain⟨b,u,rfl,q1,q2,q3,q4⟩:=Row.sF (mh.row (.slice a (m+1) c)) m (cf m);clear q1 q2 q3 q4 u
      obtain⟨g,hg,Ip⟩:∃g,look n=some g∧((g.kind≠2∧∃out' k',gk=k'+1∧out=g.items.filter (fun x=>iV r x.key)++out'∧py look r st out' k')∨(g.kind=2∧∃k',gk=k'+1∧py look r (oV g r++st) out k')):=by
       have h2:=yA.af;cases h2 with
       | leaf _ _ g out' k' h3 h4 h5=>exact⟨g,h3,.inl ⟨h4,out',k',rfl,rfl,h5⟩⟩
       | index _ _ g _ k' h3 h4 h5=>exact⟨g,h3,.inr ⟨h4,k',rfl,h5⟩⟩
      have hfit:=fU (HH.af.2.1.uH n g hg);have Hf:=hfit.n;have HG:=hQ (And.intro hg (And.intro hfit (HH.af.2.1.u8 n g hg)));have MD:=hQ Ip;have Nq:=B_;have RD:=hQ (fun(G:Pr) (wx:World) hG=>O3 v s look HH.af.1 n g hg G wx hG);have Ht:=hQ (And.intro O4 hm);have HS:=hQ mh;have eR:=hQ hst;have Gi:=hQ hkn;have Px:=Gp (mh.row (.slice (some ⟨b,0,none⟩) (m+1) c))
      have Un:(m:Int)+1≤(c:Int):=by omega
      rw [hl1];clear hs mh hst yA MC hl1 O4 hm hg Ip hfit Px B_ hkn;go_wp2_with fail
      go_cut [7,8] from 23 to 31 (fun t1 t2 wx=> ∃(PB:Nat) (iG iE:Option Addr) (gX iF:Nat) (ys:List (Value × Value)),t1= .pointer (some ⟨PB,0,none⟩)∧t2= .int .i64 0∧ys.length=g.items.length∧dN W wx∧dS [Pr.pts PB (dV g.kind g.level (.slice iG g.items.length gX) (.slice iE g.data.length iF) g.next),fO (.slice iG g.items.length gX) ys g.items,big rowsOf (ys.zip g.items),dM (.slice iE g.data.length iF) g.data,dZ v s,Row 3 1 (.slice (some ⟨b,0,none⟩) (m+1) c) (m+1) (T.map (Value.int .i64)++ [.int .i64 n]),J pre,Pr.pts tb (eT root dT items),Pr.pts vb (lq v),Pr.pts rb (dO (.slice al r.lo.length cl) (.slice ah r.hi.length ch) r.op),Pr.own hr] wx)
      case first=>
       have c1:=HS.af.fx;obtain⟨_,_,e,hu,d0,_,zb⟩:=Row.sF (HS.af.row (.slice (some ⟨b,0,none⟩) (m+1) c)) m (cf m);cases e;rw [bV (by simp [Ht.af.2]),aH, ← Ht.af.2,b_] at hu;cases hu
       refine fS (sz:=63) (by kernel_rfl) [0,1,2,3,4] [(9,[],[0,1,2,3,4],[(5,[6,7,8],[1,2,3]),(10,[11],[8])]),(5,[6,7,8],[1,2,3],[(9,[],[1,2,3,6,7,8]),(10,[11],[8])])] rfl (by kernel_rfl) (by kernel_rfl) (by kernel_rfl) ?_;refine dY _ rfl rfl ?_;simp only [pick,pQ];iterate 5 (go_big_quiet_step (fail))
       refine wpQuiet_nil ?_;intro sx mR;rcases aR.1 mR with rfl | mR
       · have gp:=(HS.af.alloc (dV 0 0 (.slice none 0 0) (.slice none 0 0) 0)).drew
         have V:=hQ (RD.af _ _ (gp.ej (A1:=dZ v s)));have nQ:=hQ (eR.af.alloc (dV 0 0 (.slice none 0 0) (.slice none 0 0) 0)).drew;clear gp;refine dK rfl ?_;go_wp2;refine dQ ?_;refine dU ⟨?_,?_⟩
         · exact cQ
         refine dK rfl ?_;go_wp2_with fail
         refine V.af.mono ?_;rintro e w5 ⟨iL,iG,iE,gX,iF,ys,rfl,wJ,gY⟩;dsimp only [fX];have gA:=dS.Zd gY;have c1:=gA.fx
         have lu:=(((((gA.set wr.heap.size 0 (.int .i64 g.kind)).set wr.heap.size 1 (.int .i64 g.level)).set wr.heap.size 2 (.slice iG g.items.length gX)).set wr.heap.size 3 (.slice iE g.data.length iF)).set wr.heap.size 4 (.int .i64 g.next))
         have kh:=hQ (And.intro wJ (And.intro ((((((nQ.af.trans iL).setCell ⟨wr.heap.size,0,none⟩ (.int .i64 g.kind)).setCell ⟨wr.heap.size,1,none⟩ (.int .i64 g.level)).setCell ⟨wr.heap.size,2,none⟩ (.slice iG g.items.length gX)).setCell ⟨wr.heap.size,3,none⟩ (.slice iE g.data.length iF)).setCell ⟨wr.heap.size,4,none⟩ (.int .i64 g.next)) lu));clear gY gA lu wJ iL V nQ d0 zb
         go_wp2;refine dQ ?_;refine dY _ rfl rfl ?_;simp only [pick,pQ];iterate 3 (go_big_quiet_step (fail))
         refine wpQuiet_nil ⟨?_,?_⟩
         · exact cQ
         refine dK rfl ?_;go_wp2;refine dQ ?_;refine dY _ rfl rfl ?_;simp only [pick,pQ];iterate 1 (go_big_quiet_step (fail))
         refine wpQuiet_nil ⟨?_,?_⟩
         · exact cQ
         refine dW ?_;go_wp2;go_meet
         exact⟨_,iG,iE,gX,iF,ys,rfl,rfl,kh.af.1,kh.af.2.1,kh.af.2.2.to⟩
       · cases aC.1 mR
         have V:=hQ (RD.af _ _ (HS.af.drew.ej (A1:=dZ v s)));refine dK rfl ?_;go_wp2_with fail
         refine V.af.mono ?_;rintro e w5 ⟨iL,iG,iE,gX,iF,ys,rfl,wJ,gY⟩;dsimp only [fX];have gA:=dS.Zd gY;have c1:=gA.fx;have lu:=gA.alloc (dV g.kind g.level (.slice iG g.items.length gX) (.slice iE g.data.length iF) g.next)
         have kh:=hQ (And.intro wJ (And.intro ((eR.af.drew.trans iL).alloc (dV g.kind g.level (.slice iG g.items.length gX) (.slice iE g.data.length iF) g.next)) lu));clear gY gA lu wJ iL V d0 zb;go_wp2;refine dQ ?_;refine dY _ rfl rfl ?_;simp only [pick,pQ];iterate 3 (go_big_quiet_step (fail))
         refine wpQuiet_nil ⟨?_,?_⟩
         · exact cQ
         refine dK rfl ?_;go_wp2;refine dQ ?_;refine dU ⟨?_,?_⟩
         · exact cQ
         refine dK rfl ?_;go_wp2;refine dQ ?_;refine dY _ rfl rfl ?_;simp only [pick,pQ];iterate 1 (go_big_quiet_step (fail))
         refine wpQuiet_nil ⟨?_,?_⟩
         · exact cQ
         refine dW ?_;go_wp2;go_meet
         exact⟨_,iG,iE,gX,iF,ys,rfl,rfl,kh.af.1,kh.af.2.1,kh.af.2.2.to⟩
      case rest=>
       obtain⟨PB,iG,iE,gX,iF,ys,rfl,rfl,wJ,fN,hs1⟩:=hcut;clear HS eR RD;have hcut:=dS.kS (wO (hs1.row (.slice (some ⟨b,0,none⟩) (m+1) c)) (Nat.le_succ m));rw [bW (by simp [Ht.af.2]),bS (by simp [Ht.af.2])] at hcut
       have hs2:=hcut.to (M:= [Pr.pts PB (dV g.kind g.level (.slice iG g.items.length gX) (.slice iE g.data.length iF) g.next),fO (.slice iG g.items.length gX) ys g.items,big rowsOf (ys.zip g.items),dM (.slice iE g.data.length iF) g.data,dZ v s,Row 3 1 (.slice (some ⟨b,0,none⟩) m c) m (T.map (Value.int .i64)),J pre,Pr.pts tb (eT root dT items),Pr.pts vb (lq v),Pr.pts rb (dO (.slice al r.lo.length cl) (.slice ah r.hi.length ch) r.op),Pr.own hr])
       have lK:=hQ hs2;have eQ:=hQ fN;have yK:=hQ wJ;have c1:=hs2.fx;clear hs1 hs2 hcut fN wJ;rcases MD.af with⟨hk2,out',k',hk1,ho,yA⟩ | ⟨hk2,k',hk1,yA⟩
       · have HK:=hQ (And.intro hk1 yA)
         have hkb:(g.kind == 2)=false:=by rw [beq_eq_false_iff_ne];exact hk2
         have Uo:=hQ (show pre.map (·.2)++((g.items.drop 0).filter (fun x=>iV r x.key)++out')=M from by rw [cH, ← ho];exact Nq.af);clear MD hk1 yA hk2 ho Nq;go_wp2
         go_loopg [48] g.items.length (fun k t wy=> ∃(j:Nat) (uz:List Hr),j+k=g.items.length∧t= .int .i64 j∧Hid (uz.map (·.2)++((g.items.drop j).filter (fun x=>iV r x.key)++out')=M)∧dN W wy∧dS [Pr.pts PB (dV g.kind g.level (.slice iG g.items.length gX) (.slice iE g.data.length iF) g.next),fO (.slice iG g.items.length gX) ys g.items,big rowsOf ((ys.zip g.items).drop j),Row 3 1 (.slice (some ⟨b,0,none⟩) m c) m (T.map (Value.int .i64)),J uz,Pr.pts tb (eT root dT items),Pr.pts vb (lq v),Pr.pts rb (dO (.slice al r.lo.length cl) (.slice ah r.hi.length ch) r.op),dZ v s,Pr.own hr] wy)
         case atStart=>
          refine⟨0,pre,Nat.zero_add _,rfl,Uo,eQ.af,?_⟩;rw [cH];exact lK.af.to
         case round=>
          obtain⟨j,uz,hjk,rfl,O5,jq,hs2⟩:=hrel;clear lK eQ Uo;rcases aB j g.items.length with hlt | hge
          · have hyj:j<ys.length:=by have:=yK.af;omega
            obtain⟨k0,qn⟩:∃k0,k0+1=gk:=⟨gk-1,by omega⟩
            have hzd:(ys.zip g.items).drop j=(ys[j],g.items[j]) :: (ys.zip g.items).drop (j+1):=by
             rw [aQ (by simp;omega),dp]
            rw [hzd] at hs2
            obtain⟨bi,rfl⟩:∃bi,iG=some ⟨bi,0,none⟩:=by
             obtain⟨_,_,e,_,h1⟩:=Row.read (hs2.ej (A1:=fO (.slice iG g.items.length gX) ys g.items));cases e;obtain⟨bi,e,_⟩:=h1 (by omega);exact⟨bi,e⟩
            have fP:=hs2.sE rowsOf (ys[j],g.items[j]) ((ys.zip g.items).drop (j+1));obtain⟨⟨q0,q1,q2,q3⟩,_⟩:=oD (hs2.ej (A1:=fO (.slice (some ⟨bi,0,none⟩) g.items.length gX) ys g.items)) hyj hlt;have qz:=ay _ _ q0;simp only at qz;have IU:=HG.af.2.2 _ (aE hlt);have Kv:=HG.af.2.1.k _ (aE hlt)
            have P6:g.items.drop j=g.items[j] :: g.items.drop (j+1):=aQ hlt;have Up:=hQ (And.intro O5.af P6);have HZ:=hQ hzd;clear hs2 hzd O5 P6;generalize g.items[j]=x at*;generalize ys[j]=y at*;obtain⟨y1,y2⟩:=y;dsimp only at q0 q1
            have hsh:dS [dM y1 x.key,dM y2 x.value] wr:=⟨((fP.ER (A1:=rowsOf ((y1,y2),x))).perm (B:=(dM y1 x.key).star ((dM y2 x.value).star Pr.emp)) (by rw [Pr.ei];rfl))⟩;obtain⟨ak,ck,rfl⟩:=Row.shape (hsh.ej (A1:=dM y1 x.key));obtain⟨av,cv,rfl⟩:=Row.shape (hsh.ej (A1:=dM y2 x.value));clear hsh
            have fp:=fP.alloc (.cells #[.slice ak x.key.length ck,.slice av x.value.length cv,.int .i64 x.child,.int .i64 x.size] 89);obtain⟨ax,hax,ny⟩:=fp.arena (rowsOf ((.slice ak x.key.length ck,.slice av x.value.length cv),x));obtain⟨hd,Uq⟩:=Sat.jT (ny.iQ (A1:=Pr.own ax) (A2:=Pr.own hr))
            have HA:=hQ (Bz (ax.un hr) _ _ r x.key (HH.af.2.2.1.sub (Hp.fZ hd)) ((BZ hax).1.sub (Hp.fE ax hr)) HH.af.2.2.2.1 IU (by omega) _ Uq.own);have lZ:=hQ fp;have fa:=hQ (jq.alloc (.cells #[.slice ak x.key.length ck,.slice av x.value.length cv,.int .i64 x.child,.int .i64 x.size] 89));have c1:=fP.fx
            have Nl:(j:Int)<(g.items.length:Int):=by omega
            have WN:=hQ (And.intro hjk qn);clear fP fp ny Uq hax hd jq IU Kv hjk qn;go_upto_region 12 with fail
            refine(wpIn_wide (n:=3)).1 ?_;gi_wp2_with fail
            refine⟨trivial,?_⟩;refine(callsIn_wide.2 HA.af).mono ?_;rintro e w3 ⟨rfl,ho⟩;have gu:=lZ.af.ext ho.heap;clear c1 q0 q1 q2 q3 qz;have c1:=gu.fx;have gg:=hQ (fa.af.trans ho.st);have pN:=hQ gu;clear gu ho lZ fa HA;cases oN:iV r x.key with
            | false=>
              have HF:=hQ (show (g.items.drop j).filter (fun x=>iV r x.key)=(g.items.drop (j+1)).filter (fun x=>iV r x.key) from by rw [Up.af.2,dt (by rw [oN];simp)]);clear oN;gi_wp2
              refine⟨fun _ h=>(by cases h),?_⟩;gi_wp2
              go_wp2;go_roundg k0
              case measure=>have:=WN.af;omega
              case rel=>exact⟨j+1,uz,by have:=WN.af;omega,congrArg (Value.int .i64) (by omega),hQ (by rw [← HF.af];exact Up.af.1),gg.af,pN.af.to⟩
            | true=>
              have HF:=hQ (show (g.items.drop j).filter (fun x=>iV r x.key)=x :: (g.items.drop (j+1)).filter (fun x=>iV r x.key) from by rw [Up.af.2,du (by rw [oN])]);have hok:OkI M uz ((.slice ak x.key.length ck,.slice av x.value.length cv),x):=⟨(g.items.drop (j+1)).filter (fun x=>iV r x.key)++out',by rw [← Up.af.1,HF.af];simp⟩;have xB:=hQ hok;clear oN hok
              gi_wp2
              refine na (HY.af (eJ [Pr.pts wr.heap.size (.cells #[.slice ak x.key.length ck,.slice av x.value.length cv,.int .i64 x.child,.int .i64 x.size] 89),Pr.pts PB (dV g.kind g.level (.slice (some ⟨bi,0,none⟩) g.items.length gX) (.slice iE g.data.length iF) g.next),fO (.slice (some ⟨bi,0,none⟩) g.items.length gX) ys g.items,big rowsOf ((ys.zip g.items).drop (j+1)),Row 3 1 (.slice (some ⟨b,0,none⟩) m c) m (T.map (Value.int .i64))]) uz ((.slice ak x.key.length ck,.slice av x.value.length cv),x) w3 xB.af ?_) ?_
              · exact(pN.af.to (M:= [J uz,rowsOf ((.slice ak x.key.length ck,.slice av x.value.length cv),x),Pr.pts tb (eT root dT items),Pr.pts vb (lq v),Pr.pts rb (dO (.slice al r.lo.length cl) (.slice ah r.hi.length ch) r.op),dZ v s,Pr.own hr,Pr.pts wr.heap.size (.cells #[.slice ak x.key.length ck,.slice av x.value.length cv,.int .i64 x.child,.int .i64 x.size] 89),Pr.pts PB (dV g.kind g.level (.slice (some ⟨bi,0,none⟩) g.items.length gX) (.slice iE g.data.length iF) g.next),fO (.slice (some ⟨bi,0,none⟩) g.items.length gX) ys g.items,big rowsOf ((ys.zip g.items).drop (j+1)),Row 3 1 (.slice (some ⟨b,0,none⟩) m c) m (T.map (Value.int .i64))])).sat.perm (by simp only [eJ,Pr.ei,Pr.dP,Mz])
              rintro e w' ⟨hR',(⟨rfl,hs'⟩ | ⟨rfl,hs'⟩)⟩
              · refine⟨_,rfl,?_⟩
                have gQ:dS [J (uz++ [((.slice ak x.key.length ck,.slice av x.value.length cv),x)]),Pr.pts tb (eT root dT items),Pr.pts vb (lq v),Pr.pts rb (dO (.slice al r.lo.length cl) (.slice ah r.hi.length ch) r.op),dZ v s,Pr.own hr,Pr.pts wr.heap.size (.cells #[.slice ak x.key.length ck,.slice av x.value.length cv,.int .i64 x.child,.int .i64 x.size] 89),Pr.pts PB (dV g.kind g.level (.slice (some ⟨bi,0,none⟩) g.items.length gX) (.slice iE g.data.length iF) g.next),fO (.slice (some ⟨bi,0,none⟩) g.items.length gX) ys g.items,big rowsOf ((ys.zip g.items).drop (j+1)),Row 3 1 (.slice (some ⟨b,0,none⟩) m c) m (T.map (Value.int .i64))] w':=⟨hs'.perm (by simp only [eJ,Pr.ei,Pr.dP,Mz])⟩
                have mY:=hQ gQ;have ij:=hQ (gg.af.trans hR');clear c1 hs' gQ hR' pN gg;gi_wp2
                go_wp2;go_roundg k0
                case measure=>have:=WN.af;omega
                case rel=>exact⟨j+1,uz++ [((.slice ak x.key.length ck,.slice av x.value.length cv),x)],by have:=WN.af;omega,congrArg (Value.int .i64) (by omega),hQ (by rw [← Up.af.1,HF.af];simp),ij.af,mY.af.to⟩
              · refine⟨_,rfl,?_⟩
                have gQ:dS [Jx (uz++ [((.slice ak x.key.length ck,.slice av x.value.length cv),x)]),Pr.pts tb (eT root dT items),Pr.pts vb (lq v),Pr.pts rb (dO (.slice al r.lo.length cl) (.slice ah r.hi.length ch) r.op),dZ v s,Pr.own hr,Pr.pts wr.heap.size (.cells #[.slice ak x.key.length ck,.slice av x.value.length cv,.int .i64 x.child,.int .i64 x.size] 89),Pr.pts PB (dV g.kind g.level (.slice (some ⟨bi,0,none⟩) g.items.length gX) (.slice iE g.data.length iF) g.next),fO (.slice (some ⟨bi,0,none⟩) g.items.length gX) ys g.items,big rowsOf ((ys.zip g.items).drop (j+1)),Row 3 1 (.slice (some ⟨b,0,none⟩) m c) m (T.map (Value.int .i64))] w':=⟨hs'.perm (by simp only [eJ,Pr.ei,Pr.dP,Mz])⟩
                have mY:=hQ gQ;have ij:=hQ (gg.af.trans hR');clear c1 hs' gQ hR' pN gg;gi_wp2
                go_wp2;rw [Exit.noGoto_normal];go_end0
                refine⟨⟨_,rfl⟩,ij.af,.inr ⟨uz++ [((.slice ak x.key.length ck,.slice av x.value.length cv),x)],by rw [aI];exact xB.af,?_⟩⟩
                exact(mY.af.to (M:= [Jx (uz++ [((.slice ak x.key.length ck,.slice av x.value.length cv),x)]),Pr.pts tb (eT root dT items),Pr.pts vb (lq v),Pr.pts rb (dO (.slice al r.lo.length cl) (.slice ah r.hi.length ch) r.op),dZ v s,Pr.own hr])).sat.perm (by simp only [eJ,Pr.ei,Mz])
          · have lK:=hQ hs2
            have fa:=hQ jq
            have Rb:=hQ (show uz.map (·.2)++out'=M from by
             have h1:=O5.af
             rwa [cy hge] at h1)
            have Nl:¬(j:Int)<(g.items.length:Int):=by omega
            clear hs2 jq O5;go_wp2;go_roundg k'
            case measure=>rw [HK.af.1];exact cf k'
            case rel=>
             refine⟨st,out',uz,by have h1:=Gi.af;have h2:=HK.af.1;omega,hQ HK.af.2,Rb,fa.af,?_⟩;rw [← Ht.af.1];unfold dX;rw [← Ht.af.2];exact lK.af.to
       · have HK:=hQ (And.intro hk1 yA)
         have hkb:(g.kind == 2)=true:=by rw [hk2];rfl
         have Yt:=Gi.af;obtain⟨ap,hap,ny⟩:=(lK.af.SQ (fO (.slice iG g.items.length gX) ys g.items) (big rowsOf (ys.zip g.items)) (dM (.slice iE g.data.length iF) g.data)).arena ((fO (.slice iG g.items.length gX) ys g.items).star ((big rowsOf (ys.zip g.items)).star (dM (.slice iE g.data.length iF) g.data)))
         obtain⟨hd,Uq⟩:=Sat.jT (ny.iQ (A1:=Pr.own ap) (A2:=Pr.own hr));have Ur:=JX hap yK.af;have WI:=hQ (pU (ap.un hr) _ _ g r (Ur.sub (Hp.fE ap hr)) (HH.af.2.2.1.sub (Hp.fZ hd)) HG.af.2.1 HG.af.2.2 HH.af.2.2.2.1 HH.af.2.2.2.2 _ _ Uq);obtain⟨X,hX⟩:∃X,(oV g r).reverse=X:=⟨_,rfl⟩
         have hXl:X.length≤8:=by
          rw [← hX,dn];unfold oV;rw [aH];exact bK (bX _ _) (by rw [List.length_range];exact Hf)
         rw [hX] at WI;have HX:=hQ hX;have HAP:=hQ (And.intro hap hd);clear MD ny Uq Ur hap hd hX hk1 yA hk2 Yt;go_wp2_with fail
         refine WI.af.mono ?_;rintro e w2 ⟨o,rfl,kU,fP⟩;have fp:=dS.mH fP;obtain⟨gu⟩:=fp
         have gQ:=Sat.Ig HAP.af.2 (gu.perm (B:=(Pr.own (ap.un hr)).star ((dX o X).star (eJ [Pr.pts PB (dV g.kind g.level (.slice iG g.items.length gX) (.slice iE g.data.length iF) g.next),dZ v s,Row 3 1 (.slice (some ⟨b,0,none⟩) m c) m (T.map (Value.int .i64)),J pre,Pr.pts tb (eT root dT items),Pr.pts vb (lq v),Pr.pts rb (dO (.slice al r.lo.length cl) (.slice ah r.hi.length ch) r.op)]))) (by simp only [eJ,Pr.ei];ac_rfl))
         have gZ:=dS.Wb gQ;obtain⟨ao,co,rfl⟩:=Row.shape (gZ.ej (A1:=dX o X));obtain⟨a2,ha2,gp⟩:=gZ.arena (dX (.slice ao X.length co) X);have Us:=gp.ej (A1:=Row 3 1 (.slice (some ⟨b,0,none⟩) m c) m (T.map (Value.int .i64)));have Yu:=hQ (And.intro Us (And.intro (gp.le (a:=a2)) (Row.jh ha2)));have fa:=hQ (eQ.af.trans kU)
         clear fP gu gQ gZ gp Us ha2 kU WI eQ lK c1
         go_wp2_with (at_builtin;refine gB rfl _ _ _ rfl 3 i0 (.int .i64 0) 1 8 Tryz.underlying22 lk hz0 hz1 jg rfl _ _ _ rfl Yu.af.1 a2 Yu.af.2.1 _ X.length (X.map (Value.int .i64)) rfl Yu.af.2.2 (by intro u hu;obtain⟨z,_,rfl⟩:=bH.1 hu;rfl) (by simp only [maxLen];omega) (by omega) ?_;intro v7 w4 gY Ut _;obtain⟨a7,c7,e7,_,_⟩:=Row.read gY;subst e7;have se:=hQ (dS.kS gY);have lV:=hQ (fa.af.eH Ut);clear gY Ut)
         go_roundg k'
         case measure=>rw [HK.af.1];exact cf k'
         case rel=>
          refine⟨oV g r++st,out,pre,by have h1:=Gi.af;have h2:=HK.af.1;omega,hQ HK.af.2,Nq,lV.af,?_⟩;rw [dJ,HX.af, ← Ht.af.1];unfold dX;rw [aI,au, ← Ht.af.2];exact se.af.to
end Go.Proofs.YtiegeadmgpanoaaGreatDoor.Y8
namespace Go.fB
theorem JY {a lv c:Nat}(ha:a≤8)(hc:c≤a*8 ^ lv):c≤8 ^ (lv+1):=by
 have h1:a*8 ^ lv≤8*8 ^ lv:=bM _ ha;rw [Nat.pow_succ];omega
theorem Hu {α:Type}{k:Nat}:∀ {LL:List (List α)},(∀l∈LL,l.length≤k)→LL.flatten.length≤LL.length*k
 | [],_=>by simp
 | l :: LL,h=>by
   have h1:=h l (by simp);have h2:=Hu (LL:=LL) fun x hx=>h x (by simp [hx])
   simp only [List.flatten_cons,au,List.length_cons,bJ];omega
theorem Rc {look:Int→Option dR}(ok:iT look){lv:Nat}{n:Int}{q:fw}{L:List en}(h:yS look lv n q L):L.length≤8 ^ (lv+1):=by
 induction h with
 | leaf n q g hl _ _=>simpa using (fU (ok.uH n g hl)).n
 | index lv n q g LL hl _ _ hlen hT ih=>
   refine JY (a:=LL.length) (by rw [hlen];exact(fU (ok.uH n g hl)).n) (Hu fun l hm=> ?_);obtain⟨i,hi,rfl⟩:=bF hm;exact ih i hi
theorem vn {look:Int→Option dR}(ok:iT look){root dT items:Int}{L:List en}(h:kK look root dT items L):L.length≤68719476736:=by
 rcases h with⟨_,_,_,rfl⟩ | ⟨_,_,lv,_,hlv,hT⟩
 · simp
 · exact bK (Rc ok hT) (bK (dF (by omega) (by omega:lv+1≤12)) (by decide))
theorem As {look:Int→Option dR}{root dT items:Int}{L:List en}(h:kK look root dT items L):∀x∈L,(iI look x.size x.child x.value).2=0:=by
 rcases h with⟨_,_,_,rfl⟩ | ⟨_,_,lv,_,hlv,hT⟩
 · exact fun x hx=>by cases hx
 · exact fun x hx=>(sN hT x hx).2
def jy(look:Int→Option dR)(x:en):List Int × List Int:=(x.key,nq look x)
end Go.fB
namespace Go.Proofs.YtiegeadmgpanoaaGreatDoor.D2
open ChangeShapes WideShapes ChangeAt RowKit Sl fB Go.Shelf L3 Z3 E4 X5 M8 Y8
attribute [local go_sem] Oper.semAt_some
abbrev fY:=(Value × Value) × (List Int × List Int)
def d_(z:fY):Pr:=(dM z.1.1 z.2.1).star (dM z.1.2 z.2.2)
def il(z:fY):List Value:= [z.1.1,z.1.2]
abbrev eN(v:Value)(zs:List fY):Pr:=Row 49 2 v zs.length (zs.flatMap il)
abbrev Hv(a b:Value):Value:= .agg #[a,b]
theorem uC:(Tryz.prog.info? 49).map (fun i=>(i.zero,i.size,i.bytes))=some (some (.agg #[.slice none 0 0,.slice none 0 0]),2,48):=by kernel_rfl
theorem Gr {w:World}{b:Nat}{x:Value}{fz:Nat × Nat}(h:w.heap[b]? =some (.cells #[x] 60 fz)):(loadVar 60 ⟨b,0,none⟩).run Tryz.prog w= .ok x w:=by
 have hc:w.cell? ⟨b,0,none⟩=some x:=by rw [cell_of_heap h];rfl
 go_simp
theorem JZ(v:Nat)(root dT items:Int)(lo hi:Value)(op:Bool)(al ah:Option Addr)(nl nh cl ch:Nat)(hlo:lo= .slice al nl cl)(mK:hi= .slice ah nh ch)(w:World):
 Calls Tryz.prog 52 #[.pointer (some ⟨v,0,none⟩),pJ root dT items,.agg #[lo,hi,.bool op]] w fun e w'=>e= .returned (.func (.func 92) #[] #[.pointer (some ⟨w.heap.size+1,0,none⟩),.pointer (some ⟨w.heap.size,0,none⟩),.pointer (some ⟨w.heap.size+1+1,0,none⟩)])∧w'=((w.alloc (lq v)).alloc (eT root dT items)).alloc (dO lo hi op):=by
 subst hlo mK;go_enter Tryz.func52,Tryz.ntmps52
 go_wp2;go_ret;exact⟨rfl,rfl⟩
def PI(OB VB TB RB A6 A7 v:Nat)(look:Int→Option dR)(root dT items:Int)(lo hi:Value)(op:Bool)(F:Pr)(pre:List Hr):Pr:=
 Pr.ex fun p:Value × List fY=>(Pr.pure (p.2.map (·.2)=pre.map fun x=>jy look x.2)).star ((Pr.pts OB (.cells #[p.1] 60)).star ((eN p.1 p.2).star ((big d_ p.2).star
  ((Pr.pts VB (lq v)).star ((Pr.pts TB (eT root dT items)).star ((Pr.pts RB (dO lo hi op)).star ((Pr.pts A6 (.cells #[.slice none 0 0] 60)).star ((Pr.pts A7 (.cells #[.int .i64 0] 32)).star F))))))))
theorem vo(v:Nat)(s:eC)(look:Int→Option dR)(hl:D2.Looks s look)(j6:iT look)(root dT items:Int)(L:List en)(hT:kK look root dT items L)(rv:Value)(r:fw)(hr:Hp)(uw:gJ hr rv r)(ur:wT r)(nr:nN 140737488355000 r)(F:Pr)(w:World)(hF:dS [dZ v s,Pr.own hr,F] w):
 Calls Tryz.prog 57 #[.pointer (some ⟨v,0,none⟩),pJ root dT items,rv] w fun e w'=>dN w w'∧∃o zs,e= .returned (.tuple #[o,.int .i64 0])∧zs.map (·.2)=(L.filter fun x=>iV r x.key).map (jy look)∧dS [eN o zs,big d_ zs,dZ v s,Pr.own hr,F] w':=by
 obtain⟨lo,hi,rfl,hlo,mK⟩:=id uw;obtain⟨al,cl,rfl,_⟩:=eL hlo;obtain⟨ah,ch,rfl,_⟩:=eL mK;obtain⟨i0,lk,hz0,hz1,jg⟩:=info_parts uC;obtain⟨hs1,_⟩:=hF.fresh [.pointer (some ⟨v,0,none⟩)] 27 w.heap.size rfl;obtain⟨hs2,_⟩:=hs1.fresh [.int .i64 root,.int .i64 dT,.int .i64 items] 35 (w.heap.size+1) (by simp)
 obtain⟨fP,_⟩:=hs2.fresh [.slice al r.lo.length cl,.slice ah r.hi.length ch,.bool r.op] 64 (w.heap.size+1+1) (by simp);obtain⟨fp,_⟩:=fP.fresh [.slice none 0 0] 60 (w.heap.size+1+1+1) (by simp);obtain⟨gu,_⟩:=fp.fresh [.int .i64 0] 32 (w.heap.size+1+1+1+1) (by simp);obtain⟨gQ,_⟩:=gu.fresh [.slice none 0 0] 60 (w.heap.size+1+1+1+1+1) (by simp);have mY:=hQ gQ
 have eR:=hQ (((((((dN.refl w).alloc (.cells [Value.pointer (some ⟨v,0,none⟩)].toArray 27)).alloc (.cells [Value.int .i64 root,.int .i64 dT,.int .i64 items].toArray 35)).alloc (.cells [Value.slice al r.lo.length cl,.slice ah r.hi.length ch,.bool r.op].toArray 64)).alloc (.cells [Value.slice none 0 0].toArray 60)).alloc (.cells [Value.int .i64 0].toArray 32)).alloc (.cells [Value.slice none 0 0].toArray 60))
 have hML:=bK (bX (fun x:en=>iV r x.key) L) (vn j6 hT);have hMV:∀x∈L.filter (fun x=>iV r x.key),(iI look x.size x.child x.value).2=0:=fun x hx=>As hT x ((bm.1 hx).1)
 have IT:=hQ (fun tb vb rb=>Ra tb vb rb v s look hl j6 root dT items L hT _ _ r hr uw ur nr);generalize (L.filter fun x=>iV r x.key)=M at*;have HH:=hQ (And.intro hl (And.intro hML hMV));clear hF hs1 hs2 fP fp gu gQ hlo mK uw hT hl j6 ur nr hML hMV;refine iC (n:=9) Tryz.func57 rfl ?_
 simp only [Tryz.ntmps57,bu,List.length_cons,List.length_nil,Nat.reduceAdd,Nat.reduceSub,Array.replicate_succ,Array.replicate_zero,bB,a_,List.nil_append,List.cons_append];go_wp2_with fail
 have U1:=mY.af;have U2:=eR.af;clear mY eR
 generalize ((((((w.alloc (.cells [Value.pointer (some ⟨v,0,none⟩)].toArray 27)).alloc (.cells [Value.int .i64 root,.int .i64 dT,.int .i64 items].toArray 35)).alloc (.cells [Value.slice al r.lo.length cl,.slice ah r.hi.length ch,.bool r.op].toArray 64)).alloc (.cells [Value.slice none 0 0].toArray 60)).alloc (.cells [Value.int .i64 0].toArray 32)).alloc (.cells [Value.slice none 0 0].toArray 60))=w0 at*
 generalize w.heap.size+1+1+1+1+1=OB at*;generalize w.heap.size+1+1+1+1=A7 at*;generalize w.heap.size+1+1+1=A6 at*;generalize w.heap.size+1+1=RB at*;generalize w.heap.size+1=TB at*;generalize w.heap.size=VB at*;refine(JZ v root dT items _ _ r.op _ _ _ _ _ _ rfl rfl _).mono ?_;rintro e w2 ⟨rfl,rfl⟩
 have U3:=((U1.alloc (lq v)).alloc (eT root dT items)).alloc (dO (.slice al r.lo.length cl) (.slice ah r.hi.length ch) r.op);have U4:=((U2.alloc (lq v)).alloc (eT root dT items)).alloc (dO (.slice al r.lo.length cl) (.slice ah r.hi.length ch) r.op)
 rw [show ((w0.alloc (lq v)).alloc (eT root dT items)).heap.size=w0.heap.size+1+1 by simp,show (w0.alloc (lq v)).heap.size=w0.heap.size+1 by simp] at U3;clear U1 U2;generalize ((w0.alloc (lq v)).alloc (eT root dT items)).alloc (dO (.slice al r.lo.length cl) (.slice ah r.hi.length ch) r.op)=w1 at*;generalize w0.heap.size+1+1=R2 at*;generalize w0.heap.size+1=T2 at*
 generalize w0.heap.size=V2 at*;have ig:=hQ U3;have eR:=hQ U4;clear U3 U4;go_wp2
 refine qC 9 (gf:=92) rfl (enters_of Tryz.func92 (by kernel_rfl) rfl) (IT.af T2 V2 R2) (fun _=>rfl)
  (fun pre=>PI OB VB TB RB A6 A7 v look root dT items (.slice al r.lo.length cl) (.slice ah r.hi.length ch) r.op F pre) (fun _ _=>Pr.pure False) ?start ?round ?done ?stop
 case start=>
  have h1:=(ig.af.emp).nothing d_;rw [← Row.nil 49 2] at h1
  have h2:=h1.to (M:= [Pr.pts OB (.cells #[.slice none 0 0] 60),Row 49 2 (.slice none 0 0) 0 [],big d_ [],Pr.pts VB (lq v),Pr.pts TB (eT root dT items),Pr.pts RB (dO (.slice al r.lo.length cl) (.slice ah r.hi.length ch) r.op),Pr.pts A6 (.cells #[.slice none 0 0] 60),Pr.pts A7 (.cells #[.int .i64 0] 32),F,Pr.pts T2 (eT root dT items),Pr.pts V2 (lq v),Pr.pts R2 (dO (.slice al r.lo.length cl) (.slice ah r.hi.length ch) r.op),dZ v s,Pr.own hr])
  unfold PI;rw [Pr.fC];refine Sat.qk.2 ⟨(.slice none 0 0,[]),?_⟩;rw [Pr.dP];exact Sat.pure.2 ⟨rfl,h2.sat.perm (by simp only [eJ,Pr.ei,Pr.dP,Mz];rfl)⟩
 case round=>
  intro l' pre x Nj F1 hok hs;unfold PI at hs;rw [Pr.fC,Pr.fC] at hs;obtain⟨⟨ov,zs⟩,hs⟩:=Sat.qk.1 hs;rw [Pr.dP,Pr.dP] at hs;obtain⟨hzs,hs⟩:=Sat.pure.1 hs;dsimp only at hzs hs;obtain⟨⟨y1,y2⟩,x⟩:=x
  have hs1:dS [Pr.pts OB (.cells #[ov] 60),eN ov zs,big d_ zs,Pr.pts VB (lq v),Pr.pts TB (eT root dT items),Pr.pts RB (dO (.slice al r.lo.length cl) (.slice ah r.hi.length ch) r.op),Pr.pts A6 (.cells #[.slice none 0 0] 60),Pr.pts A7 (.cells #[.int .i64 0] 32),F,rowsOf ((y1,y2),x),Pr.pts T2 (eT root dT items),Pr.pts V2 (lq v),Pr.pts R2 (dO (.slice al r.lo.length cl) (.slice ah r.hi.length ch) r.op),dZ v s,Pr.own hr,F1] Nj:=⟨hs.perm (by simp only [eJ,Pr.ei,Pr.dP,Mz])⟩
  obtain⟨ao,co,rfl⟩:=Row.shape (hs1.ej (A1:=eN ov zs));have hsh:dS [dM y1 x.key,dM y2 x.value] Nj:=⟨((hs1.ER (A1:=rowsOf ((y1,y2),x))).perm (B:=(dM y1 x.key).star ((dM y2 x.value).star Pr.emp)) (by rw [Pr.ei];rfl))⟩;obtain⟨ak,ck,rfl⟩:=Row.shape (hsh.ej (A1:=dM y1 x.key));obtain⟨av,cv,rfl⟩:=Row.shape (hsh.ej (A1:=dM y2 x.value))
  have hpl:pre.length+1≤68719476736:=by
   have h1:=hok.length_le;rw [au,aH] at h1;exact bK h1 HH.af.2.1
  have hzl:zs.length=pre.length:=by have:=congrArg List.length hzs;simpa using this
  have Sj:(iI look x.size x.child x.value).2=0:=HH.af.2.2 x (hok.subset (bT _ (dx x)));have Yv:(zs.length:Int)+1≤68719476736:=by omega
  have HZ:=hQ hzs;have lK:=hQ hs1;clear hs hs1 hsh hok hzs hzl hpl;simp only [K_,l6];gi_wp2
  have ny:=lK.af.alloc (.cells #[.slice ak x.key.length ck,.slice av x.value.length cv,.int .i64 x.child,.int .i64 x.size] 89);obtain⟨B,hB⟩:∃B,Nj.heap.size=B:=⟨_,rfl⟩;rw [hB] at ny ⊢
  refine⟨(dN.refl _).alloc _,eJ [Pr.pts B (.cells #[.slice ak x.key.length ck,.slice av x.value.length cv,.int .i64 x.child,.int .i64 x.size] 89),Pr.pts OB (.cells #[.slice ao zs.length co] 60),eN (.slice ao zs.length co) zs,big d_ zs,Pr.pts VB (lq v),Pr.pts TB (eT root dT items),Pr.pts RB (dO (.slice al r.lo.length cl) (.slice ah r.hi.length ch) r.op),Pr.pts A6 (.cells #[.slice none 0 0] 60),Pr.pts A7 (.cells #[.int .i64 0] 32),F,rowsOf ((.slice ak x.key.length ck,.slice av x.value.length cv),x),Pr.pts T2 (eT root dT items),Pr.pts V2 (lq v),Pr.pts R2 (dO (.slice al r.lo.length cl) (.slice ah r.hi.length ch) r.op),dZ v s,Pr.own hr],ny.sat.perm (by simp only [eJ,Pr.ei,Pr.dP]),?_⟩
  clear ny lK hB;intro F2 W2 _ hs2
  have fP:dS [Pr.pts B (.cells #[.slice ak x.key.length ck,.slice av x.value.length cv,.int .i64 x.child,.int .i64 x.size] 89),Pr.pts OB (.cells #[.slice ao zs.length co] 60),eN (.slice ao zs.length co) zs,big d_ zs,Pr.pts VB (lq v),Pr.pts TB (eT root dT items),Pr.pts RB (dO (.slice al r.lo.length cl) (.slice ah r.hi.length ch) r.op),Pr.pts A6 (.cells #[.slice none 0 0] 60),Pr.pts A7 (.cells #[.int .i64 0] 32),F,rowsOf ((.slice ak x.key.length ck,.slice av x.value.length cv),x),Pr.pts T2 (eT root dT items),Pr.pts V2 (lq v),Pr.pts R2 (dO (.slice al r.lo.length cl) (.slice ah r.hi.length ch) r.op),dZ v s,Pr.own hr,F2] W2:=⟨hs2.perm (by simp only [eJ,Pr.ei,Pr.dP])⟩
  have c1:=fP.fx;obtain⟨ax,hax,ny⟩:=fP.arena (rowsOf ((.slice ak x.key.length ck,.slice av x.value.length cv),x));have BL:=Ah v s look HH.af.1 x ax _ ⟨_,_,rfl,(BZ hax).1,(BZ hax).2⟩ _ _ (ny.iQ (A1:=dZ v s) (A2:=Pr.own ax));rw [Sj] at BL;have JE:=hQ BL;have O6:=hQ hax;clear hs2 fP ny BL hax Sj;gi_wp2_with fail
  refine⟨trivial,?_⟩;refine(CallsIn.inRound _ (callsIn_wide.2 JE.af)).mono ?_;rintro e w3 ⟨mF,o,rfl,fp⟩;have gu:=dS.Wb fp;obtain⟨aw,cw,rfl⟩:=Row.shape fp
  have gQ:dS [dM (.slice ak x.key.length ck) x.key,dM (.slice av x.value.length cv) x.value,dM (.slice aw (iI look x.size x.child x.value).1.length cw) (iI look x.size x.child x.value).1,Pr.pts B (.cells #[.slice ak x.key.length ck,.slice av x.value.length cv,.int .i64 x.child,.int .i64 x.size] 89),Pr.pts OB (.cells #[.slice ao zs.length co] 60),eN (.slice ao zs.length co) zs,big d_ zs,Pr.pts VB (lq v),Pr.pts TB (eT root dT items),Pr.pts RB (dO (.slice al r.lo.length cl) (.slice ah r.hi.length ch) r.op),Pr.pts A6 (.cells #[.slice none 0 0] 60),Pr.pts A7 (.cells #[.int .i64 0] 32),F,Pr.pts T2 (eT root dT items),Pr.pts V2 (lq v),Pr.pts R2 (dO (.slice al r.lo.length cl) (.slice ah r.hi.length ch) r.op),dZ v s,Pr.own hr,F2] w3:=by
   have h1:=(gu.back (rowsOf ((.slice ak x.key.length ck,.slice av x.value.length cv),x)) O6.af);have h2:dS ((dM (.slice ak x.key.length ck) x.key).star (dM (.slice av x.value.length cv) x.value) :: _) w3:=h1;exact h2.norm.to
  clear c1;have c1:=gQ.fx;generalize (iI look x.size x.child x.value).1.length=nw at*;have GZ:=gQ.alloc (.cells #[.slice ak x.key.length ck,.slice aw nw cw] 49);have H1:=hQ (GZ.ej (A1:=eN (.slice ao zs.length co) zs));have HC:=hQ (eW w3 [.slice ak x.key.length ck,.slice aw nw cw] 49 _ rfl)
  have gg:=hQ (mF.alloc (.cells #[.slice ak x.key.length ck,.slice aw nw cw] 49));clear fp gu gQ GZ mF JE O6
  gi_wp2_with (refine lT rfl _ _ _ rfl 49 i0 _ 2 48 Tryz.underlying60 lk hz0 hz1 jg rfl _ _ _ rfl H1.af ⟨w3.heap.size,0,none⟩ 1 1 [.slice ak x.key.length ck,.slice aw nw cw] rfl rfl HC.af (by simp [Value.oneCell']) (by simp only [maxLen];omega) (by omega) ?_;intro v7 w5 gp tB;obtain⟨a7,c7,e7,_,_⟩:=Row.read gp;subst e7;have gY:=(dS.kS gp);clear c1;have c1:=(gY.pts OB).lt;have c2:w5.cell? ⟨OB,0,none⟩=some (.slice ao zs.length co):=(cell_of_heap (gY.pts OB).dL 0).trans rfl;have c3:=frozen_of_heap (gY.pts OB).dL 0;have se:=hQ gY;have l9:=hQ (gg.af.eH tB);clear gp gY tB)
  refine⟨l9.af.setCell _ _,?_⟩;have h8:=((se.af.set OB 0 (.slice a7 (zs.length+1) c7)).jk (dM (.slice ak x.key.length ck) x.key) (dM (.slice aw nw cw) (iI look x.size x.child x.value).1));have h9:dS (d_ ((.slice ak x.key.length ck,.slice aw nw cw),jy look x) :: _) (w5.setCell ⟨OB,0,none⟩ (.slice a7 (zs.length+1) c7)):=h8
  have h10:=h9.snoc d_ zs ((.slice ak x.key.length ck,.slice aw nw cw),jy look x)
  have h11:=h10.to (M:= [Pr.pts OB (.cells #[.slice a7 (zs.length+1) c7] 60),Row 49 2 (.slice a7 (zs.length+1) c7) (zs.length+1) (zs.flatMap il++ [.slice ak x.key.length ck,.slice aw nw cw]),big d_ (zs++ [((.slice ak x.key.length ck,.slice aw nw cw),jy look x)]),Pr.pts VB (lq v),Pr.pts TB (eT root dT items),Pr.pts RB (dO (.slice al r.lo.length cl) (.slice ah r.hi.length ch) r.op),Pr.pts A6 (.cells #[.slice none 0 0] 60),Pr.pts A7 (.cells #[.int .i64 0] 32),F,Pr.pts T2 (eT root dT items),Pr.pts V2 (lq v),Pr.pts R2 (dO (.slice al r.lo.length cl) (.slice ah r.hi.length ch) r.op),dZ v s,Pr.own hr,F2])
  unfold PI;rw [Pr.fC,Pr.fC];refine Sat.qk.2 ⟨(.slice a7 (zs.length+1) c7,zs++ [((.slice ak x.key.length ck,.slice aw nw cw),jy look x)]),?_⟩;rw [Pr.dP,Pr.dP];refine Sat.pure.2 ⟨by rw [aI,HZ.af,aI];rfl,h11.sat.perm ?_⟩
  simp only [eJ,Pr.ei,Pr.dP,Mz,eN,au,List.length_singleton,aN,aX,cV,aV];rfl
 case done=>
  intro D xs W2 hxs hst hs;unfold PI at hs;rw [Pr.fC,Pr.fC] at hs;obtain⟨⟨ov,zs⟩,hs⟩:=Sat.qk.1 hs;rw [Pr.dP,Pr.dP] at hs;obtain⟨hzs,hs⟩:=Sat.pure.1 hs;dsimp only at hzs hs
  have fP:dS [Pr.pts D (.deferred (some [])),Pr.pts OB (.cells #[ov] 60),eN ov zs,big d_ zs,Pr.pts VB (lq v),Pr.pts TB (eT root dT items),Pr.pts RB (dO (.slice al r.lo.length cl) (.slice ah r.hi.length ch) r.op),Pr.pts A6 (.cells #[.slice none 0 0] 60),Pr.pts A7 (.cells #[.int .i64 0] 32),F,Pr.pts T2 (eT root dT items),Pr.pts V2 (lq v),Pr.pts R2 (dO (.slice al r.lo.length cl) (.slice ah r.hi.length ch) r.op),dZ v s,Pr.own hr] W2:=⟨hs.perm (by simp only [eJ,Pr.ei,Pr.dP,Mz];ac_rfl)⟩
  obtain⟨ao,co,rfl⟩:=Row.shape (fP.ej (A1:=eN ov zs));have c1:=fP.fx
  have HZ:=hQ (show zs.map (·.2)=M.map (jy look) from by
   rw [hzs, ← hxs,List.map_map]
   rfl)
  have j8:=hQ fP;have gg:=hQ (eR.af.trans hst);clear hs fP hst ig hzs hxs;go_wp2;have h6:=(j8.af.set A6 0 (.slice ao zs.length co)).set A7 0 (.int .i64 0);have q1:=h6.ej (A1:=Pr.pts D (.deferred (some [])));have q2:=dS.Ql (q1.putObj (.deferred none)).right
  refine j7 (D:=D) rfl q1.dL ⟨_,uf rfl _ _ A6 (.slice ao zs.length co) rfl (Gr (q2.pts A6).dL) A7 (.int .i64 0) rfl (FK (q2.pts A7).dL),((gg.af.setCell _ _).setCell _ _).putObj _ _,.slice ao zs.length co,rfl,zs,HZ.af,q2.to⟩
 case stop=>
  intro D c pre W2 _ hst hs;exact(Sat.pure.1 (hs.perm (Pr.dP _ _ _))).1.elim
theorem D'(v:Nat)(s:eC)(look:Int→Option dR)(hl:D2.Looks s look)(j6:iT look)(root dT items:Int)(L:List en)(hT:kK look root dT items L)(rv:Value)(r:fw)(hr:Hp)(uw:gJ hr rv r)(ur:wT r)(nr:nN 140737488355000 r)(F:Pr)(w:World)(hF:dS [dZ v s,Pr.own hr,F] w):
 Calls Tryz.prog 27 #[.pointer (some ⟨v,0,none⟩),pJ root dT items,rv] w fun e w'=>dN w w'∧∃o zs,e= .returned (.tuple #[o,.int .i64 0])∧zs.map (·.2)=(L.filter fun x=>iV r x.key).map (jy look)∧dS [eN o zs,big d_ zs,dZ v s,Pr.own hr,F] w':=by
 obtain⟨lo,hi,rfl,hlo,mK⟩:=id uw;obtain⟨al,cl,rfl,_⟩:=eL hlo;obtain⟨ah,ch,rfl,_⟩:=eL mK;have hs0:=(hF.alloc (eT root dT items)).alloc (dO (.slice al r.lo.length cl) (.slice ah r.hi.length ch) r.op);have PA:=hQ (vo v s look hl j6 root dT items L hT _ r hr uw ur nr _ _ (dS.xp (hs0.iQ (A1:=dZ v s) (A2:=Pr.own hr))))
 have eR:=hQ (((dN.refl w).alloc (eT root dT items)).alloc (dO (.slice al r.lo.length cl) (.slice ah r.hi.length ch) r.op));clear hF hlo mK uw hT hl j6 ur nr hs0;go_enter Tryz.func27,Tryz.ntmps27
 go_wp2_with fail
 refine PA.af.mono ?_;rintro e w1 ⟨fN,o,zs,rfl,hz,hs1⟩;have hs2:=hs1.flat;have HE:=hQ (hs2.to (M:= [eN o zs,big d_ zs,dZ v s,Pr.own hr,F]));have eQ:=hQ (eR.af.trans fN);have HZ:=hQ hz;clear hs1 hs2 fN hz PA eR;go_wp2;go_ret2;exact⟨eQ.af,o,zs,rfl,HZ.af,HE.af⟩
end Go.Proofs.YtiegeadmgpanoaaGreatDoor.D2
