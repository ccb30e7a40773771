/- The law's ListsOfPairs; the conditions stand as hypotheses. -/
import Derived.Test.YtiegeadmgpanoaaGreatDoorL40
import Derived.Test.YtiegeadmgpanoaaGreatDoorL42
import Derived.Test.YtiegeadmgpanoaaGreatDoorL38
import Derived.Test.YtiegeadmgpanoaaGreatDoorL41
set_option maxRecDepth 100000
set_option maxHeartbeats 16000000
namespace Go.Proofs.YtiegeadmgpanoaaGreatDoor.D2
open ChangeShapes WideShapes ChangeAt RowKit Sl fB Go.Shelf L3 Z3 E4
attribute [local go_sem] Oper.semAt_some
def Ec(z:fY):List (Value × List Int):= [(z.1.1,z.2.1),(z.1.2,z.2.2)]
theorem Hw:∀zs:List fY,big d_ zs=big rowOf (zs.flatMap Ec)
 | []=>rfl
 | z :: zs=>by
   rw [aX,sD,Cp,Hw zs];show (d_ z).star _=((rowOf (z.1.1,z.2.1)).star ((rowOf (z.1.2,z.2.2)).star Pr.emp)).star _
   rw [Pr.ei];rfl
theorem J6(zs:List fY):(zs.flatMap Ec).map (·.1)=zs.flatMap il:=by
 induction zs with
 | nil=>rfl
 | cons z zs ih=>rw [aX,aX,aI,ih];rfl
theorem Hy(zs:List fY):(zs.flatMap Ec).length=2*zs.length:=by
 induction zs with
 | nil=>rfl
 | cons z zs ih=>rw [aX,au,ih,List.length_cons];show 2+ _=_;omega
theorem Ed(hp:Hp)(pv:Value)(zs:List fY)(hP:jm hp pv zs)(hl:zs.length≤40000000)(F:Pr)(w:World)(hF:dS [Pr.own hp,F] w):
 Calls Tryz.prog 35 #[pv] w fun e w'=> ∃v,e= .returned v∧dN w w'∧dS [Row 42 1 v (2*zs.length) (zs.flatMap il),Pr.own hp,F] w':=by
 obtain⟨a,ca,rfl,_,_,rd⟩:=pK hP;have RD:=hQ rd;have HF:=hQ hF;have hli:(zs.length:Int)≤40000000:=by omega
 clear rd hP hF;go_enter Tryz.func35,Tryz.ntmps35
 go_wp2;go_loopg [3,4] (zs.length) (fun k o i wr=> ∃(q m:Nat) (xs:List Value),q+k=zs.length∧i= .int .i64 q∧Hid (m=2*q)∧Hid (xs=(zs.take q).flatMap il)∧dN w wr∧dS [Row 42 1 o m xs,Pr.own hp,F] wr)
 case atStart=>
  refine⟨0,0,[],Nat.zero_add _,rfl,hQ rfl,hQ rfl,dN.refl _,?_⟩;have h1:=HF.af.emp;rw [← Row.nil 42 1] at h1;exact h1
 case round=>
  obtain⟨q,m,xs,hqk,rfl,hm,hxs,hst,hs⟩:=hrel;rename World=>wr
  clear HF;obtain⟨Wv,Ww,rfl⟩:=Row.shape hs.sat;rcases aB q zs.length with hlt | hge
  · obtain⟨k0,qn⟩:∃k0,k0+1=gk:=⟨gk-1,by omega⟩
    obtain⟨b,off,k1,n1,k2,n2,rfl,e1,e2,hc⟩:=RD.af q hlt;obtain⟨d0,d1⟩:=hc wr hs.le;have zb:=ay _ _ d0;simp only at zb;have Ss:(q:Int)<(zs.length:Int):=by omega
    have hm2:m≤80000000:=by have:=hm.af;omega
    have Kj:=hQ (show (zs.take (q+1)).flatMap il=(zs.take q).flatMap il++ [.slice k1 zs[q].2.1.length n1,.slice k2 zs[q].2.2.length n2] by
     rw [aF hlt,aN]
     simp only [aX,cV,il,e1,e2,aV])
    obtain⟨j0,hj,hy0,hy1,Cw⟩:=info_parts Ct;have HC:=hQ hc;clear e1 e2 hc;generalize zs[q].2.1.length=u1 at*;generalize zs[q].2.2.length=u2 at*;have A1:=hQ ((hs.alloc (.cells #[.slice k1 u1 n1,.slice k2 u2 n2] 42)).drop.drew.ej (A1:=Row 42 1 (.slice Wv m Ww) m xs))
    have hnew:=hQ (show ∀j u,[Value.slice k1 u1 n1,.slice k2 u2 n2][j]? =some u→(wr.alloc (.cells #[.slice k1 u1 n1,.slice k2 u2 n2] 42)).drew.cell? ((⟨wr.heap.size,0,none⟩:Addr).add j)=some u from qJ wr [.slice k1 u1 n1,.slice k2 u2 n2] 42);have nQ:=hQ (hst.alloc (.cells #[.slice k1 u1 n1,.slice k2 u2 n2] 42)).drew;clear hs hst;go_wp2_with fail
    refine qp (sz:=25) (by kernel_rfl) [0,1,2,3,4,5,6,7,8,9,10] [(11,[],[0,1,2,3,4,6,7,8,9]),(12,[],[1,2,3,4,6,7,8,9])] rfl rfl rfl (by kernel_rfl) (by kernel_rfl) (by kernel_rfl) (by kernel_rfl) ?_;simp only [List.dropLast];refine dY _ rfl rfl ?_;simp only [pick,pQ];iterate 11 (go_big_quiet_step (fail))
    refine wpQuiet_nil ?_;refine dK rfl ?_;go_wp2;refine dQ ?_;refine dU ⟨?_,?_⟩
    · exact cQ
    refine dK rfl ?_;refine ff rfl _ _ _ rfl 42 j0 (.slice none 0 0) 1 24 Tryz.underlying39 hj hy0 hy1 Cw rfl _ _ _ rfl A1.af ⟨wr.heap.size,0,none⟩ 2 2 [.slice k1 u1 n1,.slice k2 u2 n2] rfl rfl hnew.af (by simp [Value.oneCell']) (by simp only [maxLen];omega) (by omega) (fun v7 w7 gZ lC K0 lS=> ?_);obtain⟨a7,c7,rfl⟩:=Row.shape gZ;go_simp;refine lS _ ?_;clear lS K0
    have gp:=dS.kS gZ;have mI:=hQ gp;have wE:=hQ (nQ.af.eH lC);clear d0 d1 zb;obtain⟨d0,d1⟩:=HC.af w7 gp.le;have zb:=ay _ _ d0;simp only at zb;clear gZ gp lC A1 hnew nQ;refine wpList_nil ?_;refine dQ ?_;refine dU ⟨?_,?_⟩
    · exact cQ
    refine dW ?_;unfold qB;clear d0 d1 zb;go_wp2;go_roundg k0
    case measure=>omega
    case rel=>exact⟨q+1,m+2,_,by omega,congrArg (Value.int .i64) (by omega),hQ (by have:=hm.af;omega),hQ (by rw [Kj.af, ← hxs.af]),wE.af,mI.af.to⟩
  · have Ss:¬(q:Int)<(zs.length:Int):=by omega
    have Uy:q=zs.length:=by omega
    have HE:=hQ hs;have eR:=hQ hst;have HQ:=hQ Uy;clear hs hst Uy;go_wp2;go_ret;refine⟨_,rfl,eR.af,?_⟩;have h:=HE.af;rw [hm.af,hxs.af,HQ.af,bE] at h;rw [hm.af,HQ.af];exact h
end Go.Proofs.YtiegeadmgpanoaaGreatDoor.D2
namespace Go.Proofs.YtiegeadmgpanoaaGreatDoor.D2
open ChangeShapes WideShapes ChangeAt RowKit Sl fB Go.Shelf L3 Z3 E4 X5 M8 Y8 X6
attribute [local go_sem] Oper.semAt_some
theorem O8(l:List Int):l= []∨∃(t:List Int) (x:Int),l=t++ [x]:=by
 rcases List.eq_nil_or_concat l with h | ⟨t,x,h⟩
 · exact .inl h
 · exact .inr ⟨t,x,by rw [h,List.concat_eq_append]⟩
theorem MN(n:Nat)(hn:n≤65600):∀wx:World,(Instr.makeSlice 22 (.int .i64 ((n:Int)+1)) (.int .i64 ((n:Int)+1))).run Tryz.prog wx= .ok (.slice (some ⟨wx.heap.size,0,none⟩) (n+1) (n+1)) (wx.alloc (.cells (madeCells #[.int .i64 0] (n+1)) 3)):=fun wx=>by
 have:=run_make_row' (P:=Tryz.prog) 22 3 (.int .i64 0) 8 Tryz.underlying22 mA rfl .i64 .i64 (n+1) (by omega) (by omega) wx
 simpa using this
theorem MP {r:Nat}{s:ef}{gs:List dR}{hush:iJ}{x0:RX}(v:Value)(g:dR)(hv:fV x0.h v g)(hn:g.items.length≤65536)(F:Pr)(w:World)(hF:Sat ((eE r s gs hush x0).star F) w):
 Calls Tryz.prog 88 #[v] w fun e w'=>dN w w'∧∃v',e= .returned v'∧Sat ((dX v' (lF g)).star ((eE r s gs hush x0).star F)) w':=by
 refine(Ji x0.h v g hv hn _ w (vp hF)).mono ?_;rintro e w' ⟨v',rfl,hs,st⟩;refine⟨st,v',rfl,(hs.perm (B:=(eE r s gs hush x0).star ((dX v' (lF g)).star F)) ?_).perm (by ac_rfl)⟩;unfold eE;ac_rfl
theorem Hz {r:Nat}{s:ef}{gs:List dR}{hush:iJ}{x0:RX}(ok:yk s gs x0){look:Int→Option dR}(hl:kT s gs look)(j6:iT look){n:Int}(h:vV look n){F:Pr}{w:World}(hF:Sat ((eE r s gs hush x0).star F) w):
 ∃j:Nat,n=(j:Int)+1∧j<s.counts.length:=by
 obtain⟨g,hg,_⟩:=Ar j6 h;obtain⟨j,_,_,_,_,_,_,e,hj,_⟩:=lX ok hl hg hF;exact⟨j,e,hj⟩
theorem Ee {r b T k c n:Nat}{o:Obj}{xs:List Value}{F:Pr}{w:World}(h:Sat ((Row T k (.slice (some ⟨b,0,none⟩) n c) n xs).star ((Pr.pts r o).star F)) w):r≠b:=by
 obtain⟨_,(⟨e,_,_⟩ | ⟨b',_,_,e,_,_,_,h4⟩)⟩:=Row.open' h
 · cases e
 · cases e
   exact(h4.uL).symm
theorem Ef {b b2 T T2 k k2 c c2 n n2:Nat}{xs ys:List Value}{F:Pr}{w:World}(h:Sat ((Row T k (.slice (some ⟨b,0,none⟩) n c) n xs).star ((Row T2 k2 (.slice (some ⟨b2,0,none⟩) n2 c2) n2 ys).star F)) w):b≠b2:=by
 obtain⟨_,(⟨e,_,_⟩ | ⟨b',_,_,e,_,_,_,h4⟩)⟩:=Row.open' h
 · cases e
 · cases e
   exact Ee (h4.perm (Pr.eD _ _ _))
theorem Gu(r:Nat)(s:ef)(gs:List dR)(hush:iJ)(x0:RX)(BJ:yk s gs x0)(look:Int→Option dR)(hl:kT s gs look)(j6:iT look)(ts:List ri)(tv:Value)(h:Hp)(ht:oY h tv ts)(hts:ts.length≤4096)(F:Pr)(w:World)(hF:dS [eE r s gs hush x0,Pr.own h,F] w):
 Calls Tryz.prog 48 #[.pointer (some ⟨r,0,none⟩),tv] w fun e w'=>dN w w'∧∃b,e= .returned (.bool b)∧(b=true→∀t∈ts,iW look t.root t.dT t.items=0)∧dS [eE r s gs hush x0,Pr.own h,F] w':=by
 obtain⟨i0,lk,hz0,hz1,jg⟩:=info_parts mA;obtain⟨at',ct,rfl,rd⟩:=yw ht;obtain⟨N,hN⟩:∃N:Nat,s.counts.length=N:=⟨_,rfl⟩;have hN2:N≤65536:=by rw [← hN];exact BJ.n2
 have hmk:=MN N (by omega);have PZ:=D_ N (by omega);have LN:=hQ (fun(G:Pr) (wx:World) (hG:Sat ((eE r s gs hush x0).star G) wx)=>yl r s gs hush G wx (iw.2 ⟨x0,BJ,hG⟩));rw [hN] at LN;have hs0:=dS.kS (qO 3 (.int .i64 0) (N+1) (by simp only [maxLen];omega) hF.sat);have jC:=hQ hs0;have HF:=hQ hF
 have oI:=hQ ((dN.refl w).alloc (.cells (madeCells #[.int .i64 0] (N+1)) 3));have HH:=hQ (And.intro BJ (And.intro hl (And.intro j6 hN)));have RD:=hQ rd;have htl:(ts.length:Int)≤4096:=by omega
 clear hF hs0 BJ hl j6 hN ht rd;go_enter Tryz.func48,Tryz.ntmps48
 go_wp2_with fail
 refine(LN.af _ _ (HF.af.ej (A1:=eE r s gs hush x0))).mono ?_;rintro e w1 ⟨rfl,rfl⟩;go_wp2;have U1:=jC.af;have U2:=oI.af;clear jC oI HF;generalize w.alloc (.cells (madeCells #[.int .i64 0] (N+1)) 3)=w0 at*;generalize w.heap.size=IB at*;have jC:=hQ U1;have oI:=hQ U2;clear U1 U2
 go_loopg [6] ts.length (fun k i wr=> ∃(q:Nat) (V:List Int),q+k=ts.length∧i= .int .i64 q∧Hid (∀t∈ts.take q,iW look t.root t.dT t.items=0)∧Hid (∀z∈V,0≤z∧z≤(q:Int))∧dN w wr∧dS [Row 3 1 (.slice (some ⟨IB,0,none⟩) (N+1) (N+1)) (N+1) (V.map (Value.int .i64)),eE r s gs hush x0,Pr.own h,F] wr)
 case atStart=>
  refine⟨0,List.replicate (N+1) 0,Nat.zero_add _,rfl,hQ (fun t ht=>by simp at ht),hQ (fun z hz=>by obtain rfl:=List.eq_of_mem_replicate hz;simp),oI.af,?_⟩;rw [cZ];exact jC.af.to
 case round=>
  obtain⟨q,V,hqk,rfl,yY,hvb,hst,hs⟩:=hrel;rename World=>wr
  clear jC oI;rcases aB q ts.length with hlt | hge
  · obtain⟨k0,qn⟩:∃k0,k0+1=gk:=⟨gk-1,by omega⟩
    obtain⟨tb,off,rfl,hc⟩:=RD.af q hlt;obtain⟨e0,e1,e2⟩:=hc wr (hs.le (a:=h));have ez:=ay _ _ e0;simp only at ez;have Ri:(q:Int)<(ts.length:Int):=by omega
    have P7:ts.take (q+1)=ts.take q++ [ts[q]]:=by rw [aF hlt]
    generalize ts[q]=t at*;have CK:=hQ (E4.sM r s gs hush x0 HH.af.1 look HH.af.2.1 HH.af.2.2.1 t.root t.dT t.items _ _ (dS.Ii (hs.ej (A1:=eE r s gs hush x0))));have eR:=hQ hst;have HC:=hQ hc;have Kj:=hQ P7;have O9:=hvb;clear hs hst hc hvb P7;go_wp2_with fail
    refine CK.af.mono ?_;rintro e w2 ⟨kU,rfl,hs2⟩;have fP:=hs2.flat;have j8:=hQ fP;have fa:=hQ (eR.af.trans kU);clear e0 e1 e2 ez hs2 kU CK eR;obtain⟨e0,e1,e2⟩:=HC.af w2 (fP.le (a:=h));have ez:=ay _ _ e0;simp only at ez;obtain⟨c,UH⟩:∃c,iW look t.root t.dT t.items=c:=⟨_,rfl⟩;rw [UH];by_cases h0:c=0
    · subst h0
      obtain⟨L,hT⟩:=oH HH.af.2.2.1 UH
      have hroot:∃j:Nat,t.root=(j:Int)∧j≤N:=by
       by_cases hr:t.root=0
       · exact⟨0,hr,aG _⟩
       · obtain⟨j,e,hj⟩:=Hz HH.af.1 HH.af.2.1 HH.af.2.2.1 (yy hT hr) (fP.ej (A1:=eE r s gs hush x0))
         have:=HH.af.2.2.2
         exact⟨j+1,by omega,by omega⟩
      obtain⟨j,rY,hj2⟩:=hroot;obtain⟨_,u,e9,hu,d0,d1,zb⟩:=Row.sF (fP.row (.slice (some ⟨IB,0,none⟩) (N+1) (N+1))) j (by omega);cases e9;rw [aO] at hu;obtain⟨z,Gv,MQ⟩:=Option.map_eq_some_iff.1 hu;subst MQ;have WQ:=O9.af z (dG Gv);have Xy:(j:Int)<(N:Int)+1:=by omega
      have Er:=hQ (show ∀t∈ts.take (q+1),iW look t.root t.dT t.items=0 from fun t' ht'=>by
       rw [Kj.af] at ht'
       rcases aK.1 ht' with ht' | ht'
       · exact yY.af t' ht'
       · obtain rfl:=aC.1 ht'
         exact UH)
      rw [rY] at e0;clear fP hu Gv UH hT yY rY;go_wp2;go_roundg k0
      case measure=>omega
      case rel=>
       refine⟨q+1,V.set j (z+1),by omega,congrArg (Value.int .i64) (by omega),Er,hQ (fun y hy=> ?_),fa.af.setCell _ _,?_⟩
       · rcases cC hy with hy | rfl
         · have:=O9.af y hy;omega
         · omega
       · have h7:=dS.kS (Go.Proofs.YtiegeadmgpanoaaGreatDoor.L3.Row.set (j8.af.row (.slice (some ⟨IB,0,none⟩) (N+1) (N+1))) (i:=j) (by omega) (.int .i64 (z+1)))
         rw [show (V.map (Value.int .i64)).set j (.int .i64 (z+1))=(V.set j (z+1)).map (Value.int .i64) by rw [bN]] at h7;exact h7.to
    · have hb:(c != 0)=true:=bne_iff_ne.2 h0
      clear fP UH h0 yY;go_wp2;go_ret;exact⟨fa.af,false,rfl,(fun h=>by cases h),j8.af.to⟩
  · have Er:=hQ (show ∀t∈ts,iW look t.root t.dT t.items=0 from by
     have h1:=yY.af
     rwa [bS hge] at h1)
    have Ri:¬(q:Int)<(ts.length:Int):=by omega
    have O9:=hQ (show ∀z∈V,0≤z∧z≤4096 from fun z hz=>by have:=hvb.af z hz;omega);obtain⟨_,u,e9,hu,d0,d1,zb⟩:=Row.sF (hs.row (.slice (some ⟨IB,0,none⟩) (N+1) (N+1))) 0 (by omega);cases e9;have h7:=dS.kS (Go.Proofs.YtiegeadmgpanoaaGreatDoor.L3.Row.set (hs.row (.slice (some ⟨IB,0,none⟩) (N+1) (N+1))) (i:=0) (by omega) (.int .i64 0))
    rw [show (V.map (Value.int .i64)).set 0 (.int .i64 0)=(V.set 0 0).map (Value.int .i64) by rw [bN]] at h7
    have HV2:=hQ (show ∀z∈V.set 0 0,0≤z∧z≤4096 from fun y hy=>by
     rcases cC hy with hy | rfl
     · exact O9.af y hy
     · omega)
    have lZ:=hQ h7;have pN:=hQ (dS.kS (qO 4 (.bool false) (N+1) (by simp only [maxLen];omega) h7.sat));have ij:=hQ (hst.setCell ⟨IB,0,none⟩ (.int .i64 0));have L2:=hQ (LN.af _ _ (h7.ej (A1:=eE r s gs hush x0)));clear hs hst h7 hvb yY O9 LN hu;go_wp2_with fail
    refine L2.af.mono ?_;rintro e w3 ⟨rfl,rfl⟩;clear L2 lZ;go_wp2;have U1:=pN.af;have U2:=ij.af.alloc (.cells (madeCells #[.bool false] (N+1)) 4);clear pN ij d0 d1 zb;generalize hV2:V.set 0 0=V2 at*;generalize (wr.setCell ⟨IB,0,none⟩ (.int .i64 0)).alloc (.cells (madeCells #[.bool false] (N+1)) 4)=w4 at*;rw [World.size_setCell] at U1;generalize wr.heap.size=MB at*;clear hV2
    have pN:=hQ U1;have iM:=hQ U2;clear U1 U2
    go_loopg [8,9] ts.length (fun k t i wr=> ∃(q:Nat) (T:List Int),q+k=ts.length∧i= .int .i64 q∧T.length≤q∧Hid (∀n∈T,vV look n)∧dN w wr∧dS [dX t T,Row 4 1 (.slice (some ⟨MB,0,none⟩) (N+1) (N+1)) (N+1) ((List.replicate (N+1) false).map Value.bool),Row 3 1 (.slice (some ⟨IB,0,none⟩) (N+1) (N+1)) (N+1) (V2.map (Value.int .i64)),eE r s gs hush x0,Pr.own h,F] wr)
    case atStart=>
     refine⟨0,[],Nat.zero_add _,rfl,aD _,hQ (fun n hn=>by cases hn),iM.af,?_⟩;have h1:=pN.af.emp;rw [← Row.nil 3 1] at h1
     have h2:dS [dX (.slice none 0 0) [],Row 4 1 (.slice (some ⟨MB,0,none⟩) (N+1) (N+1)) (N+1) ((List.replicate (N+1) false).map Value.bool),Row 3 1 (.slice (some ⟨IB,0,none⟩) (N+1) (N+1)) (N+1) (V2.map (Value.int .i64)),eE r s gs hush x0,Pr.own h,F] w4:=⟨(h1.to (M:= [Row 3 1 (.slice none 0 0) 0 [],Row 4 1 (.slice (some ⟨MB,0,none⟩) (N+1) (N+1)) (N+1) (List.replicate (N+1) (.bool false)),Row 3 1 (.slice (some ⟨IB,0,none⟩) (N+1) (N+1)) (N+1) (V2.map (Value.int .i64)),eE r s gs hush x0,Pr.own h,F])).sat.perm (by rw [cZ];rfl)⟩
     exact h2
    case round=>
     obtain⟨q2,T,YF,rfl,hTl,hgd,hst,hs⟩:=hrel;rename World=>wy
     clear pN iM;obtain⟨ao,co,rfl⟩:=Row.shape (hs.ej (A1:=dX u8 T));rcases aB q2 ts.length with hlt | hge
     · obtain⟨k0,qn⟩:∃k0,k0+1=gk:=⟨gk-1,by omega⟩
       obtain⟨tb,off,rfl,hc⟩:=RD.af q2 hlt;obtain⟨e0,e1,e2⟩:=hc wy (hs.le (a:=h));have ez:=ay _ _ e0;simp only at ez;have YG:(q2:Int)<(ts.length:Int):=by omega
       have yY:=Er.af _ (aE hlt);generalize ts[q2]=t at*;by_cases hp:0<t.root
       · obtain⟨L,hT⟩:=oH HH.af.2.2.1 yY
         have HGR:=hQ (yy hT (by omega));have fP:=hs.alloc (.cells #[.int .i64 t.root] 3);have H1:=hQ (fP.ej (A1:=dX (.slice ao T.length co) T));have J3:=hQ (eW wy [.int .i64 t.root] 3 _ rfl);have ij:=hQ (hst.alloc (.cells #[.int .i64 t.root] 3));clear hs fP hst hc yY hT
         go_wp2_with (at_builtin;refine eu rfl _ _ _ rfl 3 i0 (.int .i64 0) 1 8 Tryz.underlying22 lk hz0 hz1 jg rfl _ _ _ rfl H1.af ⟨wy.heap.size,0,none⟩ 1 1 [.int .i64 t.root] rfl rfl J3.af (by simp [Value.oneCell']) (by simp only [maxLen];omega) (by omega) ?_;intro v7 w5 gp tB _;obtain⟨a7,c7,e7,_,_⟩:=Row.read gp;subst e7;have gY:=(dS.kS gp);have se:=hQ gY;have l9:=hQ (ij.af.eH tB);clear gp gY tB)
         go_roundg k0
         case measure=>omega
         case rel=>
          refine⟨q2+1,T++ [t.root],by omega,congrArg (Value.int .i64) (by omega),by simp;omega,hQ (fun n hn=> ?_),l9.af,?_⟩
          · rcases aK.1 hn with hn | hn
            · exact hgd.af n hn
            · obtain rfl:=aC.1 hn
              exact HGR.af
          · have h7:=se.af.to (M:= [Row 3 1 (.slice a7 (T.length+1) c7) (T.length+1) (T.map (Value.int .i64)++ [.int .i64 t.root]),Row 4 1 (.slice (some ⟨MB,0,none⟩) (N+1) (N+1)) (N+1) ((List.replicate (N+1) false).map Value.bool),Row 3 1 (.slice (some ⟨IB,0,none⟩) (N+1) (N+1)) (N+1) (V2.map (Value.int .i64)),eE r s gs hush x0,Pr.own h,F])
            refine⟨h7.sat.perm ?_⟩;unfold dX;rw [au,aI];rfl
       · have j8:=hQ hs
         have gg:=hQ hst;clear hs hst hc yY;go_wp2;go_roundg k0
         case measure=>omega
         case rel=>exact⟨q2+1,T,by omega,congrArg (Value.int .i64) (by omega),by omega,hgd,gg.af,j8.af⟩
     · have YG:¬(q2:Int)<(ts.length:Int):=by omega
       have j8:=hQ hs;have gg:=hQ hst;have hT2:T.length≤4096:=by omega
       have hM0:10*(List.replicate (N+1) false).count false+T.length≤10*(N+1)+4096:=by rw [List.count_replicate_self];omega
       clear hs hst YF;go_wp2
       go_loopg [8] (10*(List.replicate (N+1) false).count false+T.length) (fun k t wr=> ∃(T:List Int) (bs:List Bool) (V:List Int),bs.length=N+1∧k=10*bs.count false+T.length∧k≤10*(N+1)+4096∧Hid (∀n∈T,vV look n)∧Hid (∀z∈V,0≤z∧z+10*((bs.count false:Nat):Int)≤4096+10*((N:Int)+1))∧dN w wr∧dS [dX t T,Row 4 1 (.slice (some ⟨MB,0,none⟩) (N+1) (N+1)) (N+1) (bs.map Value.bool),Row 3 1 (.slice (some ⟨IB,0,none⟩) (N+1) (N+1)) (N+1) (V.map (Value.int .i64)),eE r s gs hush x0,Pr.own h,F] wr)
       case atStart=>exact⟨T,List.replicate (N+1) false,V2,by simp,rfl,hM0,hgd,hQ (fun z hz=>by have:=HV2.af z hz;rw [List.count_replicate_self];omega),gg.af,j8.af⟩
       case round=>
        obtain⟨T,bs,V,hbl,Ip,hkb,hgd,hvb,hst,hs⟩:=hrel;rename World=>wz
        clear j8 gg hM0 hT2 hTl;obtain⟨ao,co,rfl⟩:=Row.shape (hs.ej (A1:=dX u8 T));rcases O8 T with rfl | ⟨T,n,rfl⟩
        · have lZ:=hQ (hs.to (M:= [Row 3 1 (.slice (some ⟨IB,0,none⟩) (N+1) (N+1)) (N+1) (V.map (Value.int .i64)),eE r s gs hush x0,Pr.own h,F]))
          have ij:=hQ hst;clear hs hst hgd hvb Ip;go_wp2;go_loopg [13] N (fun k i wx=> ∃p:Nat,p+k=N∧i= .int .i64 ((p:Int)+1)∧dN w wx∧dS [Row 3 1 (.slice (some ⟨IB,0,none⟩) (N+1) (N+1)) (N+1) (V.map (Value.int .i64)),eE r s gs hush x0,Pr.own h,F] wx)
          case atStart=>exact⟨0,Nat.zero_add _,rfl,ij.af,lZ.af⟩
          case round=>
           obtain⟨p,hpk,rfl,hst,hs⟩:=hrel;rename World=>wx
           clear lZ ij;rcases aB p N with hlt | hge
           · obtain⟨k0,qn⟩:∃k0,k0+1=gk:=⟨gk-1,by omega⟩
             obtain⟨_,u,e9,hu,d0,d1,zb⟩:=Row.sF (hs.row (.slice (some ⟨IB,0,none⟩) (N+1) (N+1))) (p+1) (by omega);cases e9;rw [aO] at hu;obtain⟨z,Gv,MQ⟩:=Option.map_eq_some_iff.1 hu;subst MQ;obtain⟨ac,cc,al,cl,ap,cp,⟨y1,y2,y3,y4⟩,yz,_,rd⟩:=sT HH.af.1 (hs.ej (A1:=eE r s gs hush x0));have hcl:=HH.af.2.2.2;obtain⟨⟨cb,rfl,x1⟩,_,_⟩:=rd p (by omega)
             have xz:=ay _ _ x1;simp only at xz;rw [hcl] at y1;have hpN:(p:Int)+1<(N:Int)+1:=by omega
             have WR:=hQ hs;have O_:=hQ hst;obtain⟨cz,hcz⟩:∃cz,s.counts.getD p 0=cz:=⟨_,rfl⟩;rw [hcz] at x1;clear hs hst hu Gv rd hcl hcz y2 y3 y4;by_cases hgt:cz<z
             · go_wp2
               go_quiet (fail)
               go_wp2;go_ret;exact⟨O_.af.drewN _,false,rfl,(fun h=>by cases h),(WR.af.drewN _).to⟩
             · go_wp2
               go_quiet (fail)
               go_wp2;go_roundg k0
               case measure=>omega
               case rel=>exact⟨p+1,by omega,congrArg (Value.int .i64) (by omega),O_.af.drewN _,WR.af.drewN _⟩
           · have hpN:¬(p:Int)+1<(N:Int)+1:=by omega
             have WR:=hQ hs;have O_:=hQ hst;clear hs hst;go_wp2;go_ret;exact⟨O_.af,.inr ⟨rfl,Er.af,WR.af.to⟩⟩
        · have hgn:=hgd.af n (by simp)
          obtain⟨g,hg,MR⟩:=Ar HH.af.2.2.1 hgn;have hfit:=fU (HH.af.2.2.1.uH n g hg);have Hf:=hfit.n;obtain⟨j,cp,bp,iG,iE,gX,iF,Pz,hj,q3,y1,y2,oK,d0,d1,d2,d3,d4⟩:=lX HH.af.1 HH.af.2.1 hg (hs.ej (A1:=eE r s gs hush x0));subst Pz;have hcl:=HH.af.2.2.2;rw [hcl] at hj q3;obtain⟨m,hm⟩:∃m,m=T.length:=⟨_,rfl⟩
          have hl1:(T++ [((j:Int)+1)]).length=m+1:=by rw [au, ← hm];rfl
          have PZ:(m:Int)≤1000000:=by
           rw [hl1] at Ip;omega
          have mh:dS [Row 3 1 (.slice ao (m+1) co) (m+1) (T.map (Value.int .i64)++ [.int .i64 ((j:Int)+1)]),Row 4 1 (.slice (some ⟨MB,0,none⟩) (N+1) (N+1)) (N+1) (bs.map Value.bool),Row 3 1 (.slice (some ⟨IB,0,none⟩) (N+1) (N+1)) (N+1) (V.map (Value.int .i64)),eE r s gs hush x0,Pr.own h,F] wz:=by
           have h1:=hs;unfold dX at h1;rw [hl1,aI] at h1;exact h1
          obtain⟨b,u,rfl,hu,d9,_,zb⟩:=Row.sF (mh.row (.slice ao (m+1) co)) m (cf m);rw [bV (by simp [hm]),aH, ← hm,b_] at hu;cases hu;have Px:=Gp (mh.row (.slice (some ⟨b,0,none⟩) (m+1) co));have Un:(m:Int)+1≤(co:Int):=by omega
          obtain⟨_,u,e9,hu,f0,f1,zf⟩:=Row.sF (mh.row (.slice (some ⟨MB,0,none⟩) (N+1) (N+1))) (j+1) (by omega);cases e9;rw [aO] at hu;obtain⟨bv,hb1,hb2⟩:=Option.map_eq_some_iff.1 hu;subst hb2;have Xy:(j:Int)+1<(N:Int)+1:=by omega
          have aaG:(j:Int)<(N:Int):=by omega
          have hN3:(N:Int)≤65536:=by omega
          have hcut:=dS.kS (wO (mh.row (.slice (some ⟨b,0,none⟩) (m+1) co)) (Nat.le_succ m));rw [bW (by simp [hm]),bS (by simp [hm])] at hcut
          have hs2:dS [dX (.slice (some ⟨b,0,none⟩) m co) T,Row 4 1 (.slice (some ⟨MB,0,none⟩) (N+1) (N+1)) (N+1) (bs.map Value.bool),Row 3 1 (.slice (some ⟨IB,0,none⟩) (N+1) (N+1)) (N+1) (V.map (Value.int .i64)),eE r s gs hush x0,Pr.own h,F] wz:=by
           have h1:=hcut.to (M:= [Row 3 1 (.slice (some ⟨b,0,none⟩) m co) m (T.map (Value.int .i64)),Row 4 1 (.slice (some ⟨MB,0,none⟩) (N+1) (N+1)) (N+1) (bs.map Value.bool),Row 3 1 (.slice (some ⟨IB,0,none⟩) (N+1) (N+1)) (N+1) (V.map (Value.int .i64)),eE r s gs hush x0,Pr.own h,F]);rw [hm] at h1 ⊢;exact h1
          have HGD:=hQ (show ∀n∈T,vV look n from fun n hn=>hgd.af n (bf _ hn));have MD:=hQ (show gk=10*bs.count false+(m+1) from by rw [Ip,hl1]);have HKB:=hQ hkb;rw [hl1];have qw:=hQ hst;have HB:=hQ (And.intro hbl hb1);have HM:=hQ hm;have QJ:=hQ hg;clear hs mh hu hcut hgd Ip hl1 hm hst Px hkb hbl hb1 hg hgn;cases bv with
          | true=>
            have j8:=hQ hs2;clear hs2 d0 d1 d2 d3 d4 q3 y1 y2 MR oK;go_wp2;go_roundg (10*bs.count false+m)
            case measure=>rw [MD.af];omega
            case rel=>exact⟨T,bs,V,HB.af.1,by rw [HM.af],by have:=HKB.af;have:=MD.af;omega,HGD,hvb,qw.af,j8.af⟩
          | false=>
            obtain⟨_,_,qy,hit,_⟩:=id oK;simp only [fX,Value.agg.injEq,Array.mk.injEq,List.cons.injEq,and_true,true_and] at qy;obtain⟨rfl,rfl⟩:=qy;have hjb:j+1<bs.length:=by rw [HB.af.1];omega
            have YH:bs[j+1]=false:=by
             have h1:=HB.af.2;rw [ag hjb] at h1;exact Option.some.inj h1
            have yU:(bs.set (j+1) true).count false+1=bs.count false:=by
             have h1:0<bs.count false:=List.count_pos_iff.2 (YH ▸ aE hjb);rw [List.count_set hjb,YH];simp
             omega
            have h7:=dS.kS (Go.Proofs.YtiegeadmgpanoaaGreatDoor.L3.Row.set (hs2.row (.slice (some ⟨MB,0,none⟩) (N+1) (N+1))) (i:=j+1) (by omega) (.bool true));rw [show (bs.map Value.bool).set (j+1) (.bool true)=(bs.set (j+1) true).map Value.bool by rw [bN]] at h7
            obtain⟨j',cp',bp',UI,UJ,UK,UL,aaH,_,q3',y1',y2',UM,d0',d1',d2',d3',d4'⟩:=lX HH.af.1 HH.af.2.1 QJ.af (h7.ej (A1:=eE r s gs hush x0));obtain rfl:j'=j:=by omega
            rw [HH.af.2.2.2] at q3';obtain⟨UI,UK,UJ,UL,qy⟩:∃a b c d,fX g.kind g.level (.slice UI g.items.length UK) (.slice UJ g.data.length UL) g.next=fX g.kind g.level (.slice a g.items.length b) (.slice c g.data.length d) g.next:=⟨_,_,_,_,rfl⟩;have KD:=hQ (MP _ g UM (by omega) _ _ (h7.ej (A1:=eE r s gs hush x0)));have rQ:=hQ h7
            have iN:=hQ (qw.af.setCell ⟨MB,j'+1,none⟩ (.bool true));have HKI:=hQ MR;have J3:=hQ (And.intro hjb yU);clear h7 hs2 qw oK UM MR YH yU d0 d1 d2 d3 d4 q3 y1 y2 qy;go_wp2_with fail
            refine KD.af.mono ?_;rintro e w5 ⟨iL,kv,rfl,gp⟩;obtain⟨ka,kc,rfl⟩:=Row.shape gp;have gY:=dS.mH gp;have se:=hQ gY;have lV:=hQ (iN.af.trans iL);have Gh:=bK (yf g) (Nat.succ_le_succ Hf);obtain⟨K,hK⟩:∃K,lF g=K:=⟨_,rfl⟩;rw [hK] at HKI se Gh ⊢
            have YI:=hQ (show ∀z∈V,0≤z∧z+10*(((bs.set (j'+1) true).count false:Nat):Int)+10≤4096+10*((N:Int)+1) from fun z hz=>by have:=hvb.af z hz;have:=J3.af.2;omega);have UN:=hQ (show 10*(bs.set (j'+1) true).count false+(m+9)<gk from by have:=MD.af;have:=J3.af.2;omega);have HLB:=hQ (show (bs.set (j'+1) true).length=N+1 from by rw [aU];exact HB.af.1)
            clear gp gY iL KD rQ iN d0' d1' d2' d3' d4' q3' y1' y2' hK f0 f1 zf d9 zb hvb HB J3;generalize bs.set (j'+1) true=UO at*;go_wp2
            go_loopg [8,12] K.length (fun k t i wr=> ∃(q:Nat) (T':List Int) (V':List Int),q+k=K.length∧i= .int .i64 q∧T'.length=m+q∧Hid (∀n∈T',vV look n)∧Hid (∀z∈V',0≤z∧z+10*((UO.count false:Nat):Int)+10≤4096+10*((N:Int)+1)+q)∧dN w wr∧dS [dX t T',dX (.slice ka K.length kc) K,Row 4 1 (.slice (some ⟨MB,0,none⟩) (N+1) (N+1)) (N+1) (UO.map Value.bool),Row 3 1 (.slice (some ⟨IB,0,none⟩) (N+1) (N+1)) (N+1) (V'.map (Value.int .i64)),eE r s gs hush x0,Pr.own h,F] wr)
            case atStart=>exact⟨0,T,V,Nat.zero_add _,rfl,by rw [HM.af];rfl,HGD,hQ (fun z hz=>by have:=YI.af z hz;omega),lV.af,se.af.to⟩
            case round=>
             obtain⟨q,T',V',hqk,rfl,htl,hgd,hvb,hst,hs⟩:=hrel;rename World=>wy
             clear se lV;obtain⟨ta,tc,rfl⟩:=Row.shape (hs.ej (A1:=dX u8 T'));rcases aB q K.length with hlt | hge
             · obtain⟨k0,qn⟩:∃k0,k0+1=gk:=⟨gk-1,by omega⟩
               have Ri:(q:Int)<(K.length:Int):=by omega
               obtain⟨kb,u,rfl,hu,d4,_,zk⟩:=Row.sF (hs.row (.slice ka K.length kc)) q hlt;rw [aO,ag hlt] at hu;obtain rfl:Value.int .i64 K[q]=u:=Option.some.inj hu;have YJ:=HKI.af _ (aE hlt);generalize K[q]=c at*;obtain⟨jc,rfl,hjc⟩:=Hz HH.af.1 HH.af.2.1 HH.af.2.2.1 YJ (hs.ej (A1:=eE r s gs hush x0));rw [HH.af.2.2.2] at hjc
               have aaI:(jc:Int)+1<(N:Int)+1:=by omega
               obtain⟨_,u,e9,Nc,f0,f1,zf⟩:=Row.sF (hs.row (.slice (some ⟨IB,0,none⟩) (N+1) (N+1))) (jc+1) (by omega);cases e9;rw [aO] at Nc;obtain⟨z,Gv,MQ⟩:=Option.map_eq_some_iff.1 Nc;subst MQ;have WQ:=hvb.af z (dG Gv);have hN5:(N:Int)≤65536:=by omega
               have hq9:(q:Int)≤9:=by omega
               have aaJ:0≤z:=WQ.1;have aaK:z≤1000000:=by omega
               have hne:=Ef (hs.iQ (A1:=Row 3 1 (.slice (some ⟨kb,0,none⟩) K.length kc) K.length (K.map (Value.int .i64))) (A2:=Row 3 1 (.slice (some ⟨IB,0,none⟩) (N+1) (N+1)) (N+1) (V'.map (Value.int .i64))));have h7:=dS.kS (Go.Proofs.YtiegeadmgpanoaaGreatDoor.L3.Row.set (hs.row (.slice (some ⟨IB,0,none⟩) (N+1) (N+1))) (i:=jc+1) (by omega) (.int .i64 (z+1)))
               rw [show (V'.map (Value.int .i64)).set (jc+1) (.int .i64 (z+1))=(V'.set (jc+1) (z+1)).map (Value.int .i64) by rw [bN]] at h7;have h8:=h7.alloc (.cells #[.int .i64 ((jc:Int)+1)] 3);have H1:=hQ (h8.ej (A1:=dX (.slice ta T'.length tc) T'));have J3:=hQ (eW (wy.setCell ⟨IB,jc+1,none⟩ (.int .i64 (z+1))) [.int .i64 ((jc:Int)+1)] 3 _ rfl)
               rw [World.size_setCell] at J3;have ij:=hQ ((hst.setCell ⟨IB,jc+1,none⟩ (.int .i64 (z+1))).alloc (.cells #[.int .i64 ((jc:Int)+1)] 3));have O9:=hvb;have HZB:=hQ WQ;have HGC:=hQ YJ;have aaL:(T'.length:Int)≤1000100:=by omega
               have Rl:=hQ htl;clear hs h7 h8 hst hu Nc Gv hvb WQ YJ htl
               go_wp2_with (at_builtin;refine eu rfl _ _ _ rfl 3 i0 (.int .i64 0) 1 8 Tryz.underlying22 lk hz0 hz1 jg rfl _ _ _ rfl H1.af ⟨wy.heap.size,0,none⟩ 1 1 [.int .i64 ((jc:Int)+1)] rfl rfl J3.af (by simp [Value.oneCell']) (by simp only [maxLen];omega) (by omega) ?_;intro v7 w7 gp tB _;obtain⟨a7,c7,e7,_,_⟩:=Row.read gp;subst e7;have gY:=(dS.kS gp);have se:=hQ gY;have l9:=hQ (ij.af.eH tB);clear gp gY tB)
               go_roundg k0
               case measure=>omega
               case rel=>
                refine⟨q+1,T'++ [((jc:Int)+1)],V'.set (jc+1) (z+1),by omega,congrArg (Value.int .i64) (by omega),by have:=Rl.af;simp;omega,hQ (fun n hn=> ?_),hQ (fun y hy=> ?_),l9.af,?_⟩
                · rcases aK.1 hn with hn | hn
                  · exact hgd.af n hn
                  · obtain rfl:=aC.1 hn
                    exact HGC.af
                · rcases cC hy with hy | rfl
                  · have:=O9.af y hy;omega
                  · have:=HZB.af;omega
                · have h7:=se.af.to (M:= [Row 3 1 (.slice a7 (T'.length+1) c7) (T'.length+1) (T'.map (Value.int .i64)++ [.int .i64 ((jc:Int)+1)]),dX (.slice (some ⟨kb,0,none⟩) K.length kc) K,Row 4 1 (.slice (some ⟨MB,0,none⟩) (N+1) (N+1)) (N+1) (UO.map Value.bool),Row 3 1 (.slice (some ⟨IB,0,none⟩) (N+1) (N+1)) (N+1) ((V'.set (jc+1) (z+1)).map (Value.int .i64)),eE r s gs hush x0,Pr.own h,F])
                  refine⟨h7.sat.perm ?_⟩;unfold dX;rw [au,aI];rfl
             · have Ri:¬(q:Int)<(K.length:Int):=by omega
               have j8:=hQ hs;have gg:=hQ hst;have O9:=hvb;have Rl:=hQ (And.intro htl hqk);clear hs hst hvb htl hqk;go_wp2;go_roundg (10*UO.count false+T'.length)
               case measure=>have:=UN.af;have:=Rl.af;omega
               case rel=>
                have h1:=UN.af;have h2:=Rl.af;have h3:=HKB.af;exact⟨T',UO,V',HLB.af,rfl,by omega,hgd,hQ (fun z hz=>by have:=O9.af z hz;omega),gg.af,j8.af.to⟩
end Go.Proofs.YtiegeadmgpanoaaGreatDoor.D2
namespace Go.Proofs.YtiegeadmgpanoaaGreatDoor.N9
open ChangeShapes WideShapes ChangeAt RowKit Sl fB Go.Shelf D2 L3 Z3 E4 X5 M8 Y8 X6 D9
attribute [local go_sem] Oper.semAt_some
theorem J7:(Tryz.prog.info? 35).map (·.size)=some 3:=by kernel_rfl
theorem Aw {w:World}{b:Nat}{x y z:Value}{fz:Nat × Nat}(h:w.heap[b]? =some (.cells #[x,y,z] 35 fz)):(loadVar 35 ⟨b,0,none⟩).run Tryz.prog w= .ok (.agg #[x,y,z]) w:=
 run_loadVar_row (P:=Tryz.prog) w b _ _ _ _ _ h Tryz.underlying35 rfl J7
theorem results_cell_tmp {fn:Func}{p u:Tmp}{ty:TypeId}(h:fn.results= #[.cell p ty,.tmp u])(tmps:Array Value)(w:World)(g:Nat)(x y:Value)
 (hp:tmps.getD p undef= .pointer (some ⟨g,0,none⟩)) (hr:(loadVar ty ⟨g,0,none⟩).run Tryz.prog w= .ok x w) (hy:tmps.getD u undef=y):
 (results fn tmps).run Tryz.prog w= .ok (.tuple #[x,y]) w:=by
 have hp':tmps[p]?.getD undef= .pointer (some ⟨g,0,none⟩):=by simpa using hp
 have hy':tmps[u]?.getD undef=y:=by simpa using hy
 simp [results,h,hp',hy',asAddr,Result.andThen,hr]
def MS(look:Int→Option dR)(e:Ending)(P:Prop):Prop:= ∃(t:ri) (b:Bool),e= .returned (.tuple #[pJ t.root t.dT t.items,.bool b])∧(b=true→iW look t.root t.dT t.items=0)∧P
theorem J8(r:Nat)(s:ef)(gs:List dR)(hush:iJ)(x0:RX)(BJ:yk s gs x0)(look:Int→Option dR)(hl:kT s gs look)(j6:iT look)(ts:List ri)(tv:Value)(h:Hp)(ht:oY h tv ts)(which:Int)(F:Pr)(w:World)(hF:dS [eE r s gs hush x0,Pr.own h,F] w):
 Calls Tryz.prog 12 #[.pointer (some ⟨r,0,none⟩),tv,.int .i64 which] w fun e w'=>dN w w'∧MS look e (dS [eE r s gs hush x0,Pr.own h,F] w'):=by
 obtain⟨at',ct,rfl,rd⟩:=yw ht;obtain⟨hs1,_⟩:=hF.fresh [.int .i64 0,.int .i64 0,.int .i64 0] 35 w.heap.size rfl;have ig:=hQ hs1;have c1:=hs1.fx;have eQ:=hQ ((dN.refl w).alloc (.cells [Value.int .i64 0,.int .i64 0,.int .i64 0].toArray 35));by_cases hin:which<0∨(ts.length:Int)≤which
 · clear hF hs1 ht rd BJ hl j6
   by_cases h0:which<0
   all_goals
    have h1:¬which<0→(ts.length:Int)≤which:=by omega
    clear hin;go_enter Tryz.func12,Tryz.ntmps12
    (try have h2:=h1 h0)
    go_wp2;refine bodyPost_ret (results_cell_tmp rfl _ _ w.heap.size (.agg #[.int .i64 0,.int .i64 0,.int .i64 0]) (.bool false) rfl (Aw (ig.af.pts w.heap.size).dL) rfl) rfl ?_;exact⟨eQ.af,⟨0,0,0⟩,false,rfl,(fun h=>by cases h),ig.af.to⟩
 · obtain⟨i,rfl⟩:∃i:Nat,which=(i:Int):=⟨which.toNat,by omega⟩
   have hlt:i<ts.length:=by omega
   have hil:(i:Int)<(ts.length:Int):=by omega
   obtain⟨tb,off,rfl,hc⟩:=rd i hlt;generalize ts[i]=t at*;obtain⟨w0,hw0⟩:∃w0,w.alloc (.cells #[Value.int .i64 0,.int .i64 0,.int .i64 0] 35)=w0:=⟨_,rfl⟩;have hs1:dS [Pr.pts w.heap.size (.cells #[Value.int .i64 0,.int .i64 0,.int .i64 0] 35),eE r s gs hush x0,Pr.own h,F] w0:=hw0 ▸ ig.af;have wu:dN w w0:=hw0 ▸ eQ.af;clear c1 ig eQ;have c1:=hs1.fx;have eQ:=hQ wu;obtain⟨e0,e1,e2⟩:=hc _ (hs1.le (a:=h));have ez:=ay _ _ e0;simp only at ez;have hs2:=hs1.drew.alloc (.cells #[.int .i64 t.root,.int .i64 t.dT,.int .i64 t.items] 35);rw [World.size_drew] at hs2
   have h3:=hs2.ej (A1:=Pr.pts w0.heap.size (.cells #[.int .i64 t.root,.int .i64 t.dT,.int .i64 t.items] 35));have h4:=dS.kS (Row.mk' (T:=35) (k:=3) (b:=w0.heap.size) (cap:=1) (n:=1) (xs:=ky t) (sp:= []) rfl rfl (aD _) (by simp [maxLen]) h3);obtain⟨a,ha,h5⟩:=h4.arena (Row 35 3 (.slice (some ⟨w0.heap.size,0,none⟩) 1 1) 1 (ky t))
   have htr:oY a (.slice (some ⟨w0.heap.size,0,none⟩) 1 1) [t]:=by
    have:=Row.jh ha
    show gj a 3 _ 1 ([t].flatMap ky)
    rw [show [t].flatMap ky=ky t by simp];exact this
   have SD:=hQ (Gu r s gs hush x0 BJ look hl j6 [t] _ a htr (by simp) _ _ (dS.xp (h5.iQ (A1:=eE r s gs hush x0) (A2:=Pr.own a))));have MU:=hQ (eQ.af.drew.alloc (.cells #[.int .i64 t.root,.int .i64 t.dT,.int .i64 t.items] 35));have HW0:=hQ hw0;have HC:=hQ hc;have lK:=hQ hs2;clear hF hs1 wu hs2 h3 h4 h5 ht rd hw0 hin BJ hl j6 hc htr ha
   go_enter Tryz.func12,Tryz.ntmps12
   go_wp2;rw [HW0.af];generalize w.heap.size=A6 at*;refine wS 28 [0,1,2,3,4,5,6,7,8] [(9,[],[0,1,2,3,4,5,6,7]),(10,[],[0,1,2,3,5,6,7]),(11,[12],[5,6,7])] ?_;refine dY _ rfl rfl ?_;simp only [pick,pQ];iterate 9 (go_big_quiet_step (fail))
   refine wpQuiet_nil ?_;refine dK rfl ?_;go_wp2;refine dQ ?_;refine dU ⟨?_,?_⟩
   · exact cQ
   refine dK rfl ?_;go_wp2_with fail
   refine SD.af.mono ?_;rintro e w5 ⟨iL,b,rfl,hb,gu⟩;have gQ:=gu.flat;have mY:=hQ gQ;have HB:=hQ hb;have iM:=hQ (MU.af.trans iL);clear c1;have c1:=gQ.fx;clear e0 e1 e2 ez;obtain⟨e0,e1,e2⟩:=HC.af w5 (gQ.le (a:=h));have ez:=ay _ _ e0;simp only at ez
   have hna:A6≠tb:=fun e=>by
    subst e;have h1:=(gQ.iQ (A1:=Pr.pts A6 (.cells #[Value.int .i64 0,.int .i64 0,.int .i64 0] 35)) (A2:=Pr.own h)).putObj (.cells #[] 35);have h2:=(HC.af _ h1.right.own).1;rw [cell_of_heap h1.dL] at h2;simp at h2
   clear gu gQ hb iL SD MU HC lK;go_wp2;refine dQ ?_;refine dU ⟨?_,?_⟩
   · exact cQ
   refine dK rfl ?_;go_wp2;refine dQ ?_;refine dY _ rfl rfl ?_;simp only [pick,pQ];iterate 1 (go_big_quiet_step (fail))
   refine wpQuiet_nil ⟨?_,?_⟩
   · exact cQ
   refine dW ?_;go_wp2;have h6:=((mY.af.set A6 0 (.int .i64 t.root)).set A6 1 (.int .i64 t.dT)).set A6 2 (.int .i64 t.items);refine bodyPost_ret (results_cell_tmp rfl _ _ A6 (.agg #[.int .i64 t.root,.int .i64 t.dT,.int .i64 t.items]) (.bool b) rfl (Aw (h6.pts A6).dL) rfl) rfl ?_
   exact⟨((iM.af.setCell _ _).setCell _ _).setCell _ _,t,b,rfl,(fun h=>HB.af h t (by simp)),h6.to⟩
end Go.Proofs.YtiegeadmgpanoaaGreatDoor.N9
