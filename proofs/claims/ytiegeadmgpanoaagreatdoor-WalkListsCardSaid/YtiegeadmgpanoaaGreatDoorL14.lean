/- The vault: put, Make's closure, do; the conditions stand as hypotheses. -/
import Derived.Test.YtiegeadmgpanoaaGreatDoorL11
set_option maxRecDepth 100000
set_option maxHeartbeats 16000000
namespace Go.Proofs.YtiegeadmgpanoaaGreatDoor.D2
open ChangeShapes WideShapes ChangeAt RowKit Sl fB L3 Z3
theorem ox {h:Hp}{pv:Value}{g:dR}(hg:fV h pv g):∃pk pl ai mi ci ad md cd nx,pv=fX pk pl (.slice ai mi ci) (.slice ad md cd) nx:=by
 obtain⟨vi,vd,e3,e4,e5⟩:=id hg;obtain⟨xs,_,⟨_,ai,ci,e6,_⟩,_⟩:=id e4;obtain⟨_,ad,cd,e7,_⟩:=id e5;subst e6;subst e7;exact⟨_,_,ai,_,ci,ad,_,cd,_,e3⟩
theorem lD(v:Nat)(s:eC)(x:VX)(ab:Nat)(mark:Int)(wv:Value)(ws:List gI)(n:Int)(hn:1≤n∧n≤65536)(pv:Value)(g:dR)(hg:fV x.h pv g)(hO:po x.h x.f s.on)(hl:ws.length≤65536)(F:Pr)(w:World)
 (hF:Sat ((kr v s x ab mark wv ws).star F) w):
 Calls Tryz.prog 72 #[.pointer (some ⟨v,0,none⟩),.pointer (some ⟨ab,0,none⟩),.int .i64 n,pv] w fun e w'=>
  e= .returned (.tuple #[])∧(∃Fi X,o5 x.h X (n,s.on n)∧Sat ((kr v s { x with f:=fun m=>if m=n then some pv else x.f m } ab mark Fi (ws++ [X])).star F) w')∧dN w w':=by
 obtain⟨pk,pl,ai,mi,ci,ad,md,cd,nx,rfl⟩:=ox hg;have h2:=hF.alloc (.cells #[.int .i64 pk,.int .i64 pl,.slice ai mi ci,.slice ad md cd,.int .i64 nx] 83);have h3:=h2.perm (B:=(kr v s x ab mark wv ws).star ((Pr.pts w.heap.size (.cells #[.int .i64 pk,.int .i64 pl,.slice ai mi ci,.slice ad md cd,.int .i64 nx] 83)).star F)) (by ac_rfl);have C:=hQ (G6 v s x ab mark wv ws n hn hO hl _ _ h3)
 clear h2 h3 hF hO;go_enter Tryz.func72,Tryz.ntmps72
 go_wp2_with fail
 refine C.af.mono ?_;rintro e w1 ⟨rfl,⟨Fi,X,hX,h4⟩,hst⟩
 have h5:Sat ((fD Tryz.prog 3 x.mb x.f).star ((Pr.pts v (.cells #[.pointer (some ⟨x.p,0,none⟩),.map (some x.mb),x.av,.int .i64 s.floor] 108)).star ((Pr.pts w.heap.size (.cells #[.int .i64 pk,.int .i64 pl,.slice ai mi ci,.slice ad md cd,.int .i64 nx] 83)).star
  (((eP x.p s.pool).star ((Row 169 2 x.av s.acts.length (eI x.kA)).star (Pr.own x.h))).star (((Pr.pts ab (.cells #[.int .i64 mark,Fi] 169)).star (Row 194 7 Fi (ws++ [X]).length ((ws++ [X]).flatMap gI.cells))).star F))))) w1:=h4.perm (by unfold kr fc;ac_rfl)
 have q1:w1.cell? ⟨v,1,none⟩=some (.map (some x.mb)):=by rw [cell_of_heap h5.right.dL];rfl
 have hb:=h5.right.right.dL;have p0:w1.cell? ⟨w.heap.size,0,none⟩=some (.int .i64 pk):=by rw [cell_of_heap hb];rfl
 have p1:w1.cell? ⟨w.heap.size,1,none⟩=some (.int .i64 pl):=by rw [cell_of_heap hb];rfl
 have p2:w1.cell? ⟨w.heap.size,2,none⟩=some (.slice ai mi ci):=by rw [cell_of_heap hb];rfl
 have p3:w1.cell? ⟨w.heap.size,3,none⟩=some (.slice ad md cd):=by rw [cell_of_heap hb];rfl
 have p4:w1.cell? ⟨w.heap.size,4,none⟩=some (.int .i64 nx):=by rw [cell_of_heap hb];rfl
 have H5:=hQ h5;have HX:=hQ hX;have eR:=hQ (((dN.refl w).alloc _).trans hst);clear h5 h4 hb hX hst C;go_wp2;refine wS 18 [0,1,2,3,4,5] [(6,[],[])] ?_;iterate 6 (refine fH rfl rfl (fun K hK=> ?_);go_simp;refine hK _ ?_;clear hK K)
 refine dU ?_;refine dK rfl ?_;refine sy rfl _ _ _ _ rfl Tryz.underlying3 Tryz.underlying105 n hn _ rfl rfl rfl H5.af ?_;intro w2 hs2 hg2;have lK:=hQ hs2;have HG:=hQ ((eR.af.drew).eH hg2);clear hs2 hg2;go_wp2;refine dQ (dU ⟨eM,dW ?_⟩);go_wp2;first | refine bodyPost_ret (results_none rfl _ _ _) rfl ?_ | go_end0
 refine⟨rfl,⟨Fi,X,HX.af,?_⟩,HG.af⟩;have h6:Sat ((Pr.pts w.heap.size (.cells #[.int .i64 pk,.int .i64 pl,.slice ai mi ci,.slice ad md cd,.int .i64 nx] 83)).star ((kr v s { x with f:=fun m=>if m=n then some (fX pk pl (.slice ai mi ci) (.slice ad md cd) nx) else x.f m } ab mark Fi (ws++ [X])).star F)) w2:=lK.af.perm (by unfold kr fc;dsimp only;ac_rfl);exact h6.right
end Go.Proofs.YtiegeadmgpanoaaGreatDoor.D2
namespace Go.fB
def eC.made(s:eC)(n:Int)(g:dR):eC:= { s with pool:=s.pool.did n 1,on:=fun m=>if m=n then some g else s.on m }
end Go.fB
namespace Go.Proofs.YtiegeadmgpanoaaGreatDoor.D2
open ChangeShapes WideShapes ChangeAt RowKit Sl fB L3 Z3
def td(v:Nat)(s:eC)(ab:Nat)(mark:Int)(was:List (Int × Option dR)):Pr:=
 Pr.ex fun y:VX × Value × List gI=>(Pr.pure (Wi s y.1∧qQ y.1.h y.2.2 was)).star (kr v s y.1 ab mark y.2.1 y.2.2)
theorem j3 {v:Nat}{s:eC}{ab:Nat}{mark:Int}{was:List (Int × Option dR)}{F:Pr}{w:World}:
 Sat ((td v s ab mark was).star F) w↔∃x wv ws,Wi s x∧qQ x.h ws was∧Sat ((kr v s x ab mark wv ws).star F) w:=by
 unfold td;rw [Sat.ex];constructor
 · rintro⟨⟨x,wv,ws⟩,h⟩
   rw [Pr.dP] at h;obtain⟨⟨h1,h2⟩,h3⟩:=Sat.pure.1 h;exact⟨x,wv,ws,h1,h2,h3⟩
 · rintro⟨x,wv,ws,h1,h2,h3⟩
   refine⟨(x,wv,ws),?_⟩;rw [Pr.dP];exact Sat.pure.2 ⟨⟨h1,h2⟩,h3⟩
theorem N8 {h:Hp}{X:gI}{y:Int × Option dR}(hr:o5 h X y):qQ h [X] [y]:=
 ⟨rfl,fun i h1 h2=>by
   have:i=0:=by simp at h1;omega
   subst this;exact hr⟩
theorem N_ {p:Nat}{s:ef}{F:Pr}{w:World}(h:Sat ((eP p s).star F) w){n:Int}(hn:s.there n):1≤n∧n≤65536:=by
 have:=(kM h).1.n2
 exact⟨hn.1,by have:=hn.2;omega⟩
abbrev fW(vi vd:Value)(next:Int):Array Value:= #[.int .i64 3,.int .i64 0,vi,vd,.int .i64 next]
theorem G_(v:Nat)(s:eC)(ab:Nat)(mark:Int)(VB MB PB:Nat)(m0:Int)(hp:Hp)(vi vd:Value)(d:List Int)(next:Int)(hd:d.length≤65536)(hg:fV hp (.agg (fW vi vd next)) (nG d next))(F:Pr)(w:World)
 (hF:Sat ((td v s ab mark []).star ((Pr.pts VB (.cells #[.pointer (some ⟨v,0,none⟩)] 27)).star ((Pr.pts MB (.cells #[.int .i64 m0] 3)).star ((Pr.pts PB (.cells (fW vi vd next) 83)).star ((Pr.own hp).star F))))) w)
 (hm:s.pool.floor+s.pool.acts.length<1099511627776):
 Calls Tryz.prog 70 #[.pointer (some ⟨ab,0,none⟩),.pointer (some ⟨VB,0,none⟩),.pointer (some ⟨MB,0,none⟩),.pointer (some ⟨PB,0,none⟩)] w fun e w'=>
  dN w w'∧((e= .returned (.int .i64 12)∧(∀m,s.pool.state m≠1)∧Sat ((td v s ab mark []).star ((Pr.pts MB (.cells #[.int .i64 0] 3)).star ((Pr.own hp).star F))) w')∨
   ∃n,e= .returned (.int .i64 0)∧s.pool.state n=1∧(∀m,s.pool.state m=1→n≤m)∧
    Sat ((td v (s.made n (nG d next)) ab mark [(n,s.on n)]).star ((Pr.pts MB (.cells #[.int .i64 n] 3)).star ((Pr.own hp).star F))) w'):=by
 obtain⟨x,wv,ws,ok,oL,hF⟩:=j3.1 hF;obtain⟨Zr,Zs,ee,lk,hb0⟩:=id hg;simp only [fW,fX,Value.agg.injEq,Array.mk.injEq,List.cons.injEq,and_true,true_and] at ee;obtain⟨rfl,rfl⟩:=ee;obtain⟨ai,ci,rfl,_⟩:=oq lk;obtain⟨_,ad,cd,rfl,_⟩:=id hb0;clear lk hb0
 have h1:Sat ((eP x.p s.pool).star ((Pr.pts v (.cells #[.pointer (some ⟨x.p,0,none⟩),.map (some x.mb),x.av,.int .i64 s.floor] 108)).star ((Pr.pts VB (.cells #[.pointer (some ⟨v,0,none⟩)] 27)).star ((Pr.pts MB (.cells #[.int .i64 m0] 3)).star ((Pr.pts PB (.cells (fW (.slice ai 0 ci) (.slice ad d.length cd) next) 83)).star ((Pr.own hp).star
  ((((fD Tryz.prog 3 x.mb x.f).star ((Row 169 2 x.av s.acts.length (eI x.kA)).star (Pr.own x.h)))).star (((Pr.pts ab (.cells #[.int .i64 mark,wv] 169)).star (Row 194 7 wv ws.length (ws.flatMap gI.cells))).star F)))))))) w:=hF.perm (by unfold kr fc;ac_rfl)
 have qv:w.cell? ⟨v,0,none⟩=some (.pointer (some ⟨x.p,0,none⟩)):=by rw [cell_of_heap h1.right.dL];rfl
 have qV:w.cell? ⟨VB,0,none⟩=some (.pointer (some ⟨v,0,none⟩)):=by rw [cell_of_heap h1.right.right.dL];rfl
 have A:=hQ (NU x.p s.pool _ w h1 hm);have HB:=hQ (fun n (hn:s.pool.there n)=>N_ h1 hn);have H1:=hQ h1;clear h1 hF;go_enter Tryz.func70,Tryz.ntmps70
 go_wp2_with fail
 refine A.af.mono ?_;rintro e w1 (⟨rfl,hno,rfl⟩ | ⟨n,rfl,hn,hle,hs,hst⟩)
 · have qM:w.cell? ⟨MB,0,none⟩=some (.int .i64 m0):=by rw [cell_of_heap H1.af.right.right.right.dL];rfl
   have zM:=frozen_of_heap H1.af.right.right.right.dL 0;go_wp2;go_ret;refine⟨(dN.refl w).setCell _ _,.inl ⟨rfl,hno,j3.2 ⟨x,wv,ws,ok,oL,?_⟩⟩⟩
   have h2:=(H1.af.perm (B:=(Pr.pts MB (.cells #[.int .i64 m0] 3)).star ((kr v s x ab mark wv ws).star ((Pr.own hp).star (((Pr.pts VB (.cells #[.pointer (some ⟨v,0,none⟩)] 27)).star ((Pr.pts PB (.cells (fW (.slice ai 0 ci) (.slice ad d.length cd) next) 83)))).star F)))) (by unfold kr fc;ac_rfl)).setCell (i:=0) (.int .i64 0)
   have h3:Sat (((Pr.pts VB (.cells #[.pointer (some ⟨v,0,none⟩)] 27)).star ((Pr.pts PB (.cells (fW (.slice ai 0 ci) (.slice ad d.length cd) next) 83)))).star ((kr v s x ab mark wv ws).star ((Pr.pts MB (.cells #[.int .i64 0] 3)).star ((Pr.own hp).star F)))) _:=h2.perm (show (Pr.pts MB (.cells #[.int .i64 0] 3)).star _=_ from by ac_rfl);exact h3.right
 · have qM:w1.cell? ⟨MB,0,none⟩=some (.int .i64 m0):=by rw [cell_of_heap hs.right.right.right.dL];rfl
   have zM:=frozen_of_heap hs.right.right.right.dL 0
   have s2:=(hs.perm (B:=(Pr.pts MB (.cells #[.int .i64 m0] 3)).star ((kr v { s with pool:=s.pool.did n 1 } x ab mark wv ws).star ((Pr.own hp).star ((Pr.pts VB (.cells #[.pointer (some ⟨v,0,none⟩)] 27)).star ((Pr.pts PB (.cells (fW (.slice ai 0 ci) (.slice ad d.length cd) next) 83)).star F))))) (by unfold kr fc;dsimp only;ac_rfl)).setCell (i:=0) (.int .i64 n)
   have hnb:=HB.af n (ia (by omega:s.pool.state n≠0));have lK:=hQ s2;have Wj:=hQ (And.intro hn hle);clear hn hle hs H1 A HB;have r2:=lK.af.right.right;have eR:=hQ (hst.setCell ⟨MB,0,none⟩ (.int .i64 n));have qV2:(w1.setCell ⟨MB,0,none⟩ (.int .i64 n)).cell? ⟨VB,0,none⟩=some (.pointer (some ⟨v,0,none⟩)):=by rw [cell_of_heap r2.right.dL];rfl
   have qM2:(w1.setCell ⟨MB,0,none⟩ (.int .i64 n)).cell? ⟨MB,0,none⟩=some (.int .i64 n):=by rw [cell_of_heap lK.af.dL];rfl
   have hb:=r2.right.right.dL;have p0:(w1.setCell ⟨MB,0,none⟩ (.int .i64 n)).cell? ⟨PB,0,none⟩=some (.int .i64 3):=by rw [cell_of_heap hb];rfl
   have p1:(w1.setCell ⟨MB,0,none⟩ (.int .i64 n)).cell? ⟨PB,1,none⟩=some (.int .i64 0):=by rw [cell_of_heap hb];rfl
   have p2:(w1.setCell ⟨MB,0,none⟩ (.int .i64 n)).cell? ⟨PB,2,none⟩=some (.slice ai 0 ci):=by rw [cell_of_heap hb];rfl
   have p3:(w1.setCell ⟨MB,0,none⟩ (.int .i64 n)).cell? ⟨PB,3,none⟩=some (.slice ad d.length cd):=by rw [cell_of_heap hb];rfl
   have p4:(w1.setCell ⟨MB,0,none⟩ (.int .i64 n)).cell? ⟨PB,4,none⟩=some (.int .i64 next):=by rw [cell_of_heap hb];rfl
   have A0:hp.le (w1.setCell ⟨MB,0,none⟩ (.int .i64 n)).drew:=r2.drew.own
   have s3:Sat ((kr v { s with pool:=s.pool.did n 1 } x ab mark wv ws).star ((Pr.pts MB (.cells #[.int .i64 n] 3)).star ((Pr.own hp).star (((Pr.pts VB (.cells #[.pointer (some ⟨v,0,none⟩)] 27)).star (Pr.pts PB (.cells (fW (.slice ai 0 ci) (.slice ad d.length cd) next) 83))).star F)))) (w1.setCell ⟨MB,0,none⟩ (.int .i64 n)).drew:=lK.af.drew.perm (show (Pr.pts MB (.cells #[.int .i64 n] 3)).star _=_ from by ac_rfl)
   have C:=hQ (vF hp _ d next hd hg _ _ s3 A0);clear s2 s3 r2 hb A0 hst;go_wp2;refine wS 23 [0,1,2,3] [(4,[],[0,1,2]),(5,[],[])] ?_;iterate 4 (refine fH rfl rfl (fun K hK=> ?_);go_simp;refine hK _ ?_;clear hK K)
   refine dU ?_;refine dK rfl ?_;go_wp2_with fail
   refine C.af.mono ?_;rintro e w3 ⟨pv,rfl,⟨h',xQ,s4⟩,CQ⟩
   have s5:Sat ((Pr.pts VB (.cells #[.pointer (some ⟨v,0,none⟩)] 27)).star ((Pr.pts MB (.cells #[.int .i64 n] 3)).star ((Pr.own x.h).star ((Pr.own h').star
    (((Pr.pts v (.cells #[.pointer (some ⟨x.p,0,none⟩),.map (some x.mb),x.av,.int .i64 s.floor] 108)).star ((eP x.p (s.pool.did n 1)).star ((fD Tryz.prog 3 x.mb x.f).star (Row 169 2 x.av s.acts.length (eI x.kA))))).star
      (((Pr.pts ab (.cells #[.int .i64 mark,wv] 169)).star (Row 194 7 wv ws.length (ws.flatMap gI.cells))).star ((Pr.own hp).star ((Pr.pts PB (.cells (fW (.slice ai 0 ci) (.slice ad d.length cd) next) 83)).star F)))))))) w3:=s4.perm (by unfold kr fc;dsimp only;ac_rfl)
   have t0:w3.cell? ⟨VB,0,none⟩=some (.pointer (some ⟨v,0,none⟩)):=by rw [cell_of_heap s5.dL];rfl
   have t1:w3.cell? ⟨MB,0,none⟩=some (.int .i64 n):=by rw [cell_of_heap s5.right.dL];rfl
   have Zt:Sat ((Pr.own x.h).star ((Pr.own h').star ((Pr.pts VB (.cells #[.pointer (some ⟨v,0,none⟩)] 27)).star ((Pr.pts MB (.cells #[.int .i64 n] 3)).star (((Pr.pts v (.cells #[.pointer (some ⟨x.p,0,none⟩),.map (some x.mb),x.av,.int .i64 s.floor] 108)).star ((eP x.p (s.pool.did n 1)).star ((fD Tryz.prog 3 x.mb x.f).star (Row 169 2 x.av s.acts.length (eI x.kA))))).star
    (((Pr.pts ab (.cells #[.int .i64 mark,wv] 169)).star (Row 194 7 wv ws.length (ws.flatMap gI.cells))).star ((Pr.own hp).star ((Pr.pts PB (.cells (fW (.slice ai 0 ci) (.slice ad d.length cd) next) 83)).star F)))))))) w3:=s5.perm (by ac_rfl)
   obtain⟨sP,s6⟩:=Sat.jT Zt
   have s7:Sat ((kr v { s with pool:=s.pool.did n 1 } { x with h:=x.h.un h' } ab mark wv ws).star ((Pr.pts MB (.cells #[.int .i64 n] 3)).star ((Pr.own hp).star ((Pr.pts PB (.cells (fW (.slice ai 0 ci) (.slice ad d.length cd) next) 83)).star F)))) w3:=by
    have s6b:Sat (((Pr.pts VB (.cells #[.pointer (some ⟨v,0,none⟩)] 27))).star ((kr v { s with pool:=s.pool.did n 1 } { x with h:=x.h.un h' } ab mark wv ws).star ((Pr.pts MB (.cells #[.int .i64 n] 3)).star ((Pr.own hp).star ((Pr.pts PB (.cells (fW (.slice ai 0 ci) (.slice ad d.length cd) next) 83)).star F))))) w3:=s6.perm (by unfold kr fc;dsimp only;ac_rfl);exact s6b.right
   have hO:po (x.h.un h') x.f s.on:=ok.on.sub (Hp.fE _ _);have Qw:fV (x.h.un h') pv (nG d next):=xQ.sub (Hp.fZ sP);have Qx:ws= []:=aM oL.1;subst Qx;have P:=hQ (lD v { s with pool:=s.pool.did n 1 } { x with h:=x.h.un h' } ab mark wv [] n hnb pv (nG d next) Qw hO (by simp) _ w3 s7);have HO:=hQ (And.intro hO Qw)
   have HAC:=hQ (ok.acts.sub (Hp.fE x.h h'));have Zu:=hQ (And.intro ok.f0 ok.fb);have ij:=hQ (eR.af.drew.trans CQ);clear s4 s5 Zt s6 s7 hO xQ Qw C lK ok p0 p1 p2 p3 p4 qV2 qM2 CQ hg;go_wp2;refine dQ (dU ⟨?_,?_⟩)
   · refine d6 ?_ (d6 ?_ (d6 ?_ eM))<;>(refine fj rfl rfl rfl rfl ?_;go_simp;try omega)
   refine dK rfl ?_;go_wp2_with fail
   refine P.af.mono ?_;rintro e w4 ⟨rfl,⟨Fi,X,hX,s8⟩,xC⟩;have HX:=hQ hX;have S8:=hQ s8;clear s8 hX P;go_wp2;refine dQ (dU ⟨eM,dW ?_⟩);go_wp2;go_ret;refine⟨ij.af.trans xC,.inr ⟨n,rfl,Wj.af.1,Wj.af.2,j3.2 ⟨{ x with f:=fun m=>if m=n then some pv else x.f m,h:=x.h.un h' },Fi,[X],⟨HO.af.1.put HO.af.2,HAC.af,Zu.af.1,Zu.af.2⟩,N8 HX.af,?_⟩⟩⟩
   have s9:Sat ((Pr.pts PB (.cells (fW (.slice ai 0 ci) (.slice ad d.length cd) next) 83)).star ((kr v (s.made n (nG d next)) { x with f:=fun m=>if m=n then some pv else x.f m,h:=x.h.un h' } ab mark Fi [X]).star ((Pr.pts MB (.cells #[.int .i64 n] 3)).star ((Pr.own hp).star F)))) w4:=S8.af.perm (by unfold kr fc;dsimp only [eC.made];ac_rfl);exact s9.right
end Go.Proofs.YtiegeadmgpanoaaGreatDoor.D2
namespace Go.fB
def eC.tY(s:eC)(a:yR):eC:= { s with acts:=s.acts++ [a] }
end Go.fB
namespace Go.Proofs.YtiegeadmgpanoaaGreatDoor.D2
open ChangeShapes WideShapes ChangeAt RowKit Sl fB L3 Z3
theorem zD {h:Hp}{xs:List (Int × Value)}{acts:List yR}(ha:rG h xs acts){x:Int × Value}{y:yR}(hr:K7 h x y):rG h (xs++ [x]) (acts++ [y]):=by
 refine⟨by simp [ha.1],fun i h1 h2=> ?_⟩;rcases aB i acts.length with hlt | hge
 · have hx:i<xs.length:=by rw [ha.1];exact hlt
   rw [bz hx,bz hlt];exact ha.2 i hx hlt
 · have h3:i=acts.length:=by simp at h2;omega
   subst h3;have hx:xs.length≤acts.length:=by rw [ha.1];omega
   rw [bj hx,bj hge];simpa using hr
theorem Te {α:Type}(v:Nat)(s:eC)(g:Nat)(Da:Array Value)(R:α→Prop)(S:α→eC)(W:α→List (Int × Option dR))(F':α→Pr)(F:Pr)(w:World)(hF:Sat ((dZ v s).star F) w)
 (hm:s.floor+s.acts.length<1099511627776) (eg:∀args w,(callFunc g args).run Tryz.prog w= .ok (.enter g args) w) (hS:∀z,R z→(S z).acts=s.acts∧(S z).floor=s.floor)
 (hc:∀ab w1,Sat ((td v s ab s.pool.mark []).star F) w1→Calls Tryz.prog g (#[.pointer (some ⟨ab,0,none⟩)]++Da) w1 fun e w'=>
   dN w1 w'∧e= .returned (.int .i64 0)∧∃z,R z∧Sat ((td v (S z) ab s.pool.mark (W z)).star (F' z)) w'):
 Calls Tryz.prog 63 #[.pointer (some ⟨v,0,none⟩),.func (.func g) #[] Da] w fun e w'=>
  dN w w'∧e= .returned (.int .i64 0)∧∃z,R z∧Sat ((dZ v ((S z).tY ⟨s.pool.mark,W z⟩)).star (F' z)) w':=by
 obtain⟨x,ok,hF⟩:=gC.1 hF
 have h1:Sat ((eP x.p s.pool).star ((Pr.pts v (.cells #[.pointer (some ⟨x.p,0,none⟩),.map (some x.mb),x.av,.int .i64 s.floor] 108)).star
  ((((fD Tryz.prog 3 x.mb x.f).star ((Row 169 2 x.av s.acts.length (eI x.kA)).star (Pr.own x.h)))).star F))) w:=hF.perm (by unfold fc;ac_rfl)
 have qv:w.cell? ⟨v,0,none⟩=some (.pointer (some ⟨x.p,0,none⟩)):=by rw [cell_of_heap h1.right.dL];rfl
 have C:=hQ (Bd x.p s.pool _ w h1);have HF:=hQ hF;have OK:=hQ ok;have hfl:=ok.f0;clear h1 hF ok;go_enter Tryz.func63,Tryz.ntmps63
 go_wp2_with fail
 refine C.af.mono ?_;rintro e w1 ⟨rfl,hst,hh⟩;have h2:=(HF.af.ext (w':=w1) (fun _ _=>by rw [hh])).alloc (.cells #[.int .i64 s.pool.mark,.slice none 0 0] 169)
 have h3:Sat ((td v s w1.heap.size s.pool.mark []).star F) _:=j3.2 ⟨x,.slice none 0 0,[],OK.af,⟨rfl,fun i h=>absurd h (by simp)⟩,h2.perm (by
  unfold kr
  rw [show (Row 194 7 (.slice none 0 0) ([]:List gI).length (([]:List gI).flatMap gI.cells))=Pr.emp from Row.nil _ _,Pr.ei]
  ac_rfl)⟩
 have D:=hQ (hc _ _ h3);have eR:=hQ (hst.alloc (.cells #[.int .i64 s.pool.mark,.slice none 0 0] 169));clear h2 h3 hst hh HF C qv hc OK;go_wp2_with fail
 refine(D.af).mono ?_;rintro e w2 ⟨jq,rfl,z,hR,h4⟩;obtain⟨x2,wv,ws,tJ,oL,h5⟩:=j3.1 h4;obtain⟨eA,eF⟩:=hS z hR
 have h6:Sat ((Row 169 2 x2.av (S z).acts.length (eI x2.kA)).star ((Pr.pts v (.cells #[.pointer (some ⟨x2.p,0,none⟩),.map (some x2.mb),x2.av,.int .i64 (S z).floor] 108)).star ((Pr.pts w1.heap.size (.cells #[.int .i64 s.pool.mark,wv] 169)).star ((Row 194 7 wv ws.length (ws.flatMap gI.cells)).star (((eP x2.p (S z).pool).star ((fD Tryz.prog 3 x2.mb x2.f).star (Pr.own x2.h))).star (F' z)))))) w2:=h5.perm (by unfold kr fc;ac_rfl)
 rw [eA,eF] at h6;obtain⟨aw,cw,ew,_,_⟩:=Row.read h6.right.right.right;obtain⟨aa,ca,ea,_,_⟩:=Row.read h6;have qa:w2.cell? ⟨v,2,none⟩=some x2.av:=by rw [cell_of_heap h6.right.dL];rfl
 have q0:w2.cell? ⟨w1.heap.size,0,none⟩=some (.int .i64 s.pool.mark):=by rw [cell_of_heap h6.right.right.dL];rfl
 have q1:w2.cell? ⟨w1.heap.size,1,none⟩=some wv:=by rw [cell_of_heap h6.right.right.dL];rfl
 have z0:=h6.right.lt;have z1:=h6.right.right.lt;rw [ea] at qa h6;have H6:=hQ h6;have HO:=hQ (And.intro tJ oL);have fa:=hQ (eR.af.trans jq);have Xt:=hQ (And.intro eA eF);have Xu:=hQ hR;have HEW:=hQ ew;have Xv:=hQ ea;have e1:wv= .slice aw ws.length cw:=ew;clear h4 h5 h6 D jq eR tJ oL hS eA eF hR ew ea;subst e1
 have hnew:=hQ (eW w2 [.int .i64 s.pool.mark,.slice aw ws.length cw] 169 _ rfl);have H7:=hQ (H6.af.alloc (.cells #[.int .i64 s.pool.mark,.slice aw ws.length cw] 169)).right;clear H6;go_wp2;refine wS 31 [0,1,2,3,4,5] [(6,[],[0,1,2,3,4]),(7,[8,9],[0,1,2,3]),(10,[],[8])] ?_;iterate 6 (refine fH rfl rfl (fun K hK=> ?_);go_simp;refine hK _ ?_;clear hK K)
 refine dU ?_;refine dK rfl ?_;go_wp2;refine dQ (dU ⟨?_,?_⟩)
 · refine d6 ?_ (d6 ?_ (d6 ?_ (d6 ?_ (d6 ?_ eM))))<;>(refine fj rfl rfl rfl rfl ?_;go_simp;try omega)
 refine dK rfl ?_;obtain⟨i0,hi,hz0,hz1,jg⟩:=info_parts CU;refine eu rfl _ _ _ rfl 169 i0 (.agg #[.int .i64 0,.slice none 0 0]) 2 32 Tryz.underlying106 hi hz0 hz1 jg rfl _ _ _ rfl H7.af ⟨w2.heap.size,0,none⟩ 1 1 _ rfl rfl hnew.af (by simp [Value.oneCell']) (by simp only [maxLen];omega) (by omega) ?_;intro v' w3 hJ hgr _;obtain⟨a2,c2,Cv,_,_⟩:=Row.read hJ
 subst Cv;have hp:=hJ.right;have y2:=frozen_of_heap hp.dL 2;have y2c:w3.cell? ⟨v,2,none⟩=some (.slice aa s.acts.length ca):=by rw [cell_of_heap hp.dL];rfl
 have yp:=hp.lt;have ja:=hQ hJ;have HG:=hQ (((fa.af.alloc (.cells #[.int .i64 s.pool.mark,.slice aw ws.length cw] 169)).drew).eH hgr);clear hJ hp hgr q0 q1 qa z0 z1 H7 hnew;go_wp2;refine dQ ?_;iterate 2 (refine fH rfl rfl (fun K hK=> ?_);go_simp;refine hK _ ?_;clear hK K)
 refine dU ⟨?_,?_⟩
 · refine d6 ?_ (d6 ?_ (d6 ?_ (d6 ?_ eM)))<;>(refine fj rfl rfl rfl rfl ?_;go_simp;try omega)
 refine dK rfl ?_;go_wp2;refine dQ (dU ⟨?_,dW ?_⟩)
 · refine d6 ?_ eM<;>(refine fj rfl rfl rfl rfl ?_;go_simp;try omega)
 go_wp2;go_ret;refine⟨HG.af.setCell _ _,rfl,z,Xu.af,?_⟩
 have h8:Sat ((Pr.pts v (.cells #[.pointer (some ⟨x2.p,0,none⟩),.map (some x2.mb),.slice a2 (s.acts.length+1) c2,.int .i64 s.floor] 108)).star ((Row 169 2 (.slice a2 (s.acts.length+1) c2) (s.acts.length+1) (eI x2.kA++ [.int .i64 s.pool.mark,.slice aw ws.length cw])).star ((Pr.pts w1.heap.size (.cells #[.int .i64 s.pool.mark,.slice aw ws.length cw] 169)).star ((Row 194 7 (.slice aw ws.length cw) ws.length (ws.flatMap gI.cells)).star (((eP x2.p (S z).pool).star ((fD Tryz.prog 3 x2.mb x2.f).star (Pr.own x2.h))).star (F' z)))))) _:=(ja.af.perm (Pr.eD _ _ _)).setCell (i:=2) (.slice a2 (s.acts.length+1) c2)
 have h9:Sat ((Row 194 7 (.slice aw ws.length cw) ws.length (ws.flatMap gI.cells)).star ((Pr.own x2.h).star ((Pr.pts v (.cells #[.pointer (some ⟨x2.p,0,none⟩),.map (some x2.mb),.slice a2 (s.acts.length+1) c2,.int .i64 s.floor] 108)).star ((Row 169 2 (.slice a2 (s.acts.length+1) c2) (s.acts.length+1) (eI x2.kA++ [.int .i64 s.pool.mark,.slice aw ws.length cw])).star ((Pr.pts w1.heap.size (.cells #[.int .i64 s.pool.mark,.slice aw ws.length cw] 169)).star ((eP x2.p (S z).pool).star ((fD Tryz.prog 3 x2.mb x2.f).star (F' z)))))))) _:=h8.perm (by ac_rfl)
 obtain⟨h2,hrow,h10⟩:=wP (Q:=fun y=>gj y 7 (.slice aw ws.length cw) ws.length (ws.flatMap gI.cells)) h9 (fun y hy=>Row.jh hy);obtain⟨sP,h11⟩:=Sat.jT (h10.perm (Pr.eD _ _ _))
 have h12:Sat ((Pr.pts w1.heap.size (.cells #[.int .i64 s.pool.mark,.slice aw ws.length cw] 169)).star ((Pr.own (x2.h.un h2)).star (((Pr.pts v (.cells #[.pointer (some ⟨x2.p,0,none⟩),.map (some x2.mb),.slice a2 (s.acts.length+1) c2,.int .i64 s.floor] 108)).star ((Row 169 2 (.slice a2 (s.acts.length+1) c2) (s.acts.length+1) (eI x2.kA++ [.int .i64 s.pool.mark,.slice aw ws.length cw])).star ((eP x2.p (S z).pool).star (fD Tryz.prog 3 x2.mb x2.f)))).star (F' z)))) _:=h11.perm (by ac_rfl)
 obtain⟨tJ,oL⟩:=HO.af;obtain⟨eA,eF⟩:=Xt.af;refine gC.2 ⟨{ x2 with av:= .slice a2 (s.acts.length+1) c2,kA:=x2.kA++ [(s.pool.mark,.slice aw ws.length cw)],h:=x2.h.un h2 },⟨tJ.on.sub (Hp.fE _ _),?_,?_,?_⟩,?_⟩
 · refine zD (tJ.acts.sub (Hp.fE _ _)) ⟨rfl,ws,?_,oL.sub (Hp.fE _ _)⟩
   have hl:(W z).length=ws.length:=oL.1.symm;dsimp only;rw [hl];exact hrow.sub (Hp.fZ sP)
 · exact tJ.f0
 · show (S z).floor+(((S z).acts++ [_]).length:Nat)≤ _
   rw [eA,eF,au];simp only [List.length_cons,List.length_nil];omega
 · refine h12.right.perm ?_
   unfold fc
   have e1:((S z).tY ⟨s.pool.mark,W z⟩).acts.length=s.acts.length+1:=by
    show ((S z).acts++ [_]).length=_
    rw [eA,au];rfl
   have e2:((S z).tY ⟨s.pool.mark,W z⟩).floor=s.floor:=eF
   have e3:eI (x2.kA++ [(s.pool.mark,.slice aw ws.length cw)])=eI x2.kA++ [.int .i64 s.pool.mark,.slice aw ws.length cw]:=by
    unfold eI;rw [aN];rfl
   dsimp only;rw [e1,e2,e3];show _=(Pr.star _ ((eP x2.p (S z).pool).star _)).star _
   ac_rfl
end Go.Proofs.YtiegeadmgpanoaaGreatDoor.D2
namespace Go.Proofs.YtiegeadmgpanoaaGreatDoor.D2
open ChangeShapes WideShapes ChangeAt RowKit Sl fB L3 Z3
theorem Oa(v:Nat)(s:eC)(hp:Hp)(vi vd:Value)(d:List Int)(next:Int)(hd:1≤d.length∧d.length≤480)(hx:next=0∨1≤next∧next≤65536)(hg:fV hp (.agg (fW vi vd next)) (nG d next))(F:Pr)(w:World)
 (hF:Sat ((dZ v s).star ((Pr.own hp).star F)) w) (hfree:∃m,s.pool.state m=1) (hm:s.pool.floor+s.pool.acts.length<1099511627776) (hm2:s.floor+s.acts.length<1099511627776):
 Calls Tryz.prog 38 #[.pointer (some ⟨v,0,none⟩),.agg (fW vi vd next)] w fun e w'=>
  dN w w'∧∃n,e= .returned (.tuple #[.int .i64 n,.int .i64 0])∧(s.pool.state n=1∧∀m,s.pool.state m=1→n≤m)∧
   Sat ((dZ v ((s.made n (nG d next)).tY ⟨s.pool.mark,[(n,s.on n)]⟩)).star ((Pr.own hp).star F)) w':=by
 obtain⟨Zr,Zs,ee,lk,hb0⟩:=id hg;simp only [fW,fX,Value.agg.injEq,Array.mk.injEq,List.cons.injEq,and_true,true_and] at ee;obtain⟨rfl,rfl⟩:=ee;obtain⟨ai,ci,rfl,_⟩:=oq lk;obtain⟨_,ad,cd,rfl,_⟩:=id hb0;clear lk hb0;have es:(w.alloc (.cells #[.pointer (some ⟨v,0,none⟩)] 27)).heap.size=w.heap.size+1:=by simp
 have h1:=(hF.alloc (.cells #[.pointer (some ⟨v,0,none⟩)] 27)).alloc (.cells (fW (.slice ai 0 ci) (.slice ad d.length cd) next) 83);rw [es] at h1;have HC:=fun wx=>hQ (xq ai ad ci d.length cd next hd hx wx)
 have H1:=hQ h1;clear h1 hF es;go_enter Tryz.func38,Tryz.ntmps38
 go_wp2_with fail
 refine(HC _).af.mono ?_;rintro e w1 ⟨rfl,ho⟩;have h2:=H1.af.only ho;have h3:=h2.alloc (.cells #[.int .i64 0] 3)
 have h4:=h3.perm (B:=(dZ v s).star ((Pr.pts w.heap.size (.cells #[.pointer (some ⟨v,0,none⟩)] 27)).star ((Pr.pts w1.heap.size (.cells #[.int .i64 0] 3)).star ((Pr.pts (w.heap.size+1) (.cells (fW (.slice ai 0 ci) (.slice ad d.length cd) next) 83)).star ((Pr.own hp).star F))))) (by ac_rfl)
 have q0:(w1.alloc (.cells #[.int .i64 0] 3)).cell? ⟨w.heap.size,0,none⟩=some (.pointer (some ⟨v,0,none⟩)):=by rw [cell_of_heap h4.right.dL];rfl
 have D:=Te v s 70 #[.pointer (some ⟨w.heap.size,0,none⟩),.pointer (some ⟨w1.heap.size,0,none⟩),.pointer (some ⟨w.heap.size+1,0,none⟩)] (fun n:Int=>s.pool.state n=1∧∀m,s.pool.state m=1→n≤m)
  (fun n=>s.made n (nG d next)) (fun n=> [(n,s.on n)]) (fun n=>(Pr.pts w1.heap.size (.cells #[.int .i64 n] 3)).star ((Pr.own hp).star F)) _ _ h4 hm2 (fun _ _=>rfl) (fun z _=>⟨rfl,rfl⟩) (fun ab wx hwx=>
    (G_ v s ab s.pool.mark w.heap.size w1.heap.size (w.heap.size+1) 0 hp (.slice ai 0 ci) (.slice ad d.length cd) d next (by omega) hg F wx hwx hm).mono (by
      rintro e w' ⟨hst,(⟨_,hno,_⟩ | ⟨n,e1,e2,e3,e4⟩)⟩
      · obtain⟨m,hm⟩:=hfree
        exact absurd hm (hno m)
      · exact⟨hst,e1,n,⟨e2,e3⟩,e4⟩))
 have HD:=hQ D;have eR:=hQ (((((dN.refl w).alloc (.cells #[.pointer (some ⟨v,0,none⟩)] 27)).alloc (.cells (fW (.slice ai 0 ci) (.slice ad d.length cd) next) 83)).trans ho.st).alloc (.cells #[.int .i64 0] 3));clear D h4 h3 h2 ho H1 HC;go_wp2_with fail
 refine HD.af.mono ?_;rintro e w2 ⟨jq,rfl,n,hR,h5⟩;have h6:=h5.perm (Pr.eD _ _ _);have q1:w2.cell? ⟨w1.heap.size,0,none⟩=some (.int .i64 n):=by rw [cell_of_heap h6.dL];rfl
 have H6:=hQ h6.right;clear h5 h6;go_wp2;go_ret2;exact⟨eR.af.trans jq,n,rfl,hR,H6.af⟩
theorem gd {fn:Func}{p u:Tmp}{ty:TypeId}(h:fn.results= #[.cell p ty,.tmp u])(tmps:Array Value)(w:World)(g:Nat)(cs:Array Value)
 (hp:tmps.getD p undef= .pointer (some ⟨g,0,none⟩)) (hr:(loadVar ty ⟨g,0,none⟩).run Tryz.prog w= .ok (.agg cs) w):
 (results fn tmps).run Tryz.prog w= .ok (.tuple #[.agg cs,tmps.getD u undef]) w:=by
 rw [results_cell_tmp h,hp];simp [asAddr,Result.andThen,hr]
theorem zE(v:Nat)(s:eC)(n:Int)(F:Pr)(w:World)(hF:Sat ((dZ v s).star F) w)(h0:s.pool.count n=0):
 Calls Tryz.prog 45 #[.pointer (some ⟨v,0,none⟩),.int .i64 n] w fun e w'=>e= .returned (.tuple #[jY,.int .i64 15])∧eV w w':=by
 obtain⟨x,ok,hF⟩:=gC.1 hF;have ho:eV w (w.alloc (.cells #[.int .i64 0,.int .i64 0,.slice none 0 0,.slice none 0 0,.int .i64 0] 83)):=(eV.refl w).alloc _
 have h1:Sat ((eP x.p s.pool).star ((Pr.pts v (.cells #[.pointer (some ⟨x.p,0,none⟩),.map (some x.mb),x.av,.int .i64 s.floor] 108)).star
  ((((fD Tryz.prog 3 x.mb x.f).star ((Row 169 2 x.av s.acts.length (eI x.kA)).star (Pr.own x.h)))).star F))) w:=hF.perm (by unfold fc;ac_rfl)
 have qv:w.cell? ⟨v,0,none⟩=some (.pointer (some ⟨x.p,0,none⟩)):=by rw [cell_of_heap h1.right.dL];rfl
 have zv:=h1.right.lt;have hh:=mq w (.cells #[.int .i64 0,.int .i64 0,.slice none 0 0,.slice none 0 0,.int .i64 0] 83);have C:=hQ (pX x.p s.pool n _ _ (h1.only ho));rw [h0] at C;have HH:=hQ hh;have HO:=hQ ho;clear h1 hF ok hh ho;go_enter Tryz.func45,Tryz.ntmps45
 go_wp2_with fail
 refine C.af.mono ?_;rintro e w1 ⟨rfl,rfl⟩;go_wp2;refine bodyPost_ret (gd rfl _ _ w.heap.size _ rfl (run_loadVar_row _ w.heap.size _ _ _ _ _ HH.af Tryz.underlying83 rfl jW)) rfl ?_;exact⟨rfl,HO.af⟩
theorem IP(v:Nat)(s:eC)(n:Int)(hn:1≤n∧n≤65536)(d:List Int)(next:Int)(hd:d.length≤65536)(F:Pr)(w:World)(hF:Sat ((dZ v s).star F) w)(h0:s.pool.count n≠0)(sQ:s.on n=some (nG d next)):
 Calls Tryz.prog 45 #[.pointer (some ⟨v,0,none⟩),.int .i64 n] w fun e w'=>
  dN w w'∧∃pv,e= .returned (.tuple #[pv,.int .i64 0])∧∃h',fV h' pv (nG d next)∧Sat ((Pr.own h').star ((dZ v s).star F)) w':=by
 obtain⟨x,ok,hF⟩:=gC.1 hF;have ho:eV w (w.alloc (.cells #[.int .i64 0,.int .i64 0,.slice none 0 0,.slice none 0 0,.int .i64 0] 83)):=(eV.refl w).alloc _
 have h1:Sat ((eP x.p s.pool).star ((Pr.pts v (.cells #[.pointer (some ⟨x.p,0,none⟩),.map (some x.mb),x.av,.int .i64 s.floor] 108)).star
  ((((fD Tryz.prog 3 x.mb x.f).star ((Row 169 2 x.av s.acts.length (eI x.kA)).star (Pr.own x.h)))).star F))) w:=hF.perm (by unfold fc;ac_rfl)
 have qv:w.cell? ⟨v,0,none⟩=some (.pointer (some ⟨x.p,0,none⟩)):=by rw [cell_of_heap h1.right.dL];rfl
 have qm:w.cell? ⟨v,1,none⟩=some (.map (some x.mb)):=by rw [cell_of_heap h1.right.dL];rfl
 have zv:=h1.right.lt;have C:=hQ (pX x.p s.pool n _ _ (h1.only ho));have hm:=(h1.only ho).perm (B:=(fD Tryz.prog 3 x.mb x.f).star ((eP x.p s.pool).star ((Pr.pts v (.cells #[.pointer (some ⟨x.p,0,none⟩),.map (some x.mb),x.av,.int .i64 s.floor] 108)).star ((Row 169 2 x.av s.acts.length (eI x.kA)).star ((Pr.own x.h).star F))))) (by ac_rfl);have hO:=ok.on n;rw [sQ] at hO
 obtain⟨pv,hf,xQ⟩:=hO;have hne:(s.pool.count n == 0)=false:=by rw [beq_eq_false_iff_ne];exact h0
 have h2:=hF.alloc (.cells #[.int .i64 0,.int .i64 0,.slice none 0 0,.slice none 0 0,.int .i64 0] 83)
 have D:=hQ (vF x.h pv d next hd xQ _ _ h2 (hm.perm (B:=(Pr.own x.h).star ((fD Tryz.prog 3 x.mb x.f).star ((eP x.p s.pool).star ((Pr.pts v (.cells #[.pointer (some ⟨x.p,0,none⟩),.map (some x.mb),x.av,.int .i64 s.floor] 108)).star ((Row 169 2 x.av s.acts.length (eI x.kA)).star F))))) (by ac_rfl)).own);have HM:=hQ hm;have HO:=hQ ho;have OK:=hQ ok;have Nh:=hQ hf
 clear h1 hF ok ho hm hf xQ h2;go_enter Tryz.func45,Tryz.ntmps45
 go_wp2_with fail
 refine C.af.mono ?_;rintro e w1 ⟨rfl,rfl⟩;generalize s.pool.count n=k at*;go_wp2_with (at_lookup;refine nb rfl _ _ _ false rfl Tryz.underlying3 Tryz.underlying105 jY (nV _) n hn rfl rfl HM.af ?_;rw [Nh.af])
 refine D.af.mono ?_;rintro e w1 ⟨zF,rfl,⟨h',hp',h3⟩,hst⟩;obtain⟨pk,pl,ai,mi,ci,ad,md,cd,nx,rfl⟩:=ox hp';have h4:=h3.perm (B:=(Pr.pts w.heap.size (.cells #[.int .i64 0,.int .i64 0,.slice none 0 0,.slice none 0 0,.int .i64 0] 83)).star ((Pr.own h').star ((fc v s x).star F))) (by ac_rfl);have f0:w1.cell? ⟨w.heap.size,0,none⟩=some (.int .i64 0):=by rw [cell_of_heap h4.dL];rfl
 have f1:w1.cell? ⟨w.heap.size,1,none⟩=some (.int .i64 0):=by rw [cell_of_heap h4.dL];rfl
 have f2:w1.cell? ⟨w.heap.size,2,none⟩=some (.slice none 0 0):=by rw [cell_of_heap h4.dL];rfl
 have f3:w1.cell? ⟨w.heap.size,3,none⟩=some (.slice none 0 0):=by rw [cell_of_heap h4.dL];rfl
 have f4:w1.cell? ⟨w.heap.size,4,none⟩=some (.int .i64 0):=by rw [cell_of_heap h4.dL];rfl
 have z0:=frozen_of_heap h4.dL 0;have z1:=frozen_of_heap h4.dL 1;have z2:=frozen_of_heap h4.dL 2;have z3:=frozen_of_heap h4.dL 3;have z4:=frozen_of_heap h4.dL 4;have s6:=((((h4.setCell (i:=0) (.int .i64 pk)).setCell (i:=1) (.int .i64 pl)).setCell (i:=2) (.slice ai mi ci)).setCell (i:=3) (.slice ad md cd)).setCell (i:=4) (.int .i64 nx)
 have s7:Sat ((Pr.pts w.heap.size (.cells #[.int .i64 pk,.int .i64 pl,.slice ai mi ci,.slice ad md cd,.int .i64 nx] 83)).star ((Pr.own h').star ((fc v s x).star F))) _:=s6;have S7:=hQ s7;have eR:=hQ (HO.af.st.trans hst);have HP:=hQ hp';clear h3 h4 s6 s7 hst hp' C D HM Nh;go_wp2
 refine bodyPost_ret (gd rfl _ _ w.heap.size _ rfl (run_loadVar_row _ w.heap.size _ _ _ _ _ S7.af.dL Tryz.underlying83 rfl jW)) rfl ?_;exact⟨((((eR.af.setCell _ _).setCell _ _).setCell _ _).setCell _ _).setCell _ _,_,rfl,h',HP.af,(gC.2 ⟨x,OK.af,S7.af.right.perm (Pr.eD _ _ _)⟩).perm (Pr.eD _ _ _)⟩
abbrev aak(refs:Int)(pages:Nat):eC:=⟨fA refs (List.replicate pages 0) 0,fun _=>none,[],0⟩
end Go.Proofs.YtiegeadmgpanoaaGreatDoor.D2
namespace Go.fB
theorem Qy {s:ef}(ok:hU s){i:Nat}(hi:i<s.counts.length):s.there (i+1)∧s.state (i+1)=gq s.counts[i] (s.last[i]'(by rw [ok.len];exact hi)):=by
 have ht:s.there ((i:Int)+1):=⟨by omega,by omega⟩;refine⟨ht,?_⟩;have hl:i<s.last.length:=by rw [ok.len];exact hi
 rw [jS ht];unfold ef.count ef.lasts;rw [if_pos ht,show ((i:Int)+1).toNat-1=i by omega,az,az,ag hi,ag hl];rfl
theorem Bm {s:ef}(ok:hU s){k:Int}(h:s.many k≠0):∃n,s.state n=k:=by
 unfold ef.many at h;cases hl:(s.counts.zip s.last).filter fun x=>gq x.1 x.2 == k with
 | nil=>rw [hl] at h;simp at h
 | cons x l=>
   have hx:x∈(s.counts.zip s.last).filter fun x=>gq x.1 x.2 == k:=by rw [hl];simp
   obtain⟨h1,h2⟩:=bm.1 hx;obtain⟨i,hi,e⟩:=bF h1;have hc:i<s.counts.length:=by simp at hi;omega
   refine⟨(i:Int)+1,?_⟩;rw [(Qy ok hc).2];rw [dp] at e;subst e;simpa using h2
theorem yT {s:ef}(ok:hU s){n:Int}(h:s.state n=1):s.lasts n=false:=by
 have h0:=jd ok h;rw [jS (ia (by omega)),h0] at h;cases hl:s.lasts n with
 | false=>rfl
 | true=>rw [hl] at h;simp [gq] at h
theorem xR {s:ef}(ok:hU s){n:Int}(h:s.state n=1):(s.did n 1).many 1+1=s.many 1:=by
 have h0:=jd ok h;have h1:=yT ok h;have ht:=ia (by omega:s.state n≠0);have:=zl ok (b:=1) ht 1
 rw [h,h0,h1] at this;show (s.turn n 1).many 1+1=_
 simpa [gq] using this
def eC.make(s:eC)(n:Int)(g:dR):eC:=(s.made n g).tY ⟨s.pool.mark,[(n,s.on n)]⟩
inductive Steps : eC → eC → Prop where
  | refl (s : eC) : Steps s s
  | step {s t : eC} (n : Int) (g : dR) : Steps s t → t.pool.state n = 1 → t.pool.count n = 0 → Steps s (t.make n g)
structure xT(s s':eC)(ns:List Int):Prop where
 desc:ns.Pairwise (fun a b=>b<a)
 free:∀n∈ns,s.pool.state n=1
 cnt:∀n∈ns,s'.pool.count n=1
 same:∀n,n ∉ ns→s'.pool.count n=s.pool.count n∧s'.on n=s.on n
 low:∀m,s'.pool.state m=1→∀n∈ns,n<m
 last:s'.pool.last=s.pool.last
 refs:s'.pool.refs=s.pool.refs
 len:s'.pool.counts.length=s.pool.counts.length
 many:s'.pool.many 1+ns.length=s.pool.many 1
 pf:s'.pool.floor=s.pool.floor
 pa:s'.pool.acts.length=s.pool.acts.length+ns.length
 vf:s'.floor=s.floor
 va:s'.acts.length=s.acts.length+ns.length
 steps:Steps s s'
theorem xT.refl(s:eC):xT s s []:=
 ⟨List.Pairwise.nil,by simp,by simp,fun _ _=>⟨rfl,rfl⟩,by simp,rfl,rfl,rfl,rfl,rfl,rfl,rfl,rfl,.refl s⟩
theorem xT.step {s t:eC}{ns:List Int}(h:xT s t ns)(ok:hU t.pool){n:Int}(hn:t.pool.state n=1)(hle:∀m,t.pool.state m=1→n≤m)(g:dR):xT s (t.make n g) (n :: ns):=by
 have ht:=ia (by omega:t.pool.state n≠0);have h0:=jd ok hn;have Wk:n ∉ ns:=fun hm=>by have:=h.cnt n hm;omega
 have yU:∀m,(t.make n g).pool.count m=if m=n then 1 else t.pool.count m:=fun m=>by
  have:=pn (s:=t.pool) (b:=1) (m:=m) ht
  rw [h0] at this;exact this
 refine⟨cF.2 ⟨fun m hm=>h.low n hn m hm,h.desc⟩,?_,?_,?_,?_,h.last,h.refs,?_,?_,h.pf,?_,h.vf,?_,.step n g h.steps hn h0⟩
 · intro m hm
   rcases aR.1 hm with rfl | hm
   · have hs:=(h.same m Wk).1
     have hts:s.pool.there m:=⟨ht.1,by have:=ht.2;have:=h.len;omega⟩;have e1:s.pool.lasts m=t.pool.lasts m:=by unfold ef.lasts;rw [h.last]
     rw [jS hts,e1, ← hs, ← jS ht];exact hn
   · exact h.free m hm
 · intro m hm
   rw [yU];rcases aR.1 hm with rfl | hm
   · rw [if_pos rfl]
   · split
     · rfl
     · exact h.cnt m hm
 · intro m hm
   have hm1:m≠n:=fun e=>hm (by rw [e];simp)
   have hm2:m ∉ ns:=fun e=>hm (by simp [e])
   rw [yU,if_neg hm1];refine⟨(h.same m hm2).1,?_⟩;show (if m=n then some g else t.on m)=_
   rw [if_neg hm1];exact(h.same m hm2).2
 · intro m hm k hk
   have hs:=rD (s:=t.pool) (b:=1) (m:=m) ht;have hm':(t.pool.did n 1).state m=1:=hm;rw [hm'] at hs;by_cases Sb:m=n
   · rw [if_pos Sb,h0] at hs
     unfold gq at hs;simp at hs
     split at hs<;>omega
   · rw [if_neg Sb] at hs
     rcases aR.1 hk with rfl | hk
     · have:=hle m hs.symm;omega
     · exact h.low m hs.symm k hk
 · show (t.pool.counts.set _ _).length=_
   rw [aU];exact h.len
 · have h1:=xR ok hn
   have h2:=h.many;show (t.pool.did n 1).many 1+(ns.length+1)=_
   omega
 · show (t.pool.acts++ [_]).length=_
   rw [au,h.pa];simp only [List.length_cons,List.length_nil];omega
 · show (t.acts++ [_]).length=_
   rw [au,h.va];simp only [List.length_cons,List.length_nil];omega
def chunk(V:List Int)(j:Nat):List Int:=(V.drop (480*j)).take 480
def chunks(V:List Int):Nat:=(V.length+479) / 480
theorem IQ(V:List Int)(j:Nat):(chunk V j).length=min 480 (V.length-480*j):=by simp [chunk]
def mE(s:eC)(V:List Int):Nat→Nat→Int→List Int→Prop
 | 0,_,c,ns=>c=0∧ns= []
 | k+1,j,c,ns=> ∃c' Lc,ns=c :: Lc∧(1≤c∧c≤65536)∧s.pool.count c=1∧s.on c=some (nG (chunk V j) c')∧mE s V k (j+1) c' Lc
theorem uX {s:eC}{V:List Int}:∀ {k j:Nat} {c:Int} {ns:List Int},mE s V k j c ns→ns.length=k:=by
 intro k;induction k with
 | zero=>intro j c ns h;rw [h.2];rfl
 | succ k ih=>
   intro j c ns h;obtain⟨c',Lc,rfl,_,_,_,h5⟩:=h;simp [ih h5]
theorem Fz {s s':eC}{V:List Int}:∀ {k j:Nat} {c:Int} {ns:List Int},(∀n∈ns,s'.pool.count n=s.pool.count n∧s'.on n=s.on n)→mE s V k j c ns→mE s' V k j c ns:=by
 intro k;induction k with
 | zero=>intro j c ns _ h;exact h
 | succ k ih=>
   intro j c ns hk h;obtain⟨c',Lc,rfl,h2,h3,h4,h5⟩:=h;have h1:=hk c (by simp);exact⟨c',Lc,rfl,h2,h1.1.trans h3,h1.2.trans h4,ih (fun n hn=>hk n (by simp [hn])) h5⟩
end Go.fB
namespace Go.fB
def ql(cs:List Int):List Int:=((List.range cs.length).filter fun i=>decide (cs.getD i 0≠0)).map fun i:Nat=>(i:Int)+1
theorem FD(cs:List Int):(ql cs).Nodup:=by
 unfold ql;rw [List.nodup_iff_pairwise_ne,List.pairwise_map];refine(List.Pairwise.filter _ List.nodup_range).imp fun {a b} h e=>h (by omega)
theorem pB {cs:List Int}{n:Int}:n∈ql cs↔jH cs n≠0:=by
 unfold ql jH;rw [bH];constructor
 · rintro⟨i,hi,rfl⟩
   rw [bm,aP] at hi;rw [if_pos (by omega),show ((i:Int)+1).toNat-1=i by omega];simpa using hi.2
 · intro h
   split at h
   · rename_i hb
     refine⟨n.toNat-1,?_,by omega⟩;rw [bm,aP];exact⟨by omega,by simpa using h⟩
   · exact absurd rfl h
theorem FG(cs:List Int):(List.range cs.length).map (fun i=>cs.getD i 0)=cs:=by
 refine cq (by simp) fun i h1 h2=> ?_
 simp [h2]
theorem Ld {cs:List Int}(h0:∀c∈cs,0≤c):(ql cs).length=(cs.filter fun c=>gq c (decide (0<c)) == 4).length:=by
 have e:(cs.filter fun c=>gq c (decide (0<c)) == 4)=cs.filter fun c=>decide (c≠0):=by
  refine List.filter_congr fun c hc=> ?_
  have:=h0 c hc
  unfold gq;by_cases hp:0<c
  · rw [decide_eq_true hp];simp [hp];omega
  · have:c=0:=by omega
    subst this;rfl
 rw [e];conv=>rhs;rw [← FG cs,List.filter_map]
 unfold ql;rw [aH,aH];rfl
theorem rM {cs:List Int}{on:Int→Option dR}:lacks cs on=true↔∃x∈ql cs,on x=none:=by
 unfold lacks;rw [dI];constructor
 · rintro⟨i,hi,h⟩
   simp only [aJ,decide_eq_true_eq] at h;rw [aP] at hi;refine⟨(i:Int)+1,pB.2 ?_,by simpa using h.2⟩;unfold jH;rw [if_pos (by omega),show ((i:Int)+1).toNat-1=i by omega];exact h.1
 · rintro⟨x,hx,hn⟩
   have hc:=pB.1 hx;obtain⟨b1,b2⟩:=pY hc;refine⟨x.toNat-1,aP.2 (by omega),?_⟩;unfold jH at hc;rw [if_pos ⟨b1,b2⟩] at hc;have e:(((x.toNat-1:Nat):Int))+1=x:=by omega
   simp only [aJ,decide_eq_true_eq,e,hn];exact⟨hc,rfl⟩
theorem lr(refs:Int)(cs:List Int)(n:Int):({ refs:=refs,counts:=cs,last:=fy cs,acts:= [],floor:=0 }:ef).count n=jH cs n:=by
 unfold ef.count jH ef.there;rfl
end Go.fB
namespace Go.Proofs.YtiegeadmgpanoaaGreatDoor.D2
open ChangeShapes WideShapes ChangeAt RowKit Sl fB Z3 Q3
def tZ(x:(Value × Value) × mG):List Value:= [.int .i64 x.2.no,.int .i64 x.2.page.kind,.int .i64 x.2.page.level,x.1.1,x.1.2,.int .i64 x.2.page.next]
def o6(h:Hp)(v:Value)(l:List mG):Prop:=
 ∃xs:List (Value × Value),xs.length=l.length∧gj h 6 v l.length ((xs.zip l).flatMap tZ)∧
  ∀i (hx:i<xs.length) (hl:i<l.length),h_ h xs[i].1 l[i].page.items∧Bytes h xs[i].2 l[i].page.data
theorem t_ {h:Hp}{v:Value}{l:List mG}(hi:o6 h v l):∃a c,v= .slice a l.length c∧∀i (hl:i<l.length),∃b off ai ci ad cd,a=some ⟨b,off,none⟩∧
 fV h (fX l[i].page.kind l[i].page.level (.slice ai l[i].page.items.length ci) (.slice ad l[i].page.data.length cd) l[i].page.next) l[i].page∧
 ∀w,h.le w→w.cell? ⟨b,off+i*6,none⟩=some (.int .i64 l[i].no)∧w.cell? ⟨b,off+i*6+1,none⟩=some (.int .i64 l[i].page.kind)∧w.cell? ⟨b,off+i*6+2,none⟩=some (.int .i64 l[i].page.level)∧
  w.cell? ⟨b,off+i*6+3,none⟩=some (.slice ai l[i].page.items.length ci)∧w.cell? ⟨b,off+i*6+4,none⟩=some (.slice ad l[i].page.data.length cd)∧w.cell? ⟨b,off+i*6+5,none⟩=some (.int .i64 l[i].page.next):=by
 obtain⟨xs,hxl,⟨hlen,a,c,e,_,hcm,hc⟩,hb⟩:=hi;refine⟨a,c,e,fun i hl=> ?_⟩;obtain⟨b,off,ea,hcell⟩:=hc (by omega);have Nt:i<xs.length:=by omega
 obtain⟨h1,h2⟩:=hb i Nt hl;obtain⟨ai,ci,e1,_,_⟩:=fL h1;obtain⟨ad,cd,e2⟩:=eB h2;have hz:i<(xs.zip l).length:=by simp;omega
 have ez:(xs.zip l)[i]=(xs[i],l[i]):=by simp
 refine⟨b,off,ai,ci,ad,cd,ea,⟨_,_,rfl,e1 ▸ h1,e2 ▸ h2⟩,fun w hw=> ?_⟩
 have at':∀j,j<6→∀v,(tZ (xs[i],l[i]))[j]? =some v→w.cell? ⟨b,off+i*6+j,none⟩=some v:=by
  intro j hj v hv;have h3:=hcell (i*6+j) (by omega);have h4:=nL tZ 6 (fun _=>rfl) (xs.zip l) i j hz hj;rw [ez,hv] at h4;rw [cN];exact Hp.kG hw (h3.trans h4)
 have k0:=at' 0 (by omega) _ rfl;have k1:=at' 1 (by omega) _ rfl;have k2:=at' 2 (by omega) _ rfl;have k3:=at' 3 (by omega) _ rfl;have k4:=at' 4 (by omega) _ rfl;have k5:=at' 5 (by omega) _ rfl;dsimp only at k0 k1 k2 k3 k4 k5;rw [e1] at k3;rw [e2] at k4;exact⟨k0,k1,k2,k3,k4,k5⟩
theorem FH {refs:Int}{cs:List Int}(ok:hU (fA refs cs 0)):(fA refs cs 0).eU 4=((ql cs).length:Int):=by
 unfold ef.eU;rw [if_neg (by omega),tC cs 4 _ rfl rfl];unfold gx;rw [Ld fun c hc=>(ok.cs c hc).1]
end Go.Proofs.YtiegeadmgpanoaaGreatDoor.D2
namespace Go.Proofs.YtiegeadmgpanoaaGreatDoor.D2
open ChangeShapes WideShapes ChangeAt RowKit Sl fB L3 Z3
theorem qW {v:Nat}{s:eC}{F:Pr}{w:World}(h:Sat ((dZ v s).star F) w):hU s.pool∧0≤s.floor∧s.floor+s.acts.length≤1099511627776:=by
 obtain⟨x,ok,h1⟩:=gC.1 h
 have h2:Sat ((eP x.p s.pool).star ((Pr.pts v (.cells #[.pointer (some ⟨x.p,0,none⟩),.map (some x.mb),x.av,.int .i64 s.floor] 108)).star
  ((((fD Tryz.prog 3 x.mb x.f).star ((Row 169 2 x.av s.acts.length (eI x.kA)).star (Pr.own x.h)))).star F))) w:=h1.perm (by unfold fc;ac_rfl)
 exact⟨(kM h2).1,ok.f0,ok.fb⟩
theorem Ob(v:Nat)(s:eC)(F:Pr)(w:World)(hF:Sat ((dZ v s).star F) w):
 Calls Tryz.prog 66 #[.pointer (some ⟨v,0,none⟩)] w fun e w'=>e= .returned (.int .i64 (s.floor+s.acts.length))∧eV w w':=by
 obtain⟨_,b1,b2⟩:=qW hF;obtain⟨x,ok,h1⟩:=gC.1 hF
 have h2:Sat ((Row 169 2 x.av s.acts.length (eI x.kA)).star ((Pr.pts v (.cells #[.pointer (some ⟨x.p,0,none⟩),.map (some x.mb),x.av,.int .i64 s.floor] 108)).star
  ((((fD Tryz.prog 3 x.mb x.f).star ((eP x.p s.pool).star (Pr.own x.h)))).star F))) w:=h1.perm (by unfold fc;ac_rfl)
 obtain⟨aa,ca,ea,_,_⟩:=Row.read h2;have q2:w.cell? ⟨v,2,none⟩=some (.slice aa s.acts.length ca):=by rw [cell_of_heap h2.right.dL, ← ea];rfl
 have q3:w.cell? ⟨v,3,none⟩=some (.int .i64 s.floor):=by rw [cell_of_heap h2.right.dL];rfl
 clear h2 h1 hF ok ea;generalize s.floor=fl at*;generalize s.acts.length=al at*;go_enter Tryz.func66,Tryz.ntmps66
 go_wp2;go_region
 go_wp2;go_ret;exact⟨rfl,(eV.refl w).drew⟩
theorem FK {w:World}{b:Nat}{x:Int}{fz:Nat × Nat}(h:w.heap[b]? =some (.cells #[.int .i64 x] 32 fz)):(loadVar 32 ⟨b,0,none⟩).run Tryz.prog w= .ok (.int .i64 x) w:=by
 have hc:w.cell? ⟨b,0,none⟩=some (.int .i64 x):=by rw [cell_of_heap h];rfl
 go_simp
theorem zG:(Tryz.prog.info? 89).map (·.size)=some 4:=by kernel_rfl
theorem uf {fn:Func}{p u:Tmp}{ty tu:TypeId}(h:fn.results= #[.cell p ty,.cell u tu])(tmps:Array Value)(w:World)(g:Nat)(x:Value)
 (hp:tmps.getD p undef= .pointer (some ⟨g,0,none⟩)) (hr:(loadVar ty ⟨g,0,none⟩).run Tryz.prog w= .ok x w) (g2:Nat) (y:Value) (hu:tmps.getD u undef= .pointer (some ⟨g2,0,none⟩)) (Xw:(loadVar tu ⟨g2,0,none⟩).run Tryz.prog w= .ok y w):
 (results fn tmps).run Tryz.prog w= .ok (.tuple #[x,y]) w:=by
 have hp':tmps[p]?.getD undef= .pointer (some ⟨g,0,none⟩):=by simpa using hp
 have hu':tmps[u]?.getD undef= .pointer (some ⟨g2,0,none⟩):=by simpa using hu
 simp [results,h,hp',hu',asAddr,Sem.run_bind,Result.andThen,hr,Xw]
end Go.Proofs.YtiegeadmgpanoaaGreatDoor.D2
