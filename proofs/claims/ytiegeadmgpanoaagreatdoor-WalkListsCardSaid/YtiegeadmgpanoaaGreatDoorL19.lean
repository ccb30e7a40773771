/- (*Vault).back, whatever stood on the pages before; the conditions stand as hypotheses. -/
import Derived.Test.YtiegeadmgpanoaaGreatDoorL18
set_option maxRecDepth 100000
set_option maxHeartbeats 16000000
namespace Go.fB
def restore(on:Int→Option dR)(was:List (Int × Option dR)):Int→Option dR:=was.reverse.foldl (fun f y=>fun m=>if m=y.1 then y.2 else f m) on
theorem uh(on:Int→Option dR)(was:List (Int × Option dR))(y:Int × Option dR):restore on (was++ [y])=restore (fun m=>if m=y.1 then y.2 else on m) was:=by
 unfold restore;rw [dJ,List.reverse_singleton,List.singleton_append,List.foldl_cons]
end Go.fB
namespace Go.Proofs.YtiegeadmgpanoaaGreatDoor.D2
open ChangeShapes WideShapes ChangeAt RowKit Sl fB Go.Shelf L3 Z3
attribute [local go_sem] Oper.semAt_some
def gI.page(x:gI):Option Value:=if x.th then some (fX x.pk x.pl x.vi x.vd x.nx) else none
def qs(f:Int→Option Value)(l:List (Int × gI)):Int→Option Value:=l.foldl (fun f y=>fun m=>if m=y.2.no then gI.page y.2 else f m) f
theorem Lj(f:Int→Option Value):qs f []=f:=rfl
theorem zP(f:Int→Option Value)(l:List (Int × gI))(y:Int × gI):qs f (l++ [y])=fun m=>if m=y.2.no then gI.page y.2 else qs f l m:=by
 unfold qs;rw [List.foldl_append];rfl
theorem FP(ws:List gI)(X:gI):kx (ws++ [X])=((ws.length:Int),X) :: kx ws:=by
 unfold kx;rw [List.zipIdx_append,aI,dJ];simp
theorem I4 {h:Hp}:∀ {was:List (Int × Option dR)} {ws:List gI} {f:Int→Option Value} {on:Int→Option dR},qQ h ws was→po h f on→po h (qs f (kx ws)) (restore on was):=by
 intro was;induction hn:was.length generalizing was with
 | zero=>
   intro ws f on hw ho;have h1:was= []:=aM hn;subst h1;have h2:ws= []:=aM hw.1;subst h2;exact ho
 | succ n ih=>
   intro ws f on hw ho;have hne:was≠ []:=fun e=>by rw [e] at hn;simp at hn
   have S5:ws≠ []:=fun e=>by have:=hw.1;rw [e] at this;simp at this;omega
   obtain⟨Tk,y,rfl⟩:∃l y,was=l++ [y]:=⟨was.dropLast,was.getLast hne,(List.dropLast_concat_getLast hne).symm⟩;obtain⟨Wo,X,rfl⟩:∃l y,ws=l++ [y]:=⟨ws.dropLast,ws.getLast S5,(List.dropLast_concat_getLast S5).symm⟩;have hl:Wo.length=Tk.length:=by have:=hw.1;simpa using this
   have hX:o5 h X y:=by
    have:=hw.2 Wo.length (by simp) (by simp [hl])
    rw [bj (aD _),bj (by omega)] at this;simpa [hl] using this
   have hw':qQ h Wo Tk:=⟨hl,fun i h1 h2=>by
    have:=hw.2 i (by simp;omega) (by simp;omega)
    rw [bz h1,bz h2] at this
    exact this⟩
   rw [uh,FP];show po h (qs (fun m=>if m=X.no then gI.page X else f m) (kx Wo)) _
   refine ih (by simpa using hn) hw' ?_;intro m;obtain⟨h1,_,_,h4⟩:=hX;dsimp only;rw [h1];by_cases hm:m=y.1
   · rw [if_pos hm,if_pos hm]
     unfold gI.page;cases hy:y.2 with
     | none=>
       rw [hy] at h4;rw [h4];rfl
     | some g=>
       rw [hy] at h4;rw [h4.1];exact⟨_,rfl,h4.2⟩
   · rw [if_neg hm,if_neg hm]
     exact ho m
theorem Lk(v:Nat)(s:eC)(x:VX)(m:Nat)(cm:List Int)(wv:Value)(ws:List gI)(hrow:gj x.h 7 wv ws.length (ws.flatMap gI.cells))(hl:ws.length≤65536)(oL:∀X∈ws,(1≤X.no∧X.no≤65536)∧we X.vi∧we X.vd)
 (F:Pr) (w:World) (hF:Sat ((fc v s x).star F) w) (hm:m≤s.pool.acts.length) (ht:Trail s.pool cm (s.pool.acts.drop m) s.pool.counts):
 Calls Tryz.prog 101 #[.pointer (some ⟨v,0,none⟩),.agg #[.int .i64 (s.pool.floor+m),wv]] w fun e w'=>
  e= .returned (.tuple #[])∧Sat ((fc v { s with pool:= { s.pool with counts:=cm,acts:=s.pool.acts.take m } } { x with f:=qs x.f (kx ws) }).star F) w'∧dN w w':=by
 have es:(w.alloc (.cells #[.pointer (some ⟨v,0,none⟩)] 27)).heap.size=w.heap.size+1:=by simp
 have h1:=(hF.alloc (.cells #[.pointer (some ⟨v,0,none⟩)] 27)).alloc (.cells #[.int .i64 (s.pool.floor+m),wv] 169);rw [es] at h1
 have h2:Sat ((eP x.p s.pool).star ((Pr.pts v (.cells #[.pointer (some ⟨x.p,0,none⟩),.map (some x.mb),x.av,.int .i64 s.floor] 108)).star ((Pr.pts w.heap.size (.cells #[.pointer (some ⟨v,0,none⟩)] 27)).star ((Pr.pts (w.heap.size+1) (.cells #[.int .i64 (s.pool.floor+m),wv] 169)).star
  ((((fD Tryz.prog 3 x.mb x.f).star ((Row 169 2 x.av s.acts.length (eI x.kA)).star (Pr.own x.h)))).star F))))) _:=h1.perm (by unfold fc;ac_rfl)
 have qv:=cell_of_heap h2.right.dL 0;have zv:=h2.right.lt;have U:=hQ (CS x.p s.pool m cm _ _ h2.drew hm ht);have eR:=hQ (((dN.refl w).alloc (.cells #[.pointer (some ⟨v,0,none⟩)] 27)).alloc (.cells #[.int .i64 (s.pool.floor+m),wv] 169));obtain⟨_,aw,cw,rfl,_,_,_⟩:=id hrow;have EW:=hQ hrow;have Xz:=hQ oL;clear h1 h2 hF es ht hrow oL
 refine iC (n:=9) Tryz.func101 rfl ?_;simp only [Tryz.ntmps101,bu,List.length_cons,List.length_nil,Nat.reduceAdd,Nat.reduceSub,Array.replicate_succ,Array.replicate_zero,bB,a_,List.nil_append,List.cons_append];go_wp2;refine wS 34 [0,1,2,3,4,5] [(6,[],[0,1,2,4])] ?_
 iterate 6 (refine fH rfl rfl (fun K hK=> ?_);go_simp;refine hK _ ?_;clear hK K)
 refine dU ?_;refine dK rfl ?_;go_wp2_with fail
 refine U.af.mono ?_;rintro e w1 ⟨rfl,h3,hst⟩
 have h4:Sat ((Pr.pts w.heap.size (.cells #[.pointer (some ⟨v,0,none⟩)] 27)).star ((Pr.pts (w.heap.size+1) (.cells #[.int .i64 (s.pool.floor+m),.slice aw ws.length cw] 169)).star ((Pr.pts v (.cells #[.pointer (some ⟨x.p,0,none⟩),.map (some x.mb),x.av,.int .i64 s.floor] 108)).star ((eP x.p { s.pool with counts:=cm,acts:=s.pool.acts.take m }).star ((fD Tryz.prog 3 x.mb x.f).star ((Row 169 2 x.av s.acts.length (eI x.kA)).star ((Pr.own x.h).star F))))))) w1:=h3.perm (by ac_rfl)
 have r0:w1.cell? ⟨w.heap.size,0,none⟩=some (.pointer (some ⟨v,0,none⟩)):=by rw [cell_of_heap h4.dL];rfl
 have r1:w1.cell? ⟨w.heap.size+1,1,none⟩=some (.slice aw ws.length cw):=by rw [cell_of_heap h4.right.dL];rfl
 have y0:=h4.lt;have y1:=h4.right.lt;have yv:=h4.right.right.lt;have H4:=hQ h4;have eQ:=hQ (eR.af.drew.trans hst);clear h3 h4 hst eR U qv zv;go_wp2;refine dQ (dU ⟨?_,dW ?_⟩)
 · refine d6 ?_ (d6 ?_ (d6 ?_ (d6 ?_ eM)))<;>(refine fj rfl rfl rfl rfl ?_;go_simp;try omega)
 go_wp2_with fail
 refine(ug _ _ _ _).mono ?_;rintro e w2 ⟨rfl,rfl⟩;have h5:=H4.af.alloc (.cells #[.slice aw ws.length cw] 167);have H5:=hQ h5;have fa:=hQ (eQ.af.alloc (.cells #[.slice aw ws.length cw] 167));clear h5 H4 eQ y0 y1 yv r0 r1;generalize w1.heap.size=sb at*;generalize w1.alloc (.cells #[.slice aw ws.length cw] 167)=w2 at*;go_wp2
 refine jM 9 (gf:=151) rfl (enters_of Tryz.func151 (by kernel_rfl) rfl) (zN sb (.slice aw ws.length cw) x.h ws EW.af hl) (fun _=>rfl)
  (fun pre=>(Pr.pts w.heap.size (.cells #[.pointer (some ⟨v,0,none⟩)] 27)).star ((Pr.pts (w.heap.size+1) (.cells #[.int .i64 (s.pool.floor+m),.slice aw ws.length cw] 169)).star ((Pr.pts v (.cells #[.pointer (some ⟨x.p,0,none⟩),.map (some x.mb),x.av,.int .i64 s.floor] 108)).star ((eP x.p { s.pool with counts:=cm,acts:=s.pool.acts.take m }).star ((fD Tryz.prog 3 x.mb (qs x.f pre)).star ((Row 169 2 x.av s.acts.length (eI x.kA)).star F)))))) (fun _ _=>Pr.pure False) ?start ?round ?done ?stop
 case start=>
  rw [Lj];exact H5.af.perm (by unfold j4;ac_rfl)
 case round=>
  intro l' pre y W1 F1 hpre hs;have hmem:=Xz.af y.2 (zO (hpre.subset (bT _ (dx y))));obtain⟨i,no,pk,pl,vi,vd,nx,th⟩:=y;obtain⟨hno,⟨a1,m1,c1,e1⟩,⟨a2,m2,c2,e2⟩⟩:=hmem;dsimp only at hno e1 e2;subst e1;subst e2;cases th with
  | false=>
    have ig:=hQ hs;clear hs;simp only [wo,gI.cells];gi_wp2
    have ny:=ig.af.alloc (.cells #[.int .i64 no,.int .i64 pk,.int .i64 pl,.slice a1 m1 c1,.slice a2 m2 c2,.int .i64 nx,.bool false] 194);obtain⟨B,hB⟩:∃B,W1.heap.size=B:=⟨_,rfl⟩;rw [hB] at ny ⊢
    refine⟨(dN.refl _).alloc _,(Pr.pts B (.cells #[.int .i64 no,.int .i64 pk,.int .i64 pl,.slice a1 m1 c1,.slice a2 m2 c2,.int .i64 nx,.bool false] 194)).star (((Pr.pts w.heap.size (.cells #[.pointer (some ⟨v,0,none⟩)] 27)).star ((Pr.pts (w.heap.size+1) (.cells #[.int .i64 (s.pool.floor+m),.slice aw ws.length cw] 169)).star ((Pr.pts v (.cells #[.pointer (some ⟨x.p,0,none⟩),.map (some x.mb),x.av,.int .i64 s.floor] 108)).star ((eP x.p { s.pool with counts:=cm,acts:=s.pool.acts.take m }).star ((fD Tryz.prog 3 x.mb (qs x.f pre)).star ((Row 169 2 x.av s.acts.length (eI x.kA)).star F)))))).star (j4 sb (.slice aw ws.length cw) x.h)),ny.perm (by ac_rfl),?_⟩
    clear ny ig hB;intro F2 W2 _ hs2
    have h1:Sat ((fD Tryz.prog 3 x.mb (qs x.f pre)).star ((Pr.pts B (.cells #[.int .i64 no,.int .i64 pk,.int .i64 pl,.slice a1 m1 c1,.slice a2 m2 c2,.int .i64 nx,.bool false] 194)).star ((Pr.pts w.heap.size (.cells #[.pointer (some ⟨v,0,none⟩)] 27)).star ((Pr.pts v (.cells #[.pointer (some ⟨x.p,0,none⟩),.map (some x.mb),x.av,.int .i64 s.floor] 108)).star (((Pr.pts (w.heap.size+1) (.cells #[.int .i64 (s.pool.floor+m),.slice aw ws.length cw] 169)).star ((eP x.p { s.pool with counts:=cm,acts:=s.pool.acts.take m }).star ((Row 169 2 x.av s.acts.length (eI x.kA)).star F))).star ((j4 sb (.slice aw ws.length cw) x.h).star F2)))))) W2:=hs2.perm (by ac_rfl)
    have g6:W2.cell? ⟨B,6,none⟩=some (.bool false):=by rw [cell_of_heap h1.right.dL];rfl
    have g0:W2.cell? ⟨B,0,none⟩=some (.int .i64 no):=by rw [cell_of_heap h1.right.dL];rfl
    have gV:W2.cell? ⟨w.heap.size,0,none⟩=some (.pointer (some ⟨v,0,none⟩)):=by rw [cell_of_heap h1.right.right.dL];rfl
    have gm:W2.cell? ⟨v,1,none⟩=some (.map (some x.mb)):=by rw [cell_of_heap h1.right.right.right.dL];rfl
    have zB:=h1.right.lt;have zV:=h1.right.right.lt;have zv:=h1.right.right.right.lt;have H1:=hQ h1;clear h1 hs2;gi_wp2
    obtain⟨w4,hrun,fp,mD⟩:=wI (ty:=0) Tryz.underlying3 Tryz.underlying105 hno H1.af.drew;have lZ:=hQ fp;have qx:=hQ mD;clear fp mD;gi_region
    all_goals (
     refine⟨(dN.refl W2).drew.eH qx.af,?_⟩
     dsimp only
     rw [zP]
     have h9:Sat ((Pr.pts B (.cells #[.int .i64 no,.int .i64 pk,.int .i64 pl,.slice a1 m1 c1,.slice a2 m2 c2,.int .i64 nx,.bool false] 194)).star ((((Pr.pts w.heap.size (.cells #[.pointer (some ⟨v,0,none⟩)] 27)).star ((Pr.pts (w.heap.size+1) (.cells #[.int .i64 (s.pool.floor+m),.slice aw ws.length cw] 169)).star ((Pr.pts v (.cells #[.pointer (some ⟨x.p,0,none⟩),.map (some x.mb),x.av,.int .i64 s.floor] 108)).star ((eP x.p { s.pool with counts:=cm,acts:=s.pool.acts.take m }).star ((fD Tryz.prog 3 x.mb (fun m=>if m=no then none else qs x.f pre m)).star ((Row 169 2 x.av s.acts.length (eI x.kA)).star F)))))).star (j4 sb (.slice aw ws.length cw) x.h)).star F2)) w4:=lZ.af.perm (by ac_rfl)
     exact h9.right)
  | true=>
    have ig:=hQ hs;clear hs;simp only [wo,gI.cells];gi_wp2
    have ny:=ig.af.alloc (.cells #[.int .i64 no,.int .i64 pk,.int .i64 pl,.slice a1 m1 c1,.slice a2 m2 c2,.int .i64 nx,.bool true] 194);obtain⟨B,hB⟩:∃B,W1.heap.size=B:=⟨_,rfl⟩;rw [hB] at ny ⊢
    refine⟨(dN.refl _).alloc _,(Pr.pts B (.cells #[.int .i64 no,.int .i64 pk,.int .i64 pl,.slice a1 m1 c1,.slice a2 m2 c2,.int .i64 nx,.bool true] 194)).star (((Pr.pts w.heap.size (.cells #[.pointer (some ⟨v,0,none⟩)] 27)).star ((Pr.pts (w.heap.size+1) (.cells #[.int .i64 (s.pool.floor+m),.slice aw ws.length cw] 169)).star ((Pr.pts v (.cells #[.pointer (some ⟨x.p,0,none⟩),.map (some x.mb),x.av,.int .i64 s.floor] 108)).star ((eP x.p { s.pool with counts:=cm,acts:=s.pool.acts.take m }).star ((fD Tryz.prog 3 x.mb (qs x.f pre)).star ((Row 169 2 x.av s.acts.length (eI x.kA)).star F)))))).star (j4 sb (.slice aw ws.length cw) x.h)),ny.perm (by ac_rfl),?_⟩
    clear ny ig hB;intro F2 W2 _ hs2
    have h1:Sat ((fD Tryz.prog 3 x.mb (qs x.f pre)).star ((Pr.pts B (.cells #[.int .i64 no,.int .i64 pk,.int .i64 pl,.slice a1 m1 c1,.slice a2 m2 c2,.int .i64 nx,.bool true] 194)).star ((Pr.pts w.heap.size (.cells #[.pointer (some ⟨v,0,none⟩)] 27)).star ((Pr.pts v (.cells #[.pointer (some ⟨x.p,0,none⟩),.map (some x.mb),x.av,.int .i64 s.floor] 108)).star (((Pr.pts (w.heap.size+1) (.cells #[.int .i64 (s.pool.floor+m),.slice aw ws.length cw] 169)).star ((eP x.p { s.pool with counts:=cm,acts:=s.pool.acts.take m }).star ((Row 169 2 x.av s.acts.length (eI x.kA)).star F))).star ((j4 sb (.slice aw ws.length cw) x.h).star F2)))))) W2:=hs2.perm (by ac_rfl)
    have g6:W2.cell? ⟨B,6,none⟩=some (.bool true):=by rw [cell_of_heap h1.right.dL];rfl
    have g0:W2.cell? ⟨B,0,none⟩=some (.int .i64 no):=by rw [cell_of_heap h1.right.dL];rfl
    have gV:W2.cell? ⟨w.heap.size,0,none⟩=some (.pointer (some ⟨v,0,none⟩)):=by rw [cell_of_heap h1.right.right.dL];rfl
    have gm:W2.cell? ⟨v,1,none⟩=some (.map (some x.mb)):=by rw [cell_of_heap h1.right.right.right.dL];rfl
    have zB:=h1.right.lt;have zV:=h1.right.right.lt;have zv:=h1.right.right.right.lt;have H1:=hQ h1;clear h1 hs2;gi_wp2
    have g1:W2.cell? ⟨B,1,none⟩=some (.int .i64 pk):=by rw [cell_of_heap H1.af.right.dL];rfl
    have g2:W2.cell? ⟨B,2,none⟩=some (.int .i64 pl):=by rw [cell_of_heap H1.af.right.dL];rfl
    have g3:W2.cell? ⟨B,3,none⟩=some (.slice a1 m1 c1):=by rw [cell_of_heap H1.af.right.dL];rfl
    have g4:W2.cell? ⟨B,4,none⟩=some (.slice a2 m2 c2):=by rw [cell_of_heap H1.af.right.dL];rfl
    have g5:W2.cell? ⟨B,5,none⟩=some (.int .i64 nx):=by rw [cell_of_heap H1.af.right.dL];rfl
    obtain⟨w4,hrun,fp,mD⟩:=GI Tryz.underlying3 Tryz.underlying105 hno (fX pk pl (.slice a1 m1 c1) (.slice a2 m2 c2) nx) H1.af.drew;have lZ:=hQ fp;have qx:=hQ mD;clear fp mD;gi_region
    all_goals (
     refine⟨(dN.refl W2).drew.eH qx.af,?_⟩
     dsimp only
     rw [zP]
     have h9:Sat ((Pr.pts B (.cells #[.int .i64 no,.int .i64 pk,.int .i64 pl,.slice a1 m1 c1,.slice a2 m2 c2,.int .i64 nx,.bool true] 194)).star ((((Pr.pts w.heap.size (.cells #[.pointer (some ⟨v,0,none⟩)] 27)).star ((Pr.pts (w.heap.size+1) (.cells #[.int .i64 (s.pool.floor+m),.slice aw ws.length cw] 169)).star ((Pr.pts v (.cells #[.pointer (some ⟨x.p,0,none⟩),.map (some x.mb),x.av,.int .i64 s.floor] 108)).star ((eP x.p { s.pool with counts:=cm,acts:=s.pool.acts.take m }).star ((fD Tryz.prog 3 x.mb (fun m=>if m=no then some (fX pk pl (.slice a1 m1 c1) (.slice a2 m2 c2) nx) else qs x.f pre m)).star ((Row 169 2 x.av s.acts.length (eI x.kA)).star F)))))).star (j4 sb (.slice aw ws.length cw) x.h)).star F2)) w4:=lZ.af.perm (by ac_rfl)
     exact h9.right)
 case done=>
  intro D xs W2 hxs hst hs;subst hxs
  have h10:Sat ((Pr.pts D (.deferred (some []))).star ((Pr.pts w.heap.size (.cells #[.pointer (some ⟨v,0,none⟩)] 27)).star ((Pr.pts (w.heap.size+1) (.cells #[.int .i64 (s.pool.floor+m),.slice aw ws.length cw] 169)).star ((Pr.pts sb (.cells #[.slice aw ws.length cw] 167)).star (((Pr.pts v (.cells #[.pointer (some ⟨x.p,0,none⟩),.map (some x.mb),x.av,.int .i64 s.floor] 108)).star ((eP x.p { s.pool with counts:=cm,acts:=s.pool.acts.take m }).star ((fD Tryz.prog 3 x.mb (qs x.f (kx ws))).star ((Row 169 2 x.av s.acts.length (eI x.kA)).star (Pr.own x.h))))).star F))))) W2:=hs.perm (by unfold j4;ac_rfl)
  have QB:=hQ h10;have gg:=hQ (fa.af.trans hst);clear hs h10 hst;go_wp2;refine oi (D:=D) rfl QB.af.dL ⟨_,results_none rfl _ _ _,rfl,(QB.af.putObj (.deferred none)).right.right.right.right,gg.af.putObj _ _⟩
 case stop=>
  intro D c pre W2 _ hst hs;exact(Sat.pure.1 (hs.perm (Pr.dP _ _ _))).1.elim
end Go.Proofs.YtiegeadmgpanoaaGreatDoor.D2
