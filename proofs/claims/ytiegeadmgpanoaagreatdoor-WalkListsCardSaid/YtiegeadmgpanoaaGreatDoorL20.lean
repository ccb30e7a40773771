/- The vault: Undo of pages made; the conditions stand as hypotheses. -/
import Derived.Test.YtiegeadmgpanoaaGreatDoorL18
import Derived.Test.YtiegeadmgpanoaaGreatDoorL17
import Derived.Test.YtiegeadmgpanoaaGreatDoorL12
set_option maxRecDepth 100000
set_option maxHeartbeats 16000000
namespace Go.fB
def FQ(s:eC):Prop:= ∀n,s.pool.state n=1→s.on n=none
theorem FQ.make {s:eC}(h:FQ s){n:Int}(hn:s.pool.state n=1)(h0:s.pool.count n=0)(g:dR):FQ (s.make n g):=by
 intro m hm;have hs:=rD (s:=s.pool) (b:=1) (m:=m) (ia (by omega:s.pool.state n≠0));have hm':(s.pool.did n 1).state m=1:=hm;rw [hm'] at hs;by_cases Sb:m=n
 · rw [if_pos Sb,h0] at hs
   unfold gq at hs;simp at hs
   split at hs<;>omega
 · rw [if_neg Sb] at hs
   show (if m=n then some g else s.on m)=none
   rw [if_neg Sb];exact h m hs.symm
end Go.fB
namespace Go.Proofs.YtiegeadmgpanoaaGreatDoor.E5
open ChangeShapes WideShapes ChangeAt RowKit Sl fB D2 L3 Z3
end Go.Proofs.YtiegeadmgpanoaaGreatDoor.E5
namespace Go.fB
theorem I5 {s:ef}(ok:hU s)(h:s.many 1=0):∀m,s.state m≠1:=by
 intro m hm;have h1:=xR ok hm;omega
end Go.fB
namespace Go.Proofs.YtiegeadmgpanoaaGreatDoor.D2
open ChangeShapes WideShapes ChangeAt RowKit Sl fB L3 Z3 E5
abbrev Tl:Value:= .agg #[.slice none 0 0,.slice none 0 0,.int .i64 0,.int .i64 0]
end Go.Proofs.YtiegeadmgpanoaaGreatDoor.D2
namespace Go.fB
def eC.settled(s:eC):eC:= { pool:=s.pool.settled,on:=fun m=>if s.pool.state m=2 then none else s.on m,acts:= [],floor:=s.floor+s.acts.length }
end Go.fB
namespace Go.Proofs.YtiegeadmgpanoaaGreatDoor.D2
open ChangeShapes WideShapes ChangeAt RowKit Sl fB Go.Shelf L3 Q3 Z3 J4
attribute [local go_sem] Oper.semAt_some
def gone(f:Int→Option Value)(l:List Int):Int→Option Value:=fun m=>if m∈l then none else f m
theorem Ll(f:Int→Option Value):gone f []=f:=by funext m;simp [gone]
theorem I6(f:Int→Option Value)(l:List Int)(y:Int):gone f (l++ [y])=fun m=>if m=y then none else gone f l m:=by
 funext m
 simp only [gone,aK,aC];by_cases h:m=y
 · rw [if_pos (Or.inr h),if_pos h]
 · rw [if_neg h]
   by_cases h2:m∈l
   · rw [if_pos (Or.inl h2),if_pos h2]
   · rw [if_neg (fun h3=>h3.elim h2 h),if_neg h2]
theorem Dh(v:Nat)(s:eC)(F:Pr)(w:World)(hF:Sat ((dZ v s).star F) w):
 Calls Tryz.prog 37 #[.pointer (some ⟨v,0,none⟩)] w fun e w'=>e= .returned (.tuple #[])∧Sat ((dZ v s.settled).star F) w'∧dN w w':=by
 have h1:=hF.alloc (.cells #[.pointer (some ⟨v,0,none⟩)] 27);have h2:=h1.perm (B:=(dZ v s).star ((Pr.pts w.heap.size (.cells #[.pointer (some ⟨v,0,none⟩)] 27)).star F)) (by ac_rfl);obtain⟨j6,fb0,fb1⟩:=qW h2;have M:=hQ (Ob v s _ _ h2.drew);have H2:=hQ h2;have Tm:=hQ j6;have eR:=hQ ((dN.refl w).alloc (.cells #[.pointer (some ⟨v,0,none⟩)] 27));clear h1 h2 hF j6
 refine iC (n:=9) Tryz.func37 rfl ?_;simp only [Tryz.ntmps37,bu,List.length_cons,List.length_nil,Nat.reduceAdd,Nat.reduceSub,Array.replicate_succ,Array.replicate_zero,bB,a_,List.nil_append,List.cons_append];go_wp2_with fail
 refine wS 27 [0,1,2] [(3,[4,5],[0,1]),(6,[7,8],[1,4]),(9,[],[7])] ?_;refine dY _ rfl rfl ?_;simp only [pick,pQ];iterate 3 (go_big_quiet_step (fail))
 refine wpQuiet_nil ?_;refine dK rfl ?_;go_wp2_with fail
 refine M.af.mono ?_;rintro e w1 ⟨rfl,ho⟩;obtain⟨x,ok,hx⟩:=gC.1 (H2.af.drew.only ho)
 have h4:Sat ((Pr.pts v (.cells #[.pointer (some ⟨x.p,0,none⟩),.map (some x.mb),x.av,.int .i64 s.floor] 108)).star ((Pr.pts w.heap.size (.cells #[.pointer (some ⟨v,0,none⟩)] 27)).star ((eP x.p s.pool).star ((fD Tryz.prog 3 x.mb x.f).star ((Row 169 2 x.av s.acts.length (eI x.kA)).star ((Pr.own x.h).star F)))))) w1:=hx.perm (by unfold fc;ac_rfl)
 have r0:w1.cell? ⟨w.heap.size,0,none⟩=some (.pointer (some ⟨v,0,none⟩)):=by rw [cell_of_heap h4.right.dL];rfl
 have c2:w1.cell? ⟨v,2,none⟩=some x.av:=by rw [cell_of_heap h4.dL];rfl
 have c3:w1.cell? ⟨v,3,none⟩=some (.int .i64 s.floor):=by rw [cell_of_heap h4.dL];rfl
 have f2:=frozen_of_heap h4.dL 2;have f3:=frozen_of_heap h4.dL 3;have zb:=h4.right.lt;have zv:=h4.lt
 have gu:Sat ((Pr.pts v (.cells #[.pointer (some ⟨x.p,0,none⟩),.map (some x.mb),.slice none 0 0,.int .i64 (s.floor+s.acts.length)] 108)).star ((Pr.pts w.heap.size (.cells #[.pointer (some ⟨v,0,none⟩)] 27)).star ((eP x.p s.pool).star ((fD Tryz.prog 3 x.mb x.f).star ((Row 169 2 x.av s.acts.length (eI x.kA)).star ((Pr.own x.h).star F)))))) _:=(h4.setCell (i:=3) (.int .i64 (s.floor+s.acts.length))).setCell (i:=2) (.slice none 0 0)
 have pN:=hQ gu;have eQ:=hQ (((eR.af.drew.trans ho.st).setCell ⟨v,3,none⟩ (.int .i64 (s.floor+s.acts.length))).setCell ⟨v,2,none⟩ (.slice none 0 0));have xB:=hQ ok;clear h4 hx gu ok ho M H2 eR;go_wp2;refine dQ ?_;refine dY _ rfl rfl ?_;simp only [pick,pQ];iterate 2 (go_big_quiet_step (fail))
 refine wpQuiet_nil ⟨?_,?_⟩
 · exact cQ
 refine dK rfl ?_;go_wp2;refine dQ ?_;refine dY _ rfl rfl ?_;simp only [pick,pQ];iterate 2 (go_big_quiet_step (fail))
 refine wpQuiet_nil ⟨?_,?_⟩
 · exact cQ
 refine dK rfl ?_;go_wp2;refine dQ ?_;refine dU ⟨?_,?_⟩
 · exact cQ
 refine dW ?_;have T1:=eQ.af;have T2:=pN.af;clear eQ pN r0 c2 c3 f2 f3 zb zv;generalize (w1.setCell ⟨v,3,none⟩ (.int .i64 (s.floor+s.acts.length))).setCell ⟨v,2,none⟩ (.slice none 0 0)=w2 at*;have r0:w2.cell? ⟨w.heap.size,0,none⟩=some (.pointer (some ⟨v,0,none⟩)):=by rw [cell_of_heap T2.right.dL];rfl
 have r1:w2.cell? ⟨v,0,none⟩=some (.pointer (some ⟨x.p,0,none⟩)):=by rw [cell_of_heap T2.dL];rfl
 have zb:=T2.right.lt;have zv:=T2.lt
 have PG:=hQ (Fo x.p s.pool 2 _ _ (T2.perm (B:=((eP x.p s.pool).star ((Pr.pts v (.cells #[.pointer (some ⟨x.p,0,none⟩),.map (some x.mb),.slice none 0 0,.int .i64 (s.floor+s.acts.length)] 108)).star ((Pr.pts w.heap.size (.cells #[.pointer (some ⟨v,0,none⟩)] 27)).star ((fD Tryz.prog 3 x.mb x.f).star ((Row 169 2 x.av s.acts.length (eI x.kA)).star ((Pr.own x.h).star F))))))) (by ac_rfl)))
 have fa:=hQ T1;clear T1 T2;go_wp2_with fail
 refine PG.af.mono ?_;rintro e w3 ⟨mF,lb,lv,rfl,gQ⟩;have mY:=hQ gQ;have gg:=hQ (fa.af.trans mF);clear gQ mF PG fa r0 r1 zb zv;go_wp2
 refine jM 9 (gf:=106) rfl (enters_of Tryz.func106 (by kernel_rfl) rfl) (Qu lb lv (jZ s.pool 2) (bK (vG _ _ _) Tm.af.n2)) (fun _=>rfl)
  (fun pre=>((Pr.pts w.heap.size (.cells #[.pointer (some ⟨v,0,none⟩)] 27)).star ((Pr.pts v (.cells #[.pointer (some ⟨x.p,0,none⟩),.map (some x.mb),.slice none 0 0,.int .i64 (s.floor+s.acts.length)] 108)).star ((eP x.p s.pool).star ((fD Tryz.prog 3 x.mb (gone x.f pre)).star ((Row 169 2 x.av s.acts.length (eI x.kA)).star ((Pr.own x.h).star F))))))) (fun _ _=>Pr.pure False) ?start ?round ?done ?stop
 case start=>
  rw [Ll];exact mY.af.perm (by unfold lL;ac_rfl)
 case round=>
  intro l' pre y W1 F1 hpre hs;have hmem:y∈jZ s.pool 2:=hpre.subset (bT _ (dx y));have IZ:=(uU.1 hmem).1;have hno:1≤y∧y≤65536:=⟨IZ.1,by have:=IZ.2;have:=Tm.af.n2;omega⟩;have ig:=hQ hs;clear hs hmem IZ hpre;simp only [K_];gi_wp2
  refine⟨((Pr.pts w.heap.size (.cells #[.pointer (some ⟨v,0,none⟩)] 27)).star ((Pr.pts v (.cells #[.pointer (some ⟨x.p,0,none⟩),.map (some x.mb),.slice none 0 0,.int .i64 (s.floor+s.acts.length)] 108)).star ((eP x.p s.pool).star ((fD Tryz.prog 3 x.mb (gone x.f pre)).star ((Row 169 2 x.av s.acts.length (eI x.kA)).star ((Pr.own x.h).star F)))))).star (lL lb lv (jZ s.pool 2)),dN.refl _,ig.af,?_⟩
  clear ig;intro F2 W2 _ hs2
  have h1:Sat ((fD Tryz.prog 3 x.mb (gone x.f pre)).star ((Pr.pts w.heap.size (.cells #[.pointer (some ⟨v,0,none⟩)] 27)).star ((Pr.pts v (.cells #[.pointer (some ⟨x.p,0,none⟩),.map (some x.mb),.slice none 0 0,.int .i64 (s.floor+s.acts.length)] 108)).star ((eP x.p s.pool).star ((Row 169 2 x.av s.acts.length (eI x.kA)).star ((Pr.own x.h).star (F.star ((lL lb lv (jZ s.pool 2)).star F2)))))))) W2:=hs2.perm (by ac_rfl)
  have gV:W2.cell? ⟨w.heap.size,0,none⟩=some (.pointer (some ⟨v,0,none⟩)):=by rw [cell_of_heap h1.right.dL];rfl
  have gm:W2.cell? ⟨v,1,none⟩=some (.map (some x.mb)):=by rw [cell_of_heap h1.right.right.dL];rfl
  have zV:=h1.right.lt;have zv:=h1.right.right.lt;have H1:=hQ h1;clear h1 hs2
  gi_wp2_with (
   refine Bo rfl _ _ _ rfl Tryz.underlying3 Tryz.underlying105 y hno rfl rfl H1.af ?_
   intro w4 fp mD
   have lZ:=hQ fp
   have qx:=hQ mD
   clear fp mD)
  refine⟨(dN.refl W2).eH qx.af,?_⟩;dsimp only;rw [I6];exact lZ.af.perm (by ac_rfl)
 case done=>
  intro D xs W2 hxs hst hs;subst hxs
  have h10:Sat ((Pr.pts D (.deferred (some []))).star ((Pr.pts w.heap.size (.cells #[.pointer (some ⟨v,0,none⟩)] 27)).star ((Pr.pts v (.cells #[.pointer (some ⟨x.p,0,none⟩),.map (some x.mb),.slice none 0 0,.int .i64 (s.floor+s.acts.length)] 108)).star ((eP x.p s.pool).star ((fD Tryz.prog 3 x.mb (gone x.f (jZ s.pool 2))).star ((Row 169 2 x.av s.acts.length (eI x.kA)).star ((Pr.own x.h).star (F.star (lL lb lv (jZ s.pool 2)))))))))) W2:=hs.perm (by ac_rfl)
  have r0:W2.cell? ⟨w.heap.size,0,none⟩=some (.pointer (some ⟨v,0,none⟩)):=by rw [cell_of_heap h10.right.dL];rfl
  have r1:W2.cell? ⟨v,0,none⟩=some (.pointer (some ⟨x.p,0,none⟩)):=by rw [cell_of_heap h10.right.right.dL];rfl
  have zb:=h10.right.lt;have zv:=h10.right.right.lt
  have PS:=hQ (CY x.p s.pool _ _ (h10.perm (B:=((eP x.p s.pool).star ((Pr.pts D (.deferred (some []))).star ((Pr.pts w.heap.size (.cells #[.pointer (some ⟨v,0,none⟩)] 27)).star ((Pr.pts v (.cells #[.pointer (some ⟨x.p,0,none⟩),.map (some x.mb),.slice none 0 0,.int .i64 (s.floor+s.acts.length)] 108)).star ((fD Tryz.prog 3 x.mb (gone x.f (jZ s.pool 2))).star ((Row 169 2 x.av s.acts.length (eI x.kA)).star ((Pr.own x.h).star (F.star (lL lb lv (jZ s.pool 2))))))))))) (by ac_rfl)))
  have ij:=hQ (gg.af.trans hst);clear hs h10 hst;go_wp2_with fail
  refine PS.af.mono ?_;rintro e w5 ⟨rfl,gZ,iL⟩
  have h11:Sat ((Pr.pts D (.deferred (some []))).star ((Pr.pts w.heap.size (.cells #[.pointer (some ⟨v,0,none⟩)] 27)).star ((Row 169 2 x.av s.acts.length (eI x.kA)).star ((lL lb lv (jZ s.pool 2)).star ((Pr.pts v (.cells #[.pointer (some ⟨x.p,0,none⟩),.map (some x.mb),.slice none 0 0,.int .i64 (s.floor+s.acts.length)] 108)).star ((eP x.p s.pool.settled).star ((fD Tryz.prog 3 x.mb (gone x.f (jZ s.pool 2))).star ((Pr.own x.h).star F)))))))) w5:=gZ.perm (by ac_rfl)
  have Zz:=hQ h11;have iM:=hQ (ij.af.trans iL);clear gZ h11 iL PS;go_wp2;refine oi (D:=D) rfl Zz.af.dL ⟨_,results_none rfl _ _ _,rfl,?_,iM.af.putObj _ _⟩;have h12:=(Zz.af.putObj (.deferred none)).right.right.right.right;refine gC.2 ⟨{ x with f:=gone x.f (jZ s.pool 2),av:= .slice none 0 0,kA:= [] },⟨?_,⟨rfl,fun i h1=>absurd h1 (by simp)⟩,?_,?_⟩,?_⟩
  · intro m
    have qt:=xB.af.on m;show (match (if s.pool.state m=2 then none else s.on m) with | none=>gone x.f (jZ s.pool 2) m=none | some g=> ∃v,gone x.f (jZ s.pool 2) m=some v∧fV x.h v g)
    unfold gone;by_cases hm:s.pool.state m=2
    · rw [if_pos hm,if_pos (uU.2 ⟨ia (by omega),hm⟩)]
    · rw [if_neg hm,if_neg (fun h=>hm (uU.1 h).2)]
      exact qt
  · show (0:Int)≤s.floor+s.acts.length
    omega
  · show s.floor+s.acts.length+((0:Nat):Int)≤ _
    omega
  · refine h12.perm ?_
    unfold fc;show _=(Pr.star (Pr.pts v (.cells #[.pointer (some ⟨x.p,0,none⟩),.map (some x.mb),.slice none 0 0,.int .i64 (s.floor+s.acts.length)] 108)) ((eP x.p s.pool.settled).star ((fD Tryz.prog 3 x.mb (gone x.f (jZ s.pool 2))).star ((Row 169 2 (.slice none 0 0) 0 []).star (Pr.own x.h))))).star F
    rw [Row.nil,Pr.fK];ac_rfl
 case stop=>
  intro D c pre W2 _ hst hs;exact(Sat.pure.1 (hs.perm (Pr.dP _ _ _))).1.elim
end Go.Proofs.YtiegeadmgpanoaaGreatDoor.D2
namespace Go.Proofs.YtiegeadmgpanoaaGreatDoor.D2
open ChangeShapes WideShapes ChangeAt RowKit Sl fB L3 Z3
theorem FT(v:Nat)(ak:Option Addr)(mk ck:Nat)(c:Int)(vv:Value)(hp:Hp)(V:List Int)(hV:Bytes hp vv V)(hv:V.length≤32)(F:Pr)(w:World)(hF:Sat F w)(hle:hp.le w):
 Calls Tryz.prog 50 #[.pointer (some ⟨v,0,none⟩),.agg #[.slice ak mk ck,vv,.int .i64 c,.int .i64 V.length]] w fun e w'=>
  dN w w'∧∃o,e= .returned (.tuple #[o,.int .i64 0])∧Sat ((dM o V).star F) w':=by
 obtain⟨_,av,cv,rfl,_,_,_⟩:=id hV;have h1:=hF.alloc (.cells #[.slice ak mk ck,.slice av V.length cv,.int .i64 c,.int .i64 V.length] 89)
 have A0:hp.le (w.alloc (.cells #[.slice ak mk ck,.slice av V.length cv,.int .i64 c,.int .i64 V.length] 89)):=
  fun k o e=>(((eV.refl w).alloc _).heap k (aA.1 (hle k o e)).1).trans (hle k o e)
 have C:=hQ (xm hp _ V _ _ h1 A0 hV (by omega));clear h1 A0 hF hle hV;go_enter Tryz.func50,Tryz.ntmps50
 go_wp2_with fail
 refine C.af.mono ?_;rintro e w1 ⟨o,rfl,h2,hst⟩;have H2:=hQ (h2.perm (Pr.eD _ _ _)).right;clear h2 C;go_wp2;go_ret2;exact⟨((dN.refl w).alloc _).trans hst,o,rfl,H2.af⟩
end Go.Proofs.YtiegeadmgpanoaaGreatDoor.D2
namespace Go.fB
def ZA(next:Int):List Int:=if next=0 then [] else [next]
end Go.fB
namespace Go.Proofs.YtiegeadmgpanoaaGreatDoor.K5
open ChangeShapes WideShapes ChangeAt RowKit Sl fB D2 L3 Z3
end Go.Proofs.YtiegeadmgpanoaaGreatDoor.K5
namespace Go.fB
def XA(V:List Int):Nat:=if V.length≤32 then 0 else chunks V
theorem Bp {s:eC}{V:List Int}:∀ {k j:Nat} {c:Int} {ns:List Int},mE s V k j c ns→∀n∈ns,s.pool.count n=1:=by
 intro k;induction k with
 | zero=>intro j c ns h;rw [h.2];simp
 | succ k ih=>
   intro j c ns h n hn;obtain⟨c',Lc,rfl,_,h3,_,h5⟩:=h;rcases aR.1 hn with rfl | hn
   · exact h3
   · exact ih h5 n hn
theorem Di {s s':eC}{V:List Int}{k j:Nat}{c:Int}{ns Lc:List Int}(h:mE s V k j c ns)(ok:hU s.pool)(ht:xT s s' Lc):mE s' V k j c ns:=by
 refine Fz (fun n hn=> ?_) h;have h1:=Bp h n hn;exact ht.same n (fun hm=>by have:=jd ok (ht.free n hm);omega)
end Go.fB
namespace Go.Proofs.YtiegeadmgpanoaaGreatDoor.D2
open ChangeShapes WideShapes ChangeAt RowKit Sl fB L3 Z3 E5
def oC(s:eC)(h:Hp)(kv vv:Value)(c:Int)(V:List Int):Prop:=
 we kv∧we vv∧((V.length≤32∧Bytes h vv V)∨((32<V.length∧V.length≤3840)∧vv= .slice none 0 0∧∃ns,mE s V (chunks V) 0 c ns))
theorem oC.sub {s:eC}{h h':Hp}{kv vv:Value}{c:Int}{V:List Int}(hs:h.sub h')(x:oC s h kv vv c V):oC s h' kv vv c V:=
 ⟨x.1,x.2.1,x.2.2.imp (fun y=>⟨y.1,y.2.sub hs⟩) id⟩
theorem oC.taken {s s':eC}{h:Hp}{kv vv:Value}{c:Int}{V:List Int}{ns:List Int}(ok:hU s.pool)(ht:xT s s' ns)(x:oC s h kv vv c V):oC s' h kv vv c V:=
 ⟨x.1,x.2.1,x.2.2.imp id (fun⟨y1,y2,m,y3⟩=>⟨y1,y2,m,Di y3 ok ht⟩)⟩
theorem xM(v:Nat)(s:eC)(h:Hp)(kv vv:Value)(c:Int)(V:List Int)(hs:oC s h kv vv c V)(F:Pr)(w:World)(hF:Sat ((dZ v s).star ((Pr.own h).star F)) w):
 Calls Tryz.prog 50 #[.pointer (some ⟨v,0,none⟩),.agg #[kv,vv,.int .i64 c,.int .i64 V.length]] w fun e w'=>
  dN w w'∧∃o,e= .returned (.tuple #[o,.int .i64 0])∧Sat ((dM o V).star ((dZ v s).star ((Pr.own h).star F))) w':=by
 obtain⟨⟨ak,mk,ck,rfl⟩,_,(⟨h1,h2⟩ | ⟨h1,rfl,ns,h2⟩)⟩:=hs
 · refine FT v ak mk ck c vv h V h2 h1 _ w hF ?_
   exact(hF.perm (Pr.eD _ _ _)).own
 · exact IX v s ak mk ck c V ns h2 h1 _ w hF
end Go.Proofs.YtiegeadmgpanoaaGreatDoor.D2
namespace Go.fB
def eC.freed(s:eC)(n:Int):eC:= { s with pool:=s.pool.did n (-1),on:=fun m=>if m=n then none else s.on m }
end Go.fB
namespace Go.Proofs.YtiegeadmgpanoaaGreatDoor.D2
open ChangeShapes WideShapes ChangeAt RowKit Sl fB L3 Z3
theorem Lm {h:Hp}{f:Int→Option Value}{on:Int→Option dR}(hO:po h f on)(n:Int):po h (fun m=>if m=n then none else f m) (fun m=>if m=n then none else on m):=by
 intro m;dsimp only;by_cases hm:m=n
 · simp only [hm,if_true]
 · simp only [hm,if_false];exact hO m
theorem Ln {h:Hp}{ws:List gI}{was:List (Int × Option dR)}(hw:qQ h ws was){X:gI}{y:Int × Option dR}(hr:o5 h X y):qQ h (ws++ [X]) (was++ [y]):=by
 refine⟨by simp [hw.1],fun i h1 h2=> ?_⟩;rcases aB i was.length with hlt | hge
 · have hx:i<ws.length:=by rw [hw.1];exact hlt
   rw [bz hx,bz hlt];exact hw.2 i hx hlt
 · have h3:i=was.length:=by simp at h2;omega
   subst h3;have hx:ws.length≤was.length:=by rw [hw.1];omega
   rw [bj hx,bj hge];simpa using hr
theorem x'(p:Nat)(s:ef)(n:Int)(F:Pr)(w:World)(hF:Sat ((eP p s).star F) w):
 Calls Tryz.prog 105 #[.pointer (some ⟨p,0,none⟩),.int .i64 n] w fun e w'=>e= .returned (.int .i64 (s.state n))∧w=w':=
 nS p n w s (kM hF).2.1
theorem QC(v:Nat)(s:eC)(ab:Nat)(mark:Int)(was:List (Int × Option dR))(n:Int)(hn:1≤n∧n≤65536)(hs:s.pool.state n=1)(hl:was.length≤65536)(F:Pr)(w:World)
 (hF:Sat ((td v s ab mark was).star F) w):
 Calls Tryz.prog 104 #[.pointer (some ⟨v,0,none⟩),.pointer (some ⟨ab,0,none⟩),.int .i64 n] w fun e w'=>
  e= .returned (.tuple #[])∧Sat ((td v { s with on:=fun m=>if m=n then none else s.on m } ab mark (was++ [(n,s.on n)])).star F) w'∧dN w w':=by
 obtain⟨x,wv,ws,ok,oL,hF⟩:=j3.1 hF
 have h1:Sat ((eP x.p s.pool).star ((Pr.pts v (.cells #[.pointer (some ⟨x.p,0,none⟩),.map (some x.mb),x.av,.int .i64 s.floor] 108)).star
  ((((fD Tryz.prog 3 x.mb x.f).star ((Row 169 2 x.av s.acts.length (eI x.kA)).star (Pr.own x.h)))).star (((Pr.pts ab (.cells #[.int .i64 mark,wv] 169)).star (Row 194 7 wv ws.length (ws.flatMap gI.cells))).star F)))) w:=hF.perm (by unfold kr fc;ac_rfl)
 have qv:w.cell? ⟨v,0,none⟩=some (.pointer (some ⟨x.p,0,none⟩)):=by rw [cell_of_heap h1.right.dL];rfl
 have P:=x' x.p s.pool n _ w h1;rw [hs] at P;have HP:=hQ P;have N:=hQ (G6 v s x ab mark wv ws n hn ok.on (by rw [oL.1];exact hl) F w hF);clear h1 P hF;go_enter Tryz.func104,Tryz.ntmps104
 go_wp2_with fail
 refine HP.af.mono ?_;rintro e w1 ⟨rfl,rfl⟩;go_wp2_with fail
 refine N.af.mono ?_;rintro e w1 ⟨rfl,⟨Fi,X,hX,h4⟩,hst⟩
 have h5:Sat ((fD Tryz.prog 3 x.mb x.f).star ((Pr.pts v (.cells #[.pointer (some ⟨x.p,0,none⟩),.map (some x.mb),x.av,.int .i64 s.floor] 108)).star
  (((eP x.p s.pool).star ((Row 169 2 x.av s.acts.length (eI x.kA)).star (Pr.own x.h))).star (((Pr.pts ab (.cells #[.int .i64 mark,Fi] 169)).star (Row 194 7 Fi (ws++ [X]).length ((ws++ [X]).flatMap gI.cells))).star F)))) w1:=h4.perm (by unfold kr fc;ac_rfl)
 have q1:w1.cell? ⟨v,1,none⟩=some (.map (some x.mb)):=by rw [cell_of_heap h5.right.dL];rfl
 have H5:=hQ h5;clear h5 h4 qv N HP;go_wp2_with (refine EE rfl _ _ _ rfl Tryz.underlying3 Tryz.underlying105 n hn rfl rfl H5.af ?_;intro w2 hs2 hg2;have lK:=hQ hs2;have HG2:=hQ hg2;clear hs2 hg2)
 trace_state
 first | refine bodyPost_ret (results_none rfl _ _ _) rfl ?_ | go_end0
 refine⟨rfl,j3.2 ⟨{ x with f:=fun m=>if m=n then none else x.f m },Fi,ws++ [X],⟨Lm ok.on n,ok.acts,ok.f0,ok.fb⟩,Ln oL hX,?_⟩,hst.eH HG2.af⟩;exact lK.af.perm (by unfold kr fc;dsimp only;ac_rfl)
end Go.Proofs.YtiegeadmgpanoaaGreatDoor.D2
namespace Go.fB
def eC.Lp(s:eC):List Int→eC
 | []=>s
 | n :: ns=>(s.freed n).Lp ns
end Go.fB
namespace Go.Proofs.YtiegeadmgpanoaaGreatDoor.N5
open ChangeShapes WideShapes ChangeAt RowKit Sl fB D2 L3 Z3 K5
end Go.Proofs.YtiegeadmgpanoaaGreatDoor.N5
namespace Go.fB
end Go.fB
namespace Go.Proofs.YtiegeadmgpanoaaGreatDoor.D2
open ChangeShapes WideShapes ChangeAt RowKit Sl fB L3 Z3 K5 N5
def aal(s:eC)(c:Int)(V:List Int)(ns:List Int):Prop:=(V.length≤32∧ns= [])∨((32<V.length∧V.length≤3840)∧mE s V (chunks V) 0 c ns)
end Go.Proofs.YtiegeadmgpanoaaGreatDoor.D2
namespace Go.Proofs.YtiegeadmgpanoaaGreatDoor.D2
open ChangeShapes WideShapes ChangeAt RowKit Sl fB L3 Z3
abbrev r_(h:Hp)(v:Value)(l:List Int):Prop:=gj h 1 v l.length (l.map (Value.int .i64))
theorem ya(h:Hp)(v:Value)(l:List Int)(F:Pr)(w:World)(hF:Sat F w)(hh:h.le w)(hx:r_ h v l)(hn:l.length≤65536):
 Calls Tryz.prog 84 #[v] w fun e w'=> ∃v',e= .returned v'∧Sat ((dX v' l).star F) w'∧dN w w':=by
 obtain⟨_,ad,c,rfl,hnc,hcm,hcell⟩:=id hx;have he:∀wx:World,(binOp .eql 22 (.slice ad l.length c) (.slice none 0 0)).run Tryz.prog wx= .ok (.bool ad.isNone) wx:=fun wx=>Lib.run_eql_slice_nil wx _ _ ad _ c 0 0 Tryz.underlying22
 cases ad with
 | none=>
   have hl:l.length=0:=by
    rcases bI l.length with h0 | h0
    · exact h0
    · obtain⟨b,off,e1,_⟩:=hcell (by omega);cases e1
   have hl2:l= []:=aM hl;have HF:=hQ hF;have HL:=hQ hl2;clear hF hx hcell hh hl2 hl;go_enter Tryz.func84,Tryz.ntmps84
   go_wp2;go_ret;refine⟨_,rfl,?_,dN.refl w⟩;have h1:=HF.af;have h2:=HL.af;subst h2;rw [← Sat.emp, ← Row.nil 3 1] at h1;exact h1
 | some ad=>
   have hnew:Sat ((Row 3 1 (.slice (some ⟨w.heap.size,0,none⟩) 0 0) 0 []).star F) (w.alloc (.cells #[] 3)):=
    Row.mk' (xs:= []) (sp:= []) (by simp) (by simp) (aD _) (by simp) (by simpa using hF.alloc (.cells #[] 3))
   have hle:h.le (w.alloc (.cells #[] 3)):=fun k o e=>(Below.heap_alloc w _ k (aA.1 (hh k o e)).1).trans (hh k o e)
   have HF:=hQ hnew;have HX:=hQ hx;have HH:=hQ hle;clear hF hx hcell hh hnew hle;go_enter Tryz.func84,Tryz.ntmps84
   obtain⟨i0,hi,hz0,hz1,jg⟩:=info_parts mA;go_wp2_with (at_builtin;refine gB rfl _ _ _ rfl 3 i0 (.int .i64 0) 1 8 Tryz.underlying22 hi hz0 hz1 jg rfl _ _ _ rfl HF.af h HH.af _ _ _ rfl HX.af (by simp [Value.oneCell']) (by simp only [maxLen];omega) (by omega) ?_;intro v' w1 hJ hgr _;have ja:=hQ hJ;clear hJ)
   go_ret;refine⟨_,rfl,?_,((dN.refl w).alloc _).eH hgr⟩;have h1:=ja.af;rw [Nat.zero_add,List.nil_append] at h1;exact h1
theorem Lq(p:Nat)(s:ef)(F:Pr)(w:World)(hF:Sat ((eP p s).star F) w):
 Calls Tryz.prog 44 #[.pointer (some ⟨p,0,none⟩)] w fun e w'=> ∃v',e= .returned v'∧Sat ((dX v' s.counts).star ((eP p s).star F)) w'∧dN w w':=by
 obtain⟨ok,cv,lv,fb,av,hA⟩:=jl.1 hF;have o9:Sat ((Pr.pts p (.cells (eO s cv lv fb av) 159)).star ((dX cv s.counts).star ((eK lv s.last).star ((f_ fb fun m=>s.state m=1).star ((i' p av s.acts).star F))))) w:=hA.perm (by unfold k_;ac_rfl);have q1:w.cell? ⟨p,1,none⟩=some cv:=by rw [cell_of_heap o9.dL];rfl
 obtain⟨x,⟨a,f,ha,hf,hd,rfl⟩,hl⟩:=o9.right;have C:=hQ (ya a cv s.counts _ w hF ((Hp.Cc hd).1 hl).1 (Row.jh ha) ok.n2);clear hA o9 hF ha hf hd hl;go_enter Tryz.func44,Tryz.ntmps44
 go_wp2_with fail
 refine C.af.mono ?_;rintro e w1 ⟨v',rfl,h1,hst⟩;have H1:=hQ h1;clear h1;go_wp2;go_ret;exact⟨_,rfl,H1.af,hst⟩
theorem oW {h:Hp}{v:Value}{V:List Int}(hb:r_ h v V):∃a c,v= .slice a V.length c∧∀i,i<V.length→∃b off,a=some ⟨b,off,none⟩∧∀w,h.le w→w.cell? ⟨b,off+i,none⟩=some (.int .i64 (V.getD i 0)):=by
 obtain⟨hl,a,c,e,_,_,hc⟩:=hb;refine⟨a,c,e,fun i hi=> ?_⟩;obtain⟨b,off,e1,e2⟩:=hc (by omega);refine⟨b,off,e1,fun w hw=> ?_⟩;refine Hp.kG hw ((e2 i (by omega)).trans ?_);simp [hi]
theorem Dj(ha hb:Hp)(va vb:Value)(V:List Int)(h1:r_ ha va V)(h2:r_ hb vb V)(hn:V.length≤65536)(w:World)(l1:ha.le w)(l2:hb.le w):
 Calls Tryz.prog 24 #[va,vb] w fun e w'=>e= .returned (.bool true)∧eV w w':=by
 obtain⟨a,c,rfl,r1⟩:=oW h1;obtain⟨a',c',rfl,r2⟩:=oW h2;have R1:=hQ r1;have R2:=hQ r2;have L1:=hQ l1;have L2:=hQ l2;clear r1 r2 h1 h2 l1 l2;go_enter Tryz.func24,Tryz.ntmps24
 go_wp2;go_loopw [5] (fun i wr=> ∃k:Nat,k≤V.length∧i= .int .i64 k∧eV w wr) (fun i _=>V.length-(intOf i).toNat)
 case atStart=>exact⟨0,aG _,rfl,eV.refl w⟩
 case round=>
  obtain⟨k,hk,rfl,ho⟩:=hrel;rcases aB k V.length with hlt | hge
  · obtain⟨b,off,rfl,c1⟩:=R1.af k hlt
    obtain⟨b',off',rfl,c2⟩:=R2.af k hlt;have q1:=c1 wr (fun k o e=>(ho.heap k (aA.1 (L1.af k o e)).1).trans (L1.af k o e));have q2:=c2 wr (fun k o e=>(ho.heap k (aA.1 (L2.af k o e)).1).trans (L2.af k o e));have HO:=hQ ho;clear c1 c2 ho;generalize V.getD k 0=x at*;go_wp2;go_region
    go_wp2;go_roundw
    case rel=>exact⟨k+1,by omega,by go_num,HO.af.drew⟩
    case measure=>simp [intOf];omega
  · have hkl:k=V.length:=by omega
    subst hkl;go_wp2;go_ret;exact⟨rfl,ho⟩
end Go.Proofs.YtiegeadmgpanoaaGreatDoor.D2
namespace Go.Proofs.YtiegeadmgpanoaaGreatDoor.D2
open ChangeShapes WideShapes ChangeAt RowKit Sl fB L3 Q3
theorem Oh(h:Hp)(v:Value)(cs:List Int)(hx:r_ h v cs)(hn:1≤cs.length)(rH:cs.length≤65536)(w:World)(hh:h.le w):
 Calls Tryz.prog 119 #[v] w fun e w'=>(∃m,e= .returned (.int .i64 m)∧∀t,m<t↔∃c∈cs,c<t)∧w=w':=by
 obtain⟨a,c,rfl,rd⟩:=oW hx;obtain⟨b,off,rfl,c0⟩:=rd 0 (by omega);have q0:=c0 w hh;rw [Nat.add_zero] at q0;have hl:((cs.length:Int)<1)=False:=eq_false (by omega);have RD:=hQ rd;have HH:=hQ hh;have HN:=hQ hn;clear rd hx c0 hh;go_enter Tryz.func119,Tryz.ntmps119
 go_wp2;go_loopw [3,4] (fun m i wr=> ∃(k:Nat) (mm:Int),1≤k∧k≤cs.length∧m= .int .i64 mm∧i= .int .i64 k∧wr=w∧Hid (∀t,mm<t↔∃c∈cs.take k,c<t)) (fun _ i _=>cs.length-(intOf i).toNat)
 case atStart=>
  refine⟨1,cs.getD 0 0,aD _,HN.af,rfl,rfl,rfl,hQ fun t=> ?_⟩;have hn:=HN.af;cases cs with
  | nil=>simp at hn
  | cons x l=>simp
 case round=>
  obtain⟨k,mm,hk1,hk,rfl,rfl,rfl,hc⟩:=hrel;rcases aB k cs.length with hlt | hge
  · obtain⟨b',off',e',c1⟩:=RD.af k hlt
    cases e';have q1:=c1 wr HH.af;have hget:cs.getD k 0=cs[k]:=by simp [hlt]
    have HT:=hQ (show ∀t,(∃c∈cs.take (k+1),c<t)↔(∃c∈cs.take k,c<t)∨cs.getD k 0<t by
     intro t
     rw [aF hlt,hget]
     constructor
     · rintro⟨c,hc,h⟩
       rcases aK.1 hc with h1 | h1
       · exact .inl ⟨c,h1,h⟩
       · rw [aC.1 h1] at h;exact .inr h
     · rintro(⟨c,h1,h⟩ | h)
       · exact⟨c,bf _ h1,h⟩
       · exact⟨_,bT _ (aC.2 rfl),h⟩)
    clear c1 hget;generalize cs.getD k 0=x at*;go_wp2;go_roundw
    case rel=>
     refine⟨k+1,_,by omega,by omega,rfl,congrArg (Value.int .i64) (by omega),trivial,hQ fun t=> ?_⟩;rw [HT.af, ← hc.af];omega
    case measure=>simp [intOf];omega
  · have hkl:k=cs.length:=by omega
    subst hkl;have HC:=hQ hc.af;clear hc;go_wp2;go_ret;refine⟨⟨mm,rfl,?_⟩,rfl⟩;have:=HC.af
    rw [bE] at this;exact this
theorem Oi(h:Hp)(v:Value)(cs:List Int)(hx:r_ h v cs)(hn:1≤cs.length)(rH:cs.length≤65536)(w:World)(hh:h.le w):
 Calls Tryz.prog 120 #[v] w fun e w'=>(∃m,e= .returned (.int .i64 m)∧∀t,t<m↔∃c∈cs,t<c)∧w=w':=by
 obtain⟨a,c,rfl,rd⟩:=oW hx;obtain⟨b,off,rfl,c0⟩:=rd 0 (by omega);have q0:=c0 w hh;rw [Nat.add_zero] at q0;have hl:((cs.length:Int)<1)=False:=eq_false (by omega);have RD:=hQ rd;have HH:=hQ hh;have HN:=hQ hn;clear rd hx c0 hh;go_enter Tryz.func120,Tryz.ntmps120
 go_wp2;go_loopw [3,4] (fun m i wr=> ∃(k:Nat) (mm:Int),1≤k∧k≤cs.length∧m= .int .i64 mm∧i= .int .i64 k∧wr=w∧Hid (∀t,t<mm↔∃c∈cs.take k,t<c)) (fun _ i _=>cs.length-(intOf i).toNat)
 case atStart=>
  refine⟨1,cs.getD 0 0,aD _,HN.af,rfl,rfl,rfl,hQ fun t=> ?_⟩;have hn:=HN.af;cases cs with
  | nil=>simp at hn
  | cons x l=>simp
 case round=>
  obtain⟨k,mm,hk1,hk,rfl,rfl,rfl,hc⟩:=hrel;rcases aB k cs.length with hlt | hge
  · obtain⟨b',off',e',c1⟩:=RD.af k hlt
    cases e';have q1:=c1 wr HH.af;have hget:cs.getD k 0=cs[k]:=by simp [hlt]
    have HT:=hQ (show ∀t,(∃c∈cs.take (k+1),t<c)↔(∃c∈cs.take k,t<c)∨t<cs.getD k 0 by
     intro t
     rw [aF hlt,hget]
     constructor
     · rintro⟨c,hc,h⟩
       rcases aK.1 hc with h1 | h1
       · exact .inl ⟨c,h1,h⟩
       · rw [aC.1 h1] at h;exact .inr h
     · rintro(⟨c,h1,h⟩ | h)
       · exact⟨c,bf _ h1,h⟩
       · exact⟨_,bT _ (aC.2 rfl),h⟩)
    clear c1 hget;generalize cs.getD k 0=x at*;go_wp2;go_roundw
    case rel=>
     refine⟨k+1,_,by omega,by omega,rfl,congrArg (Value.int .i64) (by omega),trivial,hQ fun t=> ?_⟩;rw [HT.af, ← hc.af];omega
    case measure=>simp [intOf];omega
  · have hkl:k=cs.length:=by omega
    subst hkl;have HC:=hQ hc.af;clear hc;go_wp2;go_ret;refine⟨⟨mm,rfl,?_⟩,rfl⟩;have:=HC.af
    rw [bE] at this;exact this
theorem zQ(n r:Int)(w:World):Calls Tryz.prog 118 #[.int .i64 n,.int .i64 r] w fun e w'=>e= .returned (.bool (i7 n r))∧w=w':=by
 have fin:∀(b:Bool),b=i7 n r→Ending.returned (Value.bool b)=Ending.returned (Value.bool (i7 n r)):=fun b e=>by rw [e]
 by_cases h1:1≤n
 · by_cases h2:n≤65536
   · by_cases h3:2≤r
     · go_enter Tryz.func118,Tryz.ntmps118
       go_wp2;go_ret;refine⟨fin _ ?_,rfl⟩;rw [aL];simp [i7,h1,h2,h3]
     · go_enter Tryz.func118,Tryz.ntmps118
       go_wp2;go_ret;refine⟨fin _ ?_,rfl⟩;rw [aL];simp [i7];omega
   · go_enter Tryz.func118,Tryz.ntmps118
     go_wp2;go_ret;refine⟨fin _ ?_,rfl⟩;rw [aL];simp [i7];omega
 · go_enter Tryz.func118,Tryz.ntmps118
   go_wp2;go_ret;refine⟨fin _ ?_,rfl⟩;rw [aL];simp [i7];omega
theorem yb {refs:Int}{cs:List Int}(h:wh refs cs=false):∀c∈cs,0≤c∧c≤refs:=by
 intro c hc;have:=List.any_eq_false.1 h c hc
 simp only [decide_eq_true_eq] at this;omega
theorem Dk {refs:Int}{cs:List Int}(h:∃c∈cs,c<0):wh refs cs=true:=by
 obtain⟨c,hc,h⟩:=h;exact dI.2 ⟨c,hc,by simp only [decide_eq_true_eq];exact .inl h⟩
theorem Dl {refs:Int}{cs:List Int}(h:∃c∈cs,refs<c):wh refs cs=true:=by
 obtain⟨c,hc,h⟩:=h;exact dI.2 ⟨c,hc,by simp only [decide_eq_true_eq];exact .inr h⟩
theorem Lr {refs:Int}{cs:List Int}(h1:¬∃c∈cs,c<0)(h2:¬∃c∈cs,refs<c):wh refs cs=false:=by
 refine List.any_eq_false.2 fun c hc=> ?_
 simp only [decide_eq_true_eq];rintro(h | h)
 · exact h1 ⟨c,hc,h⟩
 · exact h2 ⟨c,hc,h⟩
theorem l7 {n r:Int}:i7 n r=true↔(1≤n∧n≤65536∧2≤r∧r<65536):=by unfold i7;exact decide_eq_true_iff
theorem vJ {refs:Int}{cs:List Int}(h:i7 cs.length refs=true)(hb:wh refs cs=false):hU (fA refs cs 0):=by
 obtain⟨h1,h2,h3,h4⟩:=l7.1 h;refine⟨?_,?_,?_,h3,h4,fun c hc=> ?_,aY _,by simp⟩
 · show 1≤cs.length;omega
 · show cs.length≤65536;omega
 · simp [fy]
 · have:=yb hb c hc;omega
theorem I7(refs:Int)(h:Hp)(v:Value)(cs:List Int)(hx:r_ h v cs)(F:Pr)(w:World)(hF:Sat ((Pr.own h).star F) w):
 Calls Tryz.prog 75 #[.int .i64 refs,v] w fun e w'=>dN w w'∧
  ((i7 cs.length refs=false∧e= .returned (.tuple #[.pointer none,.int .i64 1])∧Sat ((Pr.own h).star F) w')∨
   (i7 cs.length refs=true∧wh refs cs=true∧e= .returned (.tuple #[.pointer none,.int .i64 13])∧Sat ((Pr.own h).star F) w')∨
   (i7 cs.length refs=true∧wh refs cs=false∧∃p,e= .returned (.tuple #[.pointer (some ⟨p,0,none⟩),.int .i64 0])∧Sat ((eP p (fA refs cs 0)).star ((Pr.own h).star F)) w')):=by
 have hx0:=hx;obtain⟨_,a,c,rfl,_⟩:=hx0;cases hr:i7 cs.length refs with
 | false=>
   have R:=fun wx=>hQ (zQ cs.length refs wx)
   rw [hr] at R;go_enter Tryz.func75,Tryz.ntmps75
   go_wp2_with fail
   refine(R _).af.mono ?_;rintro e w1 ⟨rfl,rfl⟩;go_wp2;go_ret2;exact⟨dN.refl _,.inl ⟨trivial,rfl,hF⟩⟩
 | true=>
   obtain⟨n1,n2,n3,n4⟩:=l7.1 hr;have R:=fun wx=>hQ (zQ cs.length refs wx)
   rw [hr] at R;have MI:=hQ (Oh h _ cs hx (by omega) (by omega) w hF.own);have MA:=hQ (Oi h _ cs hx (by omega) (by omega) w hF.own);have OK:=fun hb=>hQ (vJ hr hb)
   have CL:=hQ (ya h _ cs _ w hF hF.own hx (by omega));have HF:=hQ hF;clear hF hx hr n1 n2 n3 n4;go_enter Tryz.func75,Tryz.ntmps75
   go_wp2_with fail
   refine(R _).af.mono ?_;rintro e w1 ⟨rfl,rfl⟩;go_wp2_with fail
   refine MI.af.mono ?_;rintro e w1 ⟨⟨mi,rfl,RV⟩,rfl⟩;have ZB:=hQ RV;clear RV;by_cases h0:mi<0
   · go_wp2
     go_ret2;exact⟨dN.refl _,.inr (.inl ⟨trivial,Dk ((ZB.af 0).1 h0),rfl,HF.af⟩)⟩
   · go_wp2_with fail
     refine MA.af.mono ?_;rintro e w1 ⟨⟨ma,rfl,ZC⟩,rfl⟩;have ZD:=hQ ZC;clear ZC;by_cases h1:refs<ma
     · go_wp2
       go_ret2;exact⟨dN.refl _,.inr (.inl ⟨trivial,Dl ((ZD.af refs).1 h1),rfl,HF.af⟩)⟩
     · have hb:wh refs cs=false:=Lr (fun h=>absurd ((ZB.af 0).2 h) (by omega)) (fun h=>absurd ((ZD.af refs).2 h) (by omega))
       have HB:=hQ hb;have hok:=hQ (OK hb).af;clear hb;go_wp2_with fail
       refine CL.af.mono ?_;rintro e w1 ⟨v',rfl,hs1,wu⟩;obtain⟨a',c',ev,_,_⟩:=Row.read hs1;subst ev;have OV:=hQ (K6 refs _ cs _ w1 hs1 hok.af);go_wp2_with fail
       refine OV.af.mono ?_;rintro e w2 ⟨p,rfl,hs2,jq⟩;have H2:=hQ hs2;clear hs1 hs2;go_wp2;go_ret2;exact⟨wu.trans jq,.inr (.inr ⟨trivial,HB.af,p,rfl,H2.af⟩)⟩
end Go.Proofs.YtiegeadmgpanoaaGreatDoor.D2
namespace Go.Proofs.YtiegeadmgpanoaaGreatDoor.D2
open ChangeShapes WideShapes ChangeAt RowKit Sl fB L3 Z3
theorem jf(h:Hp)(v:Value)(l:List Int)(F:Pr)(w:World)(hF:Sat ((Pr.own h).star F) w)(hx:Bytes h v l)(hn:l.length≤140737488355328):
 Calls Tryz.prog 58 #[v] w fun e w'=> ∃v',e= .returned v'∧Sat ((dM v' l).star ((Pr.own h).star F)) w'∧dN w w':=by
 obtain⟨a,c,rfl,r1⟩:=eL hx;obtain⟨i0,hi,hz0,hz1,jg⟩:=info_parts kY
 have hmk:∀wx:World,(Instr.makeSlice 42 (.int .i64 0) (.int .i64 (l.length:Int))).run Tryz.prog wx= .ok (.slice (some ⟨wx.heap.size,0,none⟩) 0 l.length) (wx.alloc (.cells (madeCells #[.int .u8 0] l.length) 5)):=by
  intro wx;have:=run_make (P:=Tryz.prog) wx 42 5 i0 (.int .u8 0) Tryz.underlying42 hi hz0 .i64 .i64 0 l.length (by omega) (by omega) (by rw [jg];omega) (by omega)
  rw [hz1,Int.toNat_natCast,cM] at this;exact this
 have h2:=hQ (xY 5 (.int .u8 0) l.length (by simp only [maxLen];omega) hF);have R1:=hQ r1;clear hF hx r1;go_enter Tryz.func58,Tryz.ntmps58
 go_wp2;go_loopw [3,4] (fun o i wr=> ∃k:Nat,k≤l.length∧i= .int .i64 k∧dN w wr∧Sat ((dM o (l.take k)).star ((Pr.own h).star F)) wr) (fun _ i _=>l.length-(intOf i).toNat)
 case atStart=>exact⟨0,aG _,rfl,(dN.refl w).alloc _,h2.af⟩
 case round=>
  obtain⟨k,hk,rfl,hst,hs⟩:=hrel;have Fj:(l.take k).length=k:=by rw [aW];omega
  obtain⟨ao,co,eo,_,_⟩:=Row.read hs;rw [Fj] at eo;subst eo;rcases aB k l.length with hlt | hge
  · obtain⟨b,off,rfl,c1⟩:=R1.af k hlt
    have q1:=c1 wr hs.right.own
    have hs1:Sat ((Row 5 1 (.slice ao k co) k ((l.take k).map (Value.int .u8))).star ((Pr.own h).star F)) wr:=by
     have:=hs
     unfold dM at this;rw [Fj] at this;exact this
    have H1:=hQ (hs1.alloc (.cells #[.int .u8 (l.getD k 0)] 5)).right;have hnew:=hQ (eW wr [.int .u8 (l.getD k 0)] 5 _ rfl);have HT:=hQ (show l.take (k+1)=l.take k++ [l.getD k 0] by rw [aF hlt];simp [hlt]);have zb:=ay _ _ q1;clear hs hs1 c1;generalize l.getD k 0=x at*
    go_wp2_with (at_builtin;refine eu rfl _ _ _ rfl 5 i0 (.int .u8 0) 1 1 Tryz.underlying42 hi hz0 hz1 jg rfl _ _ _ rfl H1.af ⟨wr.heap.size,0,none⟩ 1 1 [.int .u8 x] rfl rfl hnew.af (by simp [Value.oneCell']) (by simp only [maxLen];omega) (by omega) ?_;intro v7 w4 fp mD _;obtain⟨Ke,Kf,xJ,_,_⟩:=Row.read fp;subst xJ;have lZ:=hQ fp;have qx:=hQ mD;clear fp mD)
    refine⟨⟨k+1,by omega,congrArg (Value.int .i64) (by omega),(hst.alloc _).eH qx.af,?_⟩,by simp [intOf];omega⟩;have hl2:(l.take (k+1)).length=k+1:=by rw [aW];omega
    unfold dM;rw [hl2,HT.af,aI];exact lZ.af
  · have hkl:k=l.length:=by omega
    subst hkl;have HS:=hQ hs;clear hs;go_wp2;go_ret;refine⟨_,rfl,?_,hst⟩;have:=HS.af
    rw [bE] at this;exact this
end Go.Proofs.YtiegeadmgpanoaaGreatDoor.D2
