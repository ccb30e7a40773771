/- (*Vault).back, whatever stood on the pages before; the conditions stand as hypotheses. -/
import Derived.Test.YtkfjilnmnbeokaaGreatPutInPlaceM16
import Derived.Test.YtkfjilnmnbeokaaGreatPutInPlaceM01
set_option maxRecDepth 100000
set_option maxHeartbeats 16000000
namespace Go.Cop
def restore(on:Int→Option PageV)(was:List (Int × Option PageV)):Int→Option PageV:=was.reverse.foldl (fun f y=>fun m=>if m=y.1 then y.2 else f m) on
theorem restore_snoc(on:Int→Option PageV)(was:List (Int × Option PageV))(y:Int × Option PageV):restore on (was++ [y])=restore (fun m=>if m=y.1 then y.2 else on m) was:=by
 unfold restore;rw [List.reverse_append,List.reverse_singleton,List.singleton_append,List.foldl_cons]
end Go.Cop
namespace Go.Proofs.YtkfjilnmnbeokaaGreat.X4
open ChangeShapes WideShapes ChangeAt RowKit Sl Cop Go.Shelf D2 D3 J3 N3 U3 V3 G2 J2 X3 Y3 E4 G4 L4 M4 P4 S4
attribute [local go_sem] Oper.semAt_some
def WasX.page(x:WasX):Option Value:=if x.th then some (pageV x.pk x.pl x.vi x.vd x.nx) else none
def putB(f:Int→Option Value)(l:List (Int × WasX)):Int→Option Value:=l.foldl (fun f y=>fun m=>if m=y.2.no then WasX.page y.2 else f m) f
theorem putB_nil(f:Int→Option Value):putB f []=f:=rfl
theorem putB_snoc(f:Int→Option Value)(l:List (Int × WasX))(y:Int × WasX):putB f (l++ [y])=fun m=>if m=y.2.no then WasX.page y.2 else putB f l m:=by
 unfold putB;rw [List.foldl_append];rfl
theorem backs_snoc(ws:List WasX)(X:WasX):backs (ws++ [X])=((ws.length:Int),X) :: backs ws:=by
 unfold backs;rw [List.zipIdx_append,List.map_append,List.reverse_append];simp
theorem onIn_back {h:Hp}:∀ {was:List (Int × Option PageV)} {ws:List WasX} {f:Int→Option Value} {on:Int→Option PageV},WasIn h ws was→OnIn h f on→OnIn h (putB f (backs ws)) (restore on was):=by
 intro was;induction hn:was.length generalizing was with
 | zero=>
   intro ws f on hw ho;have h1:was= []:=List.eq_nil_of_length_eq_zero hn;subst h1;have h2:ws= []:=List.eq_nil_of_length_eq_zero hw.1;subst h2;exact ho
 | succ n ih=>
   intro ws f on hw ho;have hne:was≠ []:=fun e=>by rw [e] at hn;simp at hn
   have hwe:ws≠ []:=fun e=>by have:=hw.1;rw [e] at this;simp at this;omega
   obtain⟨was',y,rfl⟩:∃l y,was=l++ [y]:=⟨was.dropLast,was.getLast hne,(List.dropLast_concat_getLast hne).symm⟩;obtain⟨ws',X,rfl⟩:∃l y,ws=l++ [y]:=⟨ws.dropLast,ws.getLast hwe,(List.dropLast_concat_getLast hwe).symm⟩;have hl:ws'.length=was'.length:=by have:=hw.1;simpa using this
   have hX:WasRel h X y:=by
    have:=hw.2 ws'.length (by simp) (by simp [hl])
    rw [List.getElem_append_right (Nat.le_refl _),List.getElem_append_right (by omega)] at this;simpa [hl] using this
   have hw':WasIn h ws' was':=⟨hl,fun i h1 h2=>by
    have:=hw.2 i (by simp;omega) (by simp;omega)
    rw [List.getElem_append_left h1,List.getElem_append_left h2] at this
    exact this⟩
   rw [restore_snoc,backs_snoc];show OnIn h (putB (fun m=>if m=X.no then WasX.page X else f m) (backs ws')) _
   refine ih (by simpa using hn) hw' ?_;intro m;obtain⟨h1,_,_,h4⟩:=hX;dsimp only;rw [h1];by_cases hm:m=y.1
   · rw [if_pos hm,if_pos hm]
     unfold WasX.page;cases hy:y.2 with
     | none=>
       rw [hy] at h4;rw [h4];rfl
     | some g=>
       rw [hy] at h4;rw [h4.1];exact⟨_,rfl,h4.2⟩
   · rw [if_neg hm,if_neg hm]
     exact ho m
theorem back_gen(v:Nat)(s:VaultS)(x:VX)(m:Nat)(cm:List Int)(wv:Value)(ws:List WasX)(hrow:RowIn x.h 7 wv ws.length (ws.flatMap WasX.cells))(hl:ws.length≤65536)(hws:∀X∈ws,(1≤X.no∧X.no≤65536)∧IsSl X.vi∧IsSl X.vd)
 (F:Pr) (w:World) (hF:Sat ((VaultAt v s x).star F) w) (hm:m≤s.pool.acts.length) (ht:Trail s.pool cm (s.pool.acts.drop m) s.pool.counts):
 Calls Tryz.prog 63 #[.pointer (some ⟨v,0,none⟩),.agg #[.int .i64 (s.pool.floor+m),wv]] w fun e w'=>
  e= .returned (.tuple #[])∧Sat ((VaultAt v { s with pool:= { s.pool with counts:=cm,acts:=s.pool.acts.take m } } { x with f:=putB x.f (backs ws) }).star F) w'∧Stays w w':=by
 have es:(w.alloc (.cells #[.pointer (some ⟨v,0,none⟩)] 24)).heap.size=w.heap.size+1:=by simp
 have h1:=(hF.alloc (.cells #[.pointer (some ⟨v,0,none⟩)] 24)).alloc (.cells #[.int .i64 (s.pool.floor+m),wv] 126);rw [es] at h1
 have h2:Sat ((PoolA x.p s.pool).star ((Pr.pts v (.cells #[.pointer (some ⟨x.p,0,none⟩),.map (some x.mb),x.av,.int .i64 s.floor] 70)).star ((Pr.pts w.heap.size (.cells #[.pointer (some ⟨v,0,none⟩)] 24)).star ((Pr.pts (w.heap.size+1) (.cells #[.int .i64 (s.pool.floor+m),wv] 126)).star
  ((((MapA Tryz.prog 3 x.mb x.f).star ((Row 126 2 x.av s.acts.length (actCells x.axs)).star (Pr.own x.h)))).star F))))) _:=h1.perm (by unfold VaultAt;ac_rfl)
 have qv:=cell_of_heap h2.right.pts_heap 0;have zv:=h2.right.lt;have U:=hQ (undo_any x.p s.pool m cm _ _ h2.drew hm ht);have HST:=hQ (((Stays.refl w).alloc (.cells #[.pointer (some ⟨v,0,none⟩)] 24)).alloc (.cells #[.int .i64 (s.pool.floor+m),wv] 126));obtain⟨_,aw,cw,rfl,_,_,_⟩:=id hrow;have HROW:=hQ hrow;have HWS:=hQ hws;clear h1 h2 hF es ht hrow hws
 refine calls_of_wp_marks (n:=9) Tryz.func63 rfl ?_;simp only [Tryz.ntmps63,List.size_toArray,List.length_cons,List.length_nil,Nat.reduceAdd,Nat.reduceSub,Array.replicate_succ,Array.replicate_zero,List.push_toArray,List.append_toArray,List.nil_append,List.cons_append];go_wp2;refine wS 34 [0,1,2,3,4,5] [(6,[],[0,1,2,4])] ?_
 iterate 6 (refine wpQ_step rfl rfl (fun K hK=> ?_);go_simp;refine hK _ ?_;clear hK K)
 refine wpQ_nil ?_;refine wpRest_act rfl ?_;go_wp2_with fail
 refine U.out.mono ?_;rintro e w1 ⟨rfl,h3,hst⟩
 have h4:Sat ((Pr.pts w.heap.size (.cells #[.pointer (some ⟨v,0,none⟩)] 24)).star ((Pr.pts (w.heap.size+1) (.cells #[.int .i64 (s.pool.floor+m),.slice aw ws.length cw] 126)).star ((Pr.pts v (.cells #[.pointer (some ⟨x.p,0,none⟩),.map (some x.mb),x.av,.int .i64 s.floor] 70)).star ((PoolA x.p { s.pool with counts:=cm,acts:=s.pool.acts.take m }).star ((MapA Tryz.prog 3 x.mb x.f).star ((Row 126 2 x.av s.acts.length (actCells x.axs)).star ((Pr.own x.h).star F))))))) w1:=h3.perm (by ac_rfl)
 have r0:w1.cell? ⟨w.heap.size,0,none⟩=some (.pointer (some ⟨v,0,none⟩)):=by rw [cell_of_heap h4.pts_heap];rfl
 have r1:w1.cell? ⟨w.heap.size+1,1,none⟩=some (.slice aw ws.length cw):=by rw [cell_of_heap h4.right.pts_heap];rfl
 have y0:=h4.lt;have y1:=h4.right.lt;have yv:=h4.right.right.lt;have H4:=hQ h4;have HST1:=hQ (HST.out.drew.trans hst);clear h3 h4 hst HST U qv zv;go_wp2;refine onN_mk (wpQ_nil ⟨?_,wpRest_nil ?_⟩)
 · refine chk_cons ?_ (chk_cons ?_ (chk_cons ?_ (chk_cons ?_ chk_nil)))<;>(refine yieldF_of rfl rfl rfl rfl ?_;go_simp;try omega)
 go_wp2_with fail
 refine(backward_any _ _ _ _).mono ?_;rintro e w2 ⟨rfl,rfl⟩;have h5:=H4.out.alloc (.cells #[.slice aw ws.length cw] 124);have H5:=hQ h5;have HST2:=hQ (HST1.out.alloc (.cells #[.slice aw ws.length cw] 124));clear h5 H4 HST1 y0 y1 yv r0 r1;generalize w1.heap.size=sb at*;generalize w1.alloc (.cells #[.slice aw ws.length cw] 124)=w2 at*;go_wp2
 refine wp_rangeFunc_sl 9 (gf:=143) rfl (enters_of Tryz.func143 (by kernel_rfl) rfl) (backward1 sb (.slice aw ws.length cw) x.h ws HROW.out hl) (fun _=>rfl)
  (fun pre=>(Pr.pts w.heap.size (.cells #[.pointer (some ⟨v,0,none⟩)] 24)).star ((Pr.pts (w.heap.size+1) (.cells #[.int .i64 (s.pool.floor+m),.slice aw ws.length cw] 126)).star ((Pr.pts v (.cells #[.pointer (some ⟨x.p,0,none⟩),.map (some x.mb),x.av,.int .i64 s.floor] 70)).star ((PoolA x.p { s.pool with counts:=cm,acts:=s.pool.acts.take m }).star ((MapA Tryz.prog 3 x.mb (putB x.f pre)).star ((Row 126 2 x.av s.acts.length (actCells x.axs)).star F)))))) (fun _ _=>Pr.pure False) ?start ?round ?done ?stop
 case start=>
  rw [putB_nil];exact H5.out.perm (by unfold BackOwn;ac_rfl)
 case round=>
  intro l' pre y W1 F1 hpre hs;have hmem:=HWS.out y.2 (backs_mem (hpre.subset (List.mem_append_right _ (List.mem_singleton_self y))));obtain⟨i,no,pk,pl,vi,vd,nx,th⟩:=y;obtain⟨hno,⟨a1,m1,c1,e1⟩,⟨a2,m2,c2,e2⟩⟩:=hmem;dsimp only at hno e1 e2;subst e1;subst e2;cases th with
  | false=>
    have HS1:=hQ hs;clear hs;simp only [encW,WasX.cells];gi_wp2
    have hsA:=HS1.out.alloc (.cells #[.int .i64 no,.int .i64 pk,.int .i64 pl,.slice a1 m1 c1,.slice a2 m2 c2,.int .i64 nx,.bool false] 164);obtain⟨B,hB⟩:∃B,W1.heap.size=B:=⟨_,rfl⟩;rw [hB] at hsA ⊢
    refine⟨(Stays.refl _).alloc _,(Pr.pts B (.cells #[.int .i64 no,.int .i64 pk,.int .i64 pl,.slice a1 m1 c1,.slice a2 m2 c2,.int .i64 nx,.bool false] 164)).star (((Pr.pts w.heap.size (.cells #[.pointer (some ⟨v,0,none⟩)] 24)).star ((Pr.pts (w.heap.size+1) (.cells #[.int .i64 (s.pool.floor+m),.slice aw ws.length cw] 126)).star ((Pr.pts v (.cells #[.pointer (some ⟨x.p,0,none⟩),.map (some x.mb),x.av,.int .i64 s.floor] 70)).star ((PoolA x.p { s.pool with counts:=cm,acts:=s.pool.acts.take m }).star ((MapA Tryz.prog 3 x.mb (putB x.f pre)).star ((Row 126 2 x.av s.acts.length (actCells x.axs)).star F)))))).star (BackOwn sb (.slice aw ws.length cw) x.h)),hsA.perm (by ac_rfl),?_⟩
    clear hsA HS1 hB;intro F2 W2 _ hs2
    have h1:Sat ((MapA Tryz.prog 3 x.mb (putB x.f pre)).star ((Pr.pts B (.cells #[.int .i64 no,.int .i64 pk,.int .i64 pl,.slice a1 m1 c1,.slice a2 m2 c2,.int .i64 nx,.bool false] 164)).star ((Pr.pts w.heap.size (.cells #[.pointer (some ⟨v,0,none⟩)] 24)).star ((Pr.pts v (.cells #[.pointer (some ⟨x.p,0,none⟩),.map (some x.mb),x.av,.int .i64 s.floor] 70)).star (((Pr.pts (w.heap.size+1) (.cells #[.int .i64 (s.pool.floor+m),.slice aw ws.length cw] 126)).star ((PoolA x.p { s.pool with counts:=cm,acts:=s.pool.acts.take m }).star ((Row 126 2 x.av s.acts.length (actCells x.axs)).star F))).star ((BackOwn sb (.slice aw ws.length cw) x.h).star F2)))))) W2:=hs2.perm (by ac_rfl)
    have g6:W2.cell? ⟨B,6,none⟩=some (.bool false):=by rw [cell_of_heap h1.right.pts_heap];rfl
    have g0:W2.cell? ⟨B,0,none⟩=some (.int .i64 no):=by rw [cell_of_heap h1.right.pts_heap];rfl
    have gV:W2.cell? ⟨w.heap.size,0,none⟩=some (.pointer (some ⟨v,0,none⟩)):=by rw [cell_of_heap h1.right.right.pts_heap];rfl
    have gm:W2.cell? ⟨v,1,none⟩=some (.map (some x.mb)):=by rw [cell_of_heap h1.right.right.right.pts_heap];rfl
    have zB:=h1.right.lt;have zV:=h1.right.right.lt;have zv:=h1.right.right.right.lt;have H1:=hQ h1;clear h1 hs2;gi_wp2
    obtain⟨w4,hrun,hs4,hg4⟩:=map_del (ty:=0) Tryz.underlying3 Tryz.underlying67 hno H1.out.drew;have HS4:=hQ hs4;have HG4:=hQ hg4;clear hs4 hg4;gi_region
    all_goals (
     refine⟨(Stays.refl W2).drew.of_grown HG4.out,?_⟩
     dsimp only
     rw [putB_snoc]
     have h9:Sat ((Pr.pts B (.cells #[.int .i64 no,.int .i64 pk,.int .i64 pl,.slice a1 m1 c1,.slice a2 m2 c2,.int .i64 nx,.bool false] 164)).star ((((Pr.pts w.heap.size (.cells #[.pointer (some ⟨v,0,none⟩)] 24)).star ((Pr.pts (w.heap.size+1) (.cells #[.int .i64 (s.pool.floor+m),.slice aw ws.length cw] 126)).star ((Pr.pts v (.cells #[.pointer (some ⟨x.p,0,none⟩),.map (some x.mb),x.av,.int .i64 s.floor] 70)).star ((PoolA x.p { s.pool with counts:=cm,acts:=s.pool.acts.take m }).star ((MapA Tryz.prog 3 x.mb (fun m=>if m=no then none else putB x.f pre m)).star ((Row 126 2 x.av s.acts.length (actCells x.axs)).star F)))))).star (BackOwn sb (.slice aw ws.length cw) x.h)).star F2)) w4:=HS4.out.perm (by ac_rfl)
     exact h9.right)
  | true=>
    have HS1:=hQ hs;clear hs;simp only [encW,WasX.cells];gi_wp2
    have hsA:=HS1.out.alloc (.cells #[.int .i64 no,.int .i64 pk,.int .i64 pl,.slice a1 m1 c1,.slice a2 m2 c2,.int .i64 nx,.bool true] 164);obtain⟨B,hB⟩:∃B,W1.heap.size=B:=⟨_,rfl⟩;rw [hB] at hsA ⊢
    refine⟨(Stays.refl _).alloc _,(Pr.pts B (.cells #[.int .i64 no,.int .i64 pk,.int .i64 pl,.slice a1 m1 c1,.slice a2 m2 c2,.int .i64 nx,.bool true] 164)).star (((Pr.pts w.heap.size (.cells #[.pointer (some ⟨v,0,none⟩)] 24)).star ((Pr.pts (w.heap.size+1) (.cells #[.int .i64 (s.pool.floor+m),.slice aw ws.length cw] 126)).star ((Pr.pts v (.cells #[.pointer (some ⟨x.p,0,none⟩),.map (some x.mb),x.av,.int .i64 s.floor] 70)).star ((PoolA x.p { s.pool with counts:=cm,acts:=s.pool.acts.take m }).star ((MapA Tryz.prog 3 x.mb (putB x.f pre)).star ((Row 126 2 x.av s.acts.length (actCells x.axs)).star F)))))).star (BackOwn sb (.slice aw ws.length cw) x.h)),hsA.perm (by ac_rfl),?_⟩
    clear hsA HS1 hB;intro F2 W2 _ hs2
    have h1:Sat ((MapA Tryz.prog 3 x.mb (putB x.f pre)).star ((Pr.pts B (.cells #[.int .i64 no,.int .i64 pk,.int .i64 pl,.slice a1 m1 c1,.slice a2 m2 c2,.int .i64 nx,.bool true] 164)).star ((Pr.pts w.heap.size (.cells #[.pointer (some ⟨v,0,none⟩)] 24)).star ((Pr.pts v (.cells #[.pointer (some ⟨x.p,0,none⟩),.map (some x.mb),x.av,.int .i64 s.floor] 70)).star (((Pr.pts (w.heap.size+1) (.cells #[.int .i64 (s.pool.floor+m),.slice aw ws.length cw] 126)).star ((PoolA x.p { s.pool with counts:=cm,acts:=s.pool.acts.take m }).star ((Row 126 2 x.av s.acts.length (actCells x.axs)).star F))).star ((BackOwn sb (.slice aw ws.length cw) x.h).star F2)))))) W2:=hs2.perm (by ac_rfl)
    have g6:W2.cell? ⟨B,6,none⟩=some (.bool true):=by rw [cell_of_heap h1.right.pts_heap];rfl
    have g0:W2.cell? ⟨B,0,none⟩=some (.int .i64 no):=by rw [cell_of_heap h1.right.pts_heap];rfl
    have gV:W2.cell? ⟨w.heap.size,0,none⟩=some (.pointer (some ⟨v,0,none⟩)):=by rw [cell_of_heap h1.right.right.pts_heap];rfl
    have gm:W2.cell? ⟨v,1,none⟩=some (.map (some x.mb)):=by rw [cell_of_heap h1.right.right.right.pts_heap];rfl
    have zB:=h1.right.lt;have zV:=h1.right.right.lt;have zv:=h1.right.right.right.lt;have H1:=hQ h1;clear h1 hs2;gi_wp2
    have g1:W2.cell? ⟨B,1,none⟩=some (.int .i64 pk):=by rw [cell_of_heap H1.out.right.pts_heap];rfl
    have g2:W2.cell? ⟨B,2,none⟩=some (.int .i64 pl):=by rw [cell_of_heap H1.out.right.pts_heap];rfl
    have g3:W2.cell? ⟨B,3,none⟩=some (.slice a1 m1 c1):=by rw [cell_of_heap H1.out.right.pts_heap];rfl
    have g4:W2.cell? ⟨B,4,none⟩=some (.slice a2 m2 c2):=by rw [cell_of_heap H1.out.right.pts_heap];rfl
    have g5:W2.cell? ⟨B,5,none⟩=some (.int .i64 nx):=by rw [cell_of_heap H1.out.right.pts_heap];rfl
    obtain⟨w4,hrun,hs4,hg4⟩:=map_put Tryz.underlying3 Tryz.underlying67 hno (pageV pk pl (.slice a1 m1 c1) (.slice a2 m2 c2) nx) H1.out.drew;have HS4:=hQ hs4;have HG4:=hQ hg4;clear hs4 hg4;gi_region
    all_goals (
     refine⟨(Stays.refl W2).drew.of_grown HG4.out,?_⟩
     dsimp only
     rw [putB_snoc]
     have h9:Sat ((Pr.pts B (.cells #[.int .i64 no,.int .i64 pk,.int .i64 pl,.slice a1 m1 c1,.slice a2 m2 c2,.int .i64 nx,.bool true] 164)).star ((((Pr.pts w.heap.size (.cells #[.pointer (some ⟨v,0,none⟩)] 24)).star ((Pr.pts (w.heap.size+1) (.cells #[.int .i64 (s.pool.floor+m),.slice aw ws.length cw] 126)).star ((Pr.pts v (.cells #[.pointer (some ⟨x.p,0,none⟩),.map (some x.mb),x.av,.int .i64 s.floor] 70)).star ((PoolA x.p { s.pool with counts:=cm,acts:=s.pool.acts.take m }).star ((MapA Tryz.prog 3 x.mb (fun m=>if m=no then some (pageV pk pl (.slice a1 m1 c1) (.slice a2 m2 c2) nx) else putB x.f pre m)).star ((Row 126 2 x.av s.acts.length (actCells x.axs)).star F)))))).star (BackOwn sb (.slice aw ws.length cw) x.h)).star F2)) w4:=HS4.out.perm (by ac_rfl)
     exact h9.right)
 case done=>
  intro D xs W2 hxs hst hs;subst hxs
  have h10:Sat ((Pr.pts D (.deferred (some []))).star ((Pr.pts w.heap.size (.cells #[.pointer (some ⟨v,0,none⟩)] 24)).star ((Pr.pts (w.heap.size+1) (.cells #[.int .i64 (s.pool.floor+m),.slice aw ws.length cw] 126)).star ((Pr.pts sb (.cells #[.slice aw ws.length cw] 124)).star (((Pr.pts v (.cells #[.pointer (some ⟨x.p,0,none⟩),.map (some x.mb),x.av,.int .i64 s.floor] 70)).star ((PoolA x.p { s.pool with counts:=cm,acts:=s.pool.acts.take m }).star ((MapA Tryz.prog 3 x.mb (putB x.f (backs ws))).star ((Row 126 2 x.av s.acts.length (actCells x.axs)).star (Pr.own x.h))))).star F))))) W2:=hs.perm (by unfold BackOwn;ac_rfl)
  have H10:=hQ h10;have HST3:=hQ (HST2.out.trans hst);clear hs h10 hst;go_wp2;refine marks_end1 (D:=D) rfl H10.out.pts_heap ⟨_,results_none rfl _ _ _,rfl,(H10.out.putObj (.deferred none)).right.right.right.right,HST3.out.putObj _ _⟩
 case stop=>
  intro D c pre W2 _ hst hs;exact(Sat.pure.1 (hs.perm (Pr.star_assoc _ _ _))).1.elim
end Go.Proofs.YtkfjilnmnbeokaaGreat.X4
