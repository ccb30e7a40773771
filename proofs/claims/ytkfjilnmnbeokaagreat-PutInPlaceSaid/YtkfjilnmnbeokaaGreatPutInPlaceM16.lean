/- (*Vault).back, where nothing stood on the pages before; the conditions stand as hypotheses. -/
import Derived.Test.YtkfjilnmnbeokaaGreatPutInPlaceM12
import Derived.Maps.OwnIn
import Derived.Test.YtkfjilnmnbeokaaGreatPutInPlaceM01
set_option maxRecDepth 100000
set_option maxHeartbeats 16000000
namespace Go.Sl
open Go.Maps
end Go.Sl
namespace Go.Proofs.YtkfjilnmnbeokaaGreat.S4
open ChangeShapes WideShapes ChangeAt RowKit Sl Cop Go.Shelf D2 D3 J3 N3 U3 V3 G2 J2 X3 Y3 E4 G4 L4 M4 P4
attribute [local go_sem] Oper.semAt_some
theorem backward_any(a:Option Addr)(n c:Nat)(w:World):Calls Tryz.prog 104 #[.slice a n c] w fun e w'=>
 e= .returned (.func (.func 143) #[] #[.pointer (some ⟨w.heap.size,0,none⟩)])∧w'=w.alloc (.cells #[.slice a n c] 124):=by
 go_enter Tryz.func104,Tryz.ntmps104
 go_wp2;go_ret;exact⟨rfl,rfl⟩
def struck(f:Int→Option Value)(l:List (Int × WasX)):Int→Option Value:=fun m=>if m∈l.map (fun x=>x.2.no) then none else f m
theorem struck_nil(f:Int→Option Value):struck f []=f:=by funext m;simp [struck]
theorem struck_snoc(f:Int→Option Value)(l:List (Int × WasX))(y:Int × WasX):struck f (l++ [y])=fun m=>if m=y.2.no then none else struck f l m:=by
 funext m
 simp only [struck,List.map_append,List.map_cons,List.map_nil,List.mem_append,List.mem_singleton];by_cases h:m=y.2.no
 · rw [if_pos (Or.inr h),if_pos h]
 · rw [if_neg h]
   by_cases h2:m∈l.map (fun x=>x.2.no)
   · rw [if_pos (Or.inl h2),if_pos h2]
   · rw [if_neg (fun h3=>h3.elim h2 h),if_neg h2]
theorem backs_mem {ws:List WasX}{y:Int × WasX}(h:y∈backs ws):y.2∈ws:=by
 unfold backs at h;rw [List.mem_reverse,List.mem_map] at h;obtain⟨⟨X,i⟩,h1,rfl⟩:=h;have:=(List.mem_zipIdx h1).2.2
 dsimp only at this ⊢;rw [this];exact List.getElem_mem _
theorem back_none(v:Nat)(s:VaultS)(x:VX)(m:Nat)(cm:List Int)(wv:Value)(ws:List WasX)(hrow:RowIn x.h 7 wv ws.length (ws.flatMap WasX.cells))(hl:ws.length≤65536)(hws:∀X∈ws,X.th=false∧(1≤X.no∧X.no≤65536)∧IsSl X.vi∧IsSl X.vd)
 (F:Pr) (w:World) (hF:Sat ((VaultAt v s x).star F) w) (hm:m≤s.pool.acts.length) (ht:Trail s.pool cm (s.pool.acts.drop m) s.pool.counts):
 Calls Tryz.prog 63 #[.pointer (some ⟨v,0,none⟩),.agg #[.int .i64 (s.pool.floor+m),wv]] w fun e w'=>
  e= .returned (.tuple #[])∧Sat ((VaultAt v { s with pool:= { s.pool with counts:=cm,acts:=s.pool.acts.take m } } { x with f:=struck x.f (backs ws) }).star F) w'∧Stays w w':=by
 have es:(w.alloc (.cells #[.pointer (some ⟨v,0,none⟩)] 24)).heap.size=w.heap.size+1:=by simp
 have h1:=(hF.alloc (.cells #[.pointer (some ⟨v,0,none⟩)] 24)).alloc (.cells #[.int .i64 (s.pool.floor+m),wv] 126);rw [es] at h1
 have h2:Sat ((PoolA x.p s.pool).star ((Pr.pts v (.cells #[.pointer (some ⟨x.p,0,none⟩),.map (some x.mb),x.av,.int .i64 s.floor] 70)).star ((Pr.pts w.heap.size (.cells #[.pointer (some ⟨v,0,none⟩)] 24)).star ((Pr.pts (w.heap.size+1) (.cells #[.int .i64 (s.pool.floor+m),wv] 126)).star
  ((((MapA Tryz.prog 3 x.mb x.f).star ((Row 126 2 x.av s.acts.length (actCells x.axs)).star (Pr.own x.h)))).star F))))) _:=h1.perm (by unfold VaultAt;ac_rfl)
 have qv:=cell_of_heap h2.right.pts_heap 0;have zv:=h2.right.lt;have U:=hQ (undo_any x.p s.pool m cm _ _ h2.drew hm ht);have HST:=hQ (((Stays.refl w).alloc (.cells #[.pointer (some ⟨v,0,none⟩)] 24)).alloc (.cells #[.int .i64 (s.pool.floor+m),wv] 126));obtain⟨_,aw,cw,rfl,_,_,_⟩:=id hrow;have HROW:=hQ hrow;have HWS:=hQ hws;clear h1 h2 hF es ht hrow hws
 refine calls_of_wp_marks (n:=9) Tryz.func63 rfl ?_;simp only [Tryz.ntmps63,List.size_toArray,List.length_cons,List.length_nil,Nat.reduceAdd,Nat.reduceSub,Array.replicate_succ,Array.replicate_zero,List.push_toArray,List.append_toArray,List.nil_append,List.cons_append];go_wp2;refine wS 34 [0,1,2,3,4,5] [(6,[],[0,1,2,4])] ?_
 iterate 6 (refine wpQ_step rfl rfl (fun K hK=> ?_);go_simp;refine hK _ ?_;clear hK K)
 refine wpQ_nil ?_;refine wpRest_act rfl ?_;go_wp2_with fail
 refine U.out.mono ?_;rintro e w1 ⟨rfl,h3,hst⟩
 have h4:Sat ((Pr.pts w.heap.size (.cells #[.pointer (some ⟨v,0,none⟩)] 24)).star ((Pr.pts (w.heap.size+1) (.cells #[.int .i64 (s.pool.floor+m),.slice aw ws.length cw] 126)).star ((Pr.pts v (.cells #[.pointer (some ⟨x.p,0,none⟩),.map (some x.mb),x.av,.int .i64 s.floor] 70)).star ((PoolA x.p { s.pool with counts:=cm,acts:=s.pool.acts.take m }).star ((MapA Tryz.prog 3 x.mb x.f).star ((Row 126 2 x.av s.acts.length (actCells x.axs)).star ((Pr.own x.h).star F))))))) w1:=h3.perm (by ac_rfl)
 have r0:w1.cell? ⟨w.heap.size,0,none⟩=some (.pointer (some ⟨v,0,none⟩)):=by rw [cell_of_heap h4.pts_heap];rfl
 have r1:w1.cell? ⟨w.heap.size+1,1,none⟩=some (.slice aw ws.length cw):=by rw [cell_of_heap h4.right.pts_heap];rfl
 have y0:=h4.lt;have y1:=h4.right.lt;have yv:=h4.right.right.lt;have H4:=hQ h4;have HST1:=hQ (HST.out.drew.trans hst);clear h3 h4 hst HST U qv zv;go_wp2;refine onN_mk (wpQ_nil ⟨?_,wpRest_nil ?_⟩)
 · refine chk_cons ?_ (chk_cons ?_ (chk_cons ?_ (chk_cons ?_ chk_nil)))<;>(refine yieldF_of rfl rfl rfl rfl ?_;go_simp;try omega)
 go_wp2_with fail
 refine(backward_any _ _ _ _).mono ?_;rintro e w2 ⟨rfl,rfl⟩;have h5:=H4.out.alloc (.cells #[.slice aw ws.length cw] 124);have H5:=hQ h5;have HST2:=hQ (HST1.out.alloc (.cells #[.slice aw ws.length cw] 124));clear h5 H4 HST1 y0 y1 yv r0 r1;generalize w1.heap.size=sb at*;generalize w1.alloc (.cells #[.slice aw ws.length cw] 124)=w2 at*;go_wp2
 refine wp_rangeFunc_sl 9 (gf:=143) rfl (enters_of Tryz.func143 (by kernel_rfl) rfl) (backward1 sb (.slice aw ws.length cw) x.h ws HROW.out hl) (fun _=>rfl)
  (fun pre=>(Pr.pts w.heap.size (.cells #[.pointer (some ⟨v,0,none⟩)] 24)).star ((Pr.pts (w.heap.size+1) (.cells #[.int .i64 (s.pool.floor+m),.slice aw ws.length cw] 126)).star ((Pr.pts v (.cells #[.pointer (some ⟨x.p,0,none⟩),.map (some x.mb),x.av,.int .i64 s.floor] 70)).star ((PoolA x.p { s.pool with counts:=cm,acts:=s.pool.acts.take m }).star ((MapA Tryz.prog 3 x.mb (struck x.f pre)).star ((Row 126 2 x.av s.acts.length (actCells x.axs)).star F)))))) (fun _ _=>Pr.pure False) ?start ?round ?done ?stop
 case start=>
  rw [struck_nil];exact H5.out.perm (by unfold BackOwn;ac_rfl)
 case round=>
  intro l' pre y W1 F1 hpre hs;have hmem:=HWS.out y.2 (backs_mem (hpre.subset (List.mem_append_right _ (List.mem_singleton_self y))));obtain⟨i,no,pk,pl,vi,vd,nx,th⟩:=y;obtain⟨hth,hno,⟨a1,m1,c1,e1⟩,⟨a2,m2,c2,e2⟩⟩:=hmem;dsimp only at hth hno e1 e2;subst hth;subst e1;subst e2;have HS1:=hQ hs;clear hs;simp only [encW,WasX.cells];gi_wp2
  have hsA:=HS1.out.alloc (.cells #[.int .i64 no,.int .i64 pk,.int .i64 pl,.slice a1 m1 c1,.slice a2 m2 c2,.int .i64 nx,.bool false] 164);obtain⟨B,hB⟩:∃B,W1.heap.size=B:=⟨_,rfl⟩;rw [hB] at hsA ⊢
  refine⟨(Stays.refl _).alloc _,(Pr.pts B (.cells #[.int .i64 no,.int .i64 pk,.int .i64 pl,.slice a1 m1 c1,.slice a2 m2 c2,.int .i64 nx,.bool false] 164)).star (((Pr.pts w.heap.size (.cells #[.pointer (some ⟨v,0,none⟩)] 24)).star ((Pr.pts (w.heap.size+1) (.cells #[.int .i64 (s.pool.floor+m),.slice aw ws.length cw] 126)).star ((Pr.pts v (.cells #[.pointer (some ⟨x.p,0,none⟩),.map (some x.mb),x.av,.int .i64 s.floor] 70)).star ((PoolA x.p { s.pool with counts:=cm,acts:=s.pool.acts.take m }).star ((MapA Tryz.prog 3 x.mb (struck x.f pre)).star ((Row 126 2 x.av s.acts.length (actCells x.axs)).star F)))))).star (BackOwn sb (.slice aw ws.length cw) x.h)),hsA.perm (by ac_rfl),?_⟩
  clear hsA HS1 hB;intro F2 W2 _ hs2
  have h1:Sat ((MapA Tryz.prog 3 x.mb (struck x.f pre)).star ((Pr.pts B (.cells #[.int .i64 no,.int .i64 pk,.int .i64 pl,.slice a1 m1 c1,.slice a2 m2 c2,.int .i64 nx,.bool false] 164)).star ((Pr.pts w.heap.size (.cells #[.pointer (some ⟨v,0,none⟩)] 24)).star ((Pr.pts v (.cells #[.pointer (some ⟨x.p,0,none⟩),.map (some x.mb),x.av,.int .i64 s.floor] 70)).star (((Pr.pts (w.heap.size+1) (.cells #[.int .i64 (s.pool.floor+m),.slice aw ws.length cw] 126)).star ((PoolA x.p { s.pool with counts:=cm,acts:=s.pool.acts.take m }).star ((Row 126 2 x.av s.acts.length (actCells x.axs)).star F))).star ((BackOwn sb (.slice aw ws.length cw) x.h).star F2)))))) W2:=hs2.perm (by ac_rfl)
  have g6:W2.cell? ⟨B,6,none⟩=some (.bool false):=by rw [cell_of_heap h1.right.pts_heap];rfl
  have g0:W2.cell? ⟨B,0,none⟩=some (.int .i64 no):=by rw [cell_of_heap h1.right.pts_heap];rfl
  have gV:W2.cell? ⟨w.heap.size,0,none⟩=some (.pointer (some ⟨v,0,none⟩)):=by rw [cell_of_heap h1.right.right.pts_heap];rfl
  have gm:W2.cell? ⟨v,1,none⟩=some (.map (some x.mb)):=by rw [cell_of_heap h1.right.right.right.pts_heap];rfl
  have zB:=h1.right.lt;have zV:=h1.right.right.lt;have zv:=h1.right.right.right.lt;have H1:=hQ h1;clear h1 hs2;gi_wp2
  obtain⟨w4,hrun,hs4,hg4⟩:=map_del (ty:=0) Tryz.underlying3 Tryz.underlying67 hno H1.out.drew;have HS4:=hQ hs4;have HG4:=hQ hg4;clear hs4 hg4;gi_region
  all_goals (
   refine⟨(Stays.refl W2).drew.of_grown HG4.out,?_⟩
   dsimp only
   rw [struck_snoc]
   have h9:Sat ((Pr.pts B (.cells #[.int .i64 no,.int .i64 pk,.int .i64 pl,.slice a1 m1 c1,.slice a2 m2 c2,.int .i64 nx,.bool false] 164)).star ((((Pr.pts w.heap.size (.cells #[.pointer (some ⟨v,0,none⟩)] 24)).star ((Pr.pts (w.heap.size+1) (.cells #[.int .i64 (s.pool.floor+m),.slice aw ws.length cw] 126)).star ((Pr.pts v (.cells #[.pointer (some ⟨x.p,0,none⟩),.map (some x.mb),x.av,.int .i64 s.floor] 70)).star ((PoolA x.p { s.pool with counts:=cm,acts:=s.pool.acts.take m }).star ((MapA Tryz.prog 3 x.mb (fun m=>if m=no then none else struck x.f pre m)).star ((Row 126 2 x.av s.acts.length (actCells x.axs)).star F)))))).star (BackOwn sb (.slice aw ws.length cw) x.h)).star F2)) w4:=HS4.out.perm (by ac_rfl)
   exact h9.right)
 case done=>
  intro D xs W2 hxs hst hs;subst hxs
  have h10:Sat ((Pr.pts D (.deferred (some []))).star ((Pr.pts w.heap.size (.cells #[.pointer (some ⟨v,0,none⟩)] 24)).star ((Pr.pts (w.heap.size+1) (.cells #[.int .i64 (s.pool.floor+m),.slice aw ws.length cw] 126)).star ((Pr.pts sb (.cells #[.slice aw ws.length cw] 124)).star (((Pr.pts v (.cells #[.pointer (some ⟨x.p,0,none⟩),.map (some x.mb),x.av,.int .i64 s.floor] 70)).star ((PoolA x.p { s.pool with counts:=cm,acts:=s.pool.acts.take m }).star ((MapA Tryz.prog 3 x.mb (struck x.f (backs ws))).star ((Row 126 2 x.av s.acts.length (actCells x.axs)).star (Pr.own x.h))))).star F))))) W2:=hs.perm (by unfold BackOwn;ac_rfl)
  have H10:=hQ h10;have HST3:=hQ (HST2.out.trans hst);clear hs h10 hst;go_wp2;refine marks_end1 (D:=D) rfl H10.out.pts_heap ⟨_,results_none rfl _ _ _,rfl,(H10.out.putObj (.deferred none)).right.right.right.right,HST3.out.putObj _ _⟩
 case stop=>
  intro D c pre W2 _ hst hs;exact(Sat.pure.1 (hs.perm (Pr.star_assoc _ _ _))).1.elim
end Go.Proofs.YtkfjilnmnbeokaaGreat.S4
namespace Go.Proofs.YtkfjilnmnbeokaaGreat.V4
open ChangeShapes WideShapes ChangeAt RowKit Sl Cop D2 D3 J3 V3 G2 J2 X3 Y3 E4 G4 L4 M4 P4 S4
theorem do_full(v:Nat)(s:VaultS)(g:Nat)(caps:Array Value)(F2:Pr)(F:Pr)(w:World)(hF:Sat ((VaultA v s).star F) w)
 (eg:∀args w,(callFunc g args).run Tryz.prog w= .ok (.enter g args) w)
 (hc:∀ab w1,Sat ((VMA v s ab s.pool.mark []).star F) w1→Calls Tryz.prog g (#[.pointer (some ⟨ab,0,none⟩)]++caps) w1 fun e w'=>
   Stays w1 w'∧e= .returned (.int .i64 12)∧Sat ((VMA v s ab s.pool.mark []).star F2) w'):
 Calls Tryz.prog 95 #[.pointer (some ⟨v,0,none⟩),.func (.func g) #[] caps] w fun e w'=>
  Stays w w'∧e= .returned (.int .i64 12)∧Sat ((VaultA v s).star F2) w':=by
 obtain⟨x,ok,hF⟩:=vaultA_iff.1 hF
 have h1:Sat ((PoolA x.p s.pool).star ((Pr.pts v (.cells #[.pointer (some ⟨x.p,0,none⟩),.map (some x.mb),x.av,.int .i64 s.floor] 70)).star
  ((((MapA Tryz.prog 3 x.mb x.f).star ((Row 126 2 x.av s.acts.length (actCells x.axs)).star (Pr.own x.h)))).star F))) w:=hF.perm (by unfold VaultAt;ac_rfl)
 have qv:w.cell? ⟨v,0,none⟩=some (.pointer (some ⟨x.p,0,none⟩)):=by rw [cell_of_heap h1.right.pts_heap];rfl
 have C:=hQ (mark_A x.p s.pool _ w h1);have HF:=hQ hF;have OK:=hQ ok;clear h1 hF ok;go_enter Tryz.func95,Tryz.ntmps95
 go_wp2_with fail
 refine C.out.mono ?_;rintro e w1 ⟨rfl,hst,hh⟩;have h2:=(HF.out.ext (w':=w1) (fun _ _=>by rw [hh])).alloc (.cells #[.int .i64 s.pool.mark,.slice none 0 0] 126)
 have h3:Sat ((VMA v s w1.heap.size s.pool.mark []).star F) _:=vma_iff.2 ⟨x,.slice none 0 0,[],OK.out,⟨rfl,fun i h=>absurd h (by simp)⟩,h2.perm (by
  unfold VMAt
  rw [show (Row 164 7 (.slice none 0 0) ([]:List WasX).length (([]:List WasX).flatMap WasX.cells))=Pr.emp from Row.nil _ _,Pr.star_emp]
  ac_rfl)⟩
 have D:=hQ (hc _ _ h3);have HST:=hQ (hst.alloc (.cells #[.int .i64 s.pool.mark,.slice none 0 0] 126));clear h2 h3 hst hh HF C qv hc OK;go_wp2_with fail
 refine(D.out).mono ?_;rintro e w2 ⟨hst2,rfl,h4⟩;obtain⟨x2,wv,ws,ok2,hws,h5⟩:=vma_iff.1 h4;have hwl:ws= []:=List.eq_nil_of_length_eq_zero hws.1;subst hwl;have h6:Sat ((Row 164 7 wv 0 []).star ((Pr.pts w1.heap.size (.cells #[.int .i64 s.pool.mark,wv] 126)).star ((VaultAt v s x2).star F2))) w2:=h5.perm (by unfold VMAt;show (Pr.star _ ((Pr.pts _ _).star (Row 164 7 wv 0 []))).star _=_;ac_rfl)
 obtain⟨aw,cw,ew,_,_⟩:=Row.read h6;subst ew;have hcw:=Row.bd h6;have q0:w2.cell? ⟨w1.heap.size,0,none⟩=some (.int .i64 s.pool.mark):=by rw [cell_of_heap h6.right.pts_heap];rfl
 have q1:w2.cell? ⟨w1.heap.size,1,none⟩=some (.slice aw 0 cw):=by rw [cell_of_heap h6.right.pts_heap];rfl
 have h7:=h6.right.right;have B:=back_none v s x2 s.pool.acts.length s.pool.counts (.slice aw 0 cw) [] ⟨by simp,aw,cw,rfl,Nat.zero_le _,hcw,fun h=>absurd h (by simp)⟩ (by simp) (fun X hX=>by cases hX) F2 w2 h7 (Nat.le_refl _) (by rw [List.drop_length];rfl);have HB:=hQ B;have HOK:=hQ ok2;have HST2:=hQ (HST.out.trans hst2);clear B h4 h5 h6 h7 D hst2 HST ok2 hws;go_wp2_with fail
 refine HB.out.mono ?_;rintro e w3 ⟨rfl,h8,hst3⟩;have e1:({ s with pool:= { s.pool with counts:=s.pool.counts,acts:=s.pool.acts.take s.pool.acts.length } }:VaultS)=s:=by rw [List.take_length]
 have e2:({ x2 with f:=struck x2.f (backs []) }:VX)=x2:=by
  rw [show backs []= [] from rfl,struck_nil]
 rw [e1,e2] at h8;have H8:=hQ h8;clear h8 HB e1 e2;go_wp2;go_ret;exact⟨HST2.out.trans hst3,rfl,vaultA_iff.2 ⟨x2,HOK.out,H8.out⟩⟩
theorem make_full(v:Nat)(s:VaultS)(hp:Hp)(vi vd:Value)(d:List Int)(next:Int)(hd:1≤d.length∧d.length≤480)(hx:next=0∨1≤next∧next≤65536)(hg:PageIn hp (.agg (blobCells vi vd next)) (blobV d next))(F:Pr)(w:World)
 (hF:Sat ((VaultA v s).star ((Pr.own hp).star F)) w) (hno:∀m,s.pool.state m≠1) (hm:s.pool.floor+s.pool.acts.length<1099511627776):
 Calls Tryz.prog 70 #[.pointer (some ⟨v,0,none⟩),.agg (blobCells vi vd next)] w fun e w'=>
  Stays w w'∧e= .returned (.tuple #[.int .i64 0,.int .i64 12])∧Sat ((VaultA v s).star ((Pr.own hp).star F)) w':=by
 obtain⟨vi0,vd0,ee,hi0,hb0⟩:=id hg;simp only [blobCells,pageV,Value.agg.injEq,Array.mk.injEq,List.cons.injEq,and_true,true_and] at ee;obtain⟨rfl,rfl⟩:=ee;obtain⟨ai,ci,rfl,_⟩:=items_none hi0;obtain⟨_,ad,cd,rfl,_⟩:=id hb0;clear hi0 hb0;have es:(w.alloc (.cells #[.pointer (some ⟨v,0,none⟩)] 24)).heap.size=w.heap.size+1:=by simp
 have h1:=(hF.alloc (.cells #[.pointer (some ⟨v,0,none⟩)] 24)).alloc (.cells (blobCells (.slice ai 0 ci) (.slice ad d.length cd) next) 74);rw [es] at h1;have HC:=fun wx=>hQ (check_blob ai ad ci d.length cd next hd hx wx)
 have H1:=hQ h1;clear h1 hF es;go_enter Tryz.func70,Tryz.ntmps70
 go_wp2_with fail
 refine(HC _).out.mono ?_;rintro e w1 ⟨rfl,ho⟩;have h2:=H1.out.only ho;have h3:=h2.alloc (.cells #[.int .i64 0] 3)
 have h4:=h3.perm (B:=(VaultA v s).star ((Pr.pts w.heap.size (.cells #[.pointer (some ⟨v,0,none⟩)] 24)).star ((Pr.pts w1.heap.size (.cells #[.int .i64 0] 3)).star ((Pr.pts (w.heap.size+1) (.cells (blobCells (.slice ai 0 ci) (.slice ad d.length cd) next) 74)).star ((Pr.own hp).star F))))) (by ac_rfl)
 have q0:(w1.alloc (.cells #[.int .i64 0] 3)).cell? ⟨w.heap.size,0,none⟩=some (.pointer (some ⟨v,0,none⟩)):=by rw [cell_of_heap h4.right.pts_heap];rfl
 have D:=do_full v s 106 #[.pointer (some ⟨w.heap.size,0,none⟩),.pointer (some ⟨w1.heap.size,0,none⟩),.pointer (some ⟨w.heap.size+1,0,none⟩)]
  ((Pr.pts w1.heap.size (.cells #[.int .i64 0] 3)).star ((Pr.own hp).star F)) _ _ h4 (fun _ _=>rfl) (fun ab wx hwx=>
    (make1_A v s ab s.pool.mark w.heap.size w1.heap.size (w.heap.size+1) 0 hp (.slice ai 0 ci) (.slice ad d.length cd) d next (by omega) hg F wx hwx hm).mono (by
      rintro e w' ⟨hst,(⟨e1,_,e2⟩ | ⟨n,_,e2,_,_⟩)⟩
      · exact⟨hst,e1,e2⟩
      · exact absurd e2 (hno n)))
 have HD:=hQ D;have HST:=hQ (((((Stays.refl w).alloc (.cells #[.pointer (some ⟨v,0,none⟩)] 24)).alloc (.cells (blobCells (.slice ai 0 ci) (.slice ad d.length cd) next) 74)).trans ho.st).alloc (.cells #[.int .i64 0] 3));clear D h4 h3 h2 ho H1 HC;go_wp2_with fail
 refine HD.out.mono ?_;rintro e w2 ⟨hst2,rfl,h5⟩;have h6:=h5.perm (Pr.left_comm _ _ _);have q1:w2.cell? ⟨w1.heap.size,0,none⟩=some (.int .i64 0):=by rw [cell_of_heap h6.pts_heap];rfl
 have H6:=hQ h6.right;clear h5 h6;go_wp2;go_ret2;exact⟨HST.out.trans hst2,rfl,H6.out⟩
end Go.Proofs.YtkfjilnmnbeokaaGreat.V4
