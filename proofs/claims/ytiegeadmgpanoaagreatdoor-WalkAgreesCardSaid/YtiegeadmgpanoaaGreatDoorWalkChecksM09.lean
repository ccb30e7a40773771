/- The vault in memory: what was is noted, a page is put; the conditions stand as hypotheses. -/
import Derived.Test.YtiegeadmgpanoaaGreatDoorWalkChecksM08
import Derived.Test.YtiegeadmgpanoaaGreatDoorWalkChecksM01
set_option maxRecDepth 100000
set_option maxHeartbeats 16000000
namespace Go.Proofs.YtiegeadmgpanoaaGreatDoor.V3
open ChangeShapes WideShapes ChangeAt RowKit Sl Cop D2 F3 K3 P3 G2 J2 Q3
structure WasX where
 no:Int
 pk:Int
 pl:Int
 vi:Value
 vd:Value
 nx:Int
 th:Bool
def WasX.cells(x:WasX):List Value:= [.int .i64 x.no,.int .i64 x.pk,.int .i64 x.pl,x.vi,x.vd,.int .i64 x.nx,.bool x.th]
def IsSl(v:Value):Prop:= ∃a m c,v= .slice a m c
def WasRel(h:Hp)(x:WasX)(y:Int × Option PageV):Prop:=
 x.no=y.1∧IsSl x.vi∧IsSl x.vd∧match y.2 with | some g=>x.th=true∧PageIn h (pageV x.pk x.pl x.vi x.vd x.nx) g | none=>x.th=false
def WasIn(h:Hp)(xs:List WasX)(was:List (Int × Option PageV)):Prop:=xs.length=was.length∧∀i (h1:i<xs.length) (h2:i<was.length),WasRel h xs[i] was[i]
def ActRel(h:Hp)(x:Int × Value)(y:ActV):Prop:=x.1=y.mark∧∃xs:List WasX,RowIn h 7 x.2 y.was.length (xs.flatMap WasX.cells)∧WasIn h xs y.was
def ActsIn2(h:Hp)(xs:List (Int × Value))(acts:List ActV):Prop:=xs.length=acts.length∧∀i (h1:i<xs.length) (h2:i<acts.length),ActRel h xs[i] acts[i]
def actCells(xs:List (Int × Value)):List Value:=xs.flatMap fun x=> [.int .i64 x.1,x.2]
def OnIn(h:Hp)(f:Int→Option Value)(on:Int→Option PageV):Prop:= ∀n,match on n with | none=>f n=none | some g=> ∃v,f n=some v∧PageIn h v g
theorem WasRel.sub {a b:Hp}(hs:a.sub b){x:WasX}{y:Int × Option PageV}(h:WasRel a x y):WasRel b x y:=by
 obtain⟨h1,h2,h3,h4⟩:=h;refine⟨h1,h2,h3,?_⟩;cases hy:y.2 with
 | none=>rw [hy] at h4;exact h4
 | some g=>rw [hy] at h4;exact⟨h4.1,h4.2.sub hs⟩
theorem WasIn.sub {a b:Hp}(hs:a.sub b){xs:List WasX}{was:List (Int × Option PageV)}(h:WasIn a xs was):WasIn b xs was:=⟨h.1,fun i h1 h2=>(h.2 i h1 h2).sub hs⟩
theorem ActsIn2.sub {a b:Hp}(hs:a.sub b){xs:List (Int × Value)}{acts:List ActV}(h:ActsIn2 a xs acts):ActsIn2 b xs acts:=
 ⟨h.1,fun i h1 h2=>⟨(h.2 i h1 h2).1,by obtain⟨ys,e1,e2⟩:=(h.2 i h1 h2).2;exact⟨ys,e1.sub hs,e2.sub hs⟩⟩⟩
theorem OnIn.sub {a b:Hp}(hs:a.sub b){f:Int→Option Value}{on:Int→Option PageV}(h:OnIn a f on):OnIn b f on:=by
 intro n;have:=h n
 cases hy:on n with
 | none=>rw [hy] at this;exact this
 | some g=>rw [hy] at this;obtain⟨v,e1,e2⟩:=this;exact⟨v,e1,e2.sub hs⟩
theorem OnIn.put {h:Hp}{f:Int→Option Value}{on:Int→Option PageV}(hO:OnIn h f on){n:Int}{v:Value}{g:PageV}(hp:PageIn h v g):OnIn h (fun m=>if m=n then some v else f m) (fun m=>if m=n then some g else on m):=by
 intro m;dsimp only;by_cases hm:m=n
 · simp only [hm,if_true];exact⟨v,rfl,hp⟩
 · simp only [hm,if_false];exact hO m
structure VX where
 p:Nat
 mb:Nat
 av:Value
 f:Int→Option Value
 axs:List (Int × Value)
 h:Hp
def VaultAt(v:Nat)(s:VaultS)(x:VX):Pr:=
 (Pr.pts v (.cells #[.pointer (some ⟨x.p,0,none⟩),.map (some x.mb),x.av,.int .i64 s.floor] 108)).star ((PoolA x.p s.pool).star ((MapA Tryz.prog 3 x.mb x.f).star ((Row 169 2 x.av s.acts.length (actCells x.axs)).star (Pr.own x.h))))
structure VOk(s:VaultS)(x:VX):Prop where
 on:OnIn x.h x.f s.on
 acts:ActsIn2 x.h x.axs s.acts
 f0:0≤s.floor
 fb:s.floor+s.acts.length≤1099511627776
def VaultA(v:Nat)(s:VaultS):Pr:=Pr.ex fun x:VX=>(Pr.pure (VOk s x)).star (VaultAt v s x)
theorem vaultA_iff {v:Nat}{s:VaultS}{F:Pr}{w:World}:Sat ((VaultA v s).star F) w↔∃x,VOk s x∧Sat ((VaultAt v s x).star F) w:=by
 unfold VaultA;rw [Sat.ex];constructor
 · rintro⟨x,h⟩
   rw [Pr.star_assoc] at h;obtain⟨h1,h2⟩:=Sat.pure.1 h;exact⟨x,h1,h2⟩
 · rintro⟨x,h1,h2⟩
   refine⟨x,?_⟩;rw [Pr.star_assoc];exact Sat.pure.2 ⟨h1,h2⟩
def VMAt(v:Nat)(s:VaultS)(x:VX)(ab:Nat)(mark:Int)(wv:Value)(ws:List WasX):Pr:=
 (VaultAt v s x).star ((Pr.pts ab (.cells #[.int .i64 mark,wv] 169)).star (Row 194 7 wv ws.length (ws.flatMap WasX.cells)))
theorem new_cells(w:World)(l:List Value)(T:TypeId)(b:Nat)(hb:b=w.heap.size):∀j u,l[j]? =some u→(w.alloc (.cells l.toArray T)).cell? ((⟨b,0,none⟩:Addr).add j)=some u:=by
 intro j u hj;subst hb;rw [add_cell,cell_of_heap (heap_new _ _)];simpa using hj
abbrev zeroPage:Value:=pageV 0 0 (.slice none 0 0) (.slice none 0 0) 0
theorem zero_page(w:World):(zeroValue 83).run Tryz.prog w= .ok zeroPage w:=by kernel_rfl
theorem look_shape {h:Hp}{f:Int→Option Value}{on:Int→Option PageV}(hO:OnIn h f on)(n:Int):
 ∃pk pl ai mi ci ad md cd nx th,(f n).getD zeroPage=pageV pk pl (.slice ai mi ci) (.slice ad md cd) nx∧(f n).isSome=th∧WasRel h ⟨n,pk,pl,.slice ai mi ci,.slice ad md cd,nx,th⟩ (n,on n):=by
 have:=hO n
 cases hy:on n with
 | none=>
   rw [hy] at this;dsimp only at this;exact⟨0,0,none,0,0,none,0,0,0,false,by rw [this];rfl,by rw [this];rfl,rfl,⟨_,_,_,rfl⟩,⟨_,_,_,rfl⟩,rfl⟩
 | some g=>
   rw [hy] at this;obtain⟨v,e1,e2⟩:=this;obtain⟨vi,vd,e3,e4,e5⟩:=id e2;obtain⟨xs,_,⟨_,ai,ci,e6,_⟩,_⟩:=id e4;obtain⟨_,ad,cd,e7,_⟩:=id e5;subst e6;subst e7;exact⟨g.kind,g.level,ai,_,ci,ad,_,cd,g.next,true,by rw [e1,e3];rfl,by rw [e1];rfl,rfl,⟨_,_,_,rfl⟩,⟨_,_,_,rfl⟩,rfl,by rw [← e3];exact e2⟩
theorem note_at(v:Nat)(s:VaultS)(x:VX)(ab:Nat)(mark:Int)(wv:Value)(ws:List WasX)(n:Int)(hn:1≤n∧n≤65536)(hO:OnIn x.h x.f s.on)(hl:ws.length≤65536)(F:Pr)(w:World)
 (hF:Sat ((VMAt v s x ab mark wv ws).star F) w):
 Calls Tryz.prog 114 #[.pointer (some ⟨v,0,none⟩),.pointer (some ⟨ab,0,none⟩),.int .i64 n] w fun e w'=>
  e= .returned (.tuple #[])∧(∃wv' X,WasRel x.h X (n,s.on n)∧Sat ((VMAt v s x ab mark wv' (ws++ [X])).star F) w')∧Stays w w':=by
 have h1:Sat ((MapA Tryz.prog 3 x.mb x.f).star ((Pr.pts v (.cells #[.pointer (some ⟨x.p,0,none⟩),.map (some x.mb),x.av,.int .i64 s.floor] 108)).star ((Row 194 7 wv ws.length (ws.flatMap WasX.cells)).star ((Pr.pts ab (.cells #[.int .i64 mark,wv] 169)).star
  (((PoolA x.p s.pool).star ((Row 169 2 x.av s.acts.length (actCells x.axs)).star (Pr.own x.h))).star F))))) w:=hF.perm (by unfold VMAt VaultAt;ac_rfl)
 obtain⟨pk,pl,ai,mi,ci,ad,md,cd,nx,th,e1,e2,hrel⟩:=look_shape hO n;have q1:w.cell? ⟨v,1,none⟩=some (.map (some x.mb)):=by rw [cell_of_heap h1.right.pts_heap];rfl
 obtain⟨aw,cw,ew,_,_⟩:=Row.read h1.right.right;subst ew;have z0:=h1.right.right.right.lt;have qb:w.cell? ⟨ab,1,none⟩=some (.slice aw ws.length cw):=by rw [cell_of_heap h1.right.right.right.pts_heap];rfl
 have H1:=hQ h1;have HR:=hQ hrel;clear h1 hF hrel hO;go_enter Tryz.func114,Tryz.ntmps114
 go_wp2_with (at_lookup;refine wpList_look rfl _ _ _ true rfl Tryz.underlying3 Tryz.underlying105 zeroPage (zero_page _) n hn rfl rfl H1.out ?_;rw [e1,e2])
 have es:(w.alloc (.cells #[.int .i64 pk,.int .i64 pl,.slice ai mi ci,.slice ad md cd,.int .i64 nx] 83)).heap.size=w.heap.size+1:=by simp
 have h2:=H1.out.alloc (.cells #[.int .i64 pk,.int .i64 pl,.slice ai mi ci,.slice ad md cd,.int .i64 nx] 83);have hb:=h2.pts_heap;generalize hw1:w.alloc (.cells #[.int .i64 pk,.int .i64 pl,.slice ai mi ci,.slice ad md cd,.int .i64 nx] 83)=w1 at*;have p0:w1.cell? ⟨w.heap.size,0,none⟩=some (.int .i64 pk):=by rw [cell_of_heap hb];rfl
 have p1:w1.cell? ⟨w.heap.size,1,none⟩=some (.int .i64 pl):=by rw [cell_of_heap hb];rfl
 have p2:w1.cell? ⟨w.heap.size,2,none⟩=some (.slice ai mi ci):=by rw [cell_of_heap hb];rfl
 have p3:w1.cell? ⟨w.heap.size,3,none⟩=some (.slice ad md cd):=by rw [cell_of_heap hb];rfl
 have p4:w1.cell? ⟨w.heap.size,4,none⟩=some (.int .i64 nx):=by rw [cell_of_heap hb];rfl
 have h3:=h2.right;have qb:w1.cell? ⟨ab,1,none⟩=some (.slice aw ws.length cw):=by rw [cell_of_heap h3.right.right.right.pts_heap];rfl
 have zb:=h3.right.right.right.lt;have zB:=h2.lt;have hsb:=(hw1 ▸ ((Stays.refl w).alloc _):Stays w w1);clear hw1 qb q1 hb;have qb:w1.cell? ⟨ab,1,none⟩=some (.slice aw ws.length cw):=by rw [cell_of_heap h3.right.right.right.pts_heap];rfl
 rw [← es] at*
 have h4:Sat ((Row 194 7 (.slice aw ws.length cw) ws.length (ws.flatMap WasX.cells)).star ((Pr.pts ab (.cells #[.int .i64 mark,.slice aw ws.length cw] 169)).star ((MapA Tryz.prog 3 x.mb x.f).star ((Pr.pts v (.cells #[.pointer (some ⟨x.p,0,none⟩),.map (some x.mb),x.av,.int .i64 s.floor] 108)).star
  ((Pr.pts w.heap.size (.cells #[.int .i64 pk,.int .i64 pl,.slice ai mi ci,.slice ad md cd,.int .i64 nx] 83)).star (((PoolA x.p s.pool).star ((Row 169 2 x.av s.acts.length (actCells x.axs)).star (Pr.own x.h))).star F)))))) w1:=h2.perm (by ac_rfl)
 have hnew:=hQ (new_cells w1 [.int .i64 n,.int .i64 pk,.int .i64 pl,.slice ai mi ci,.slice ad md cd,.int .i64 nx,.bool th] 194 _ rfl);have H5:=hQ (h4.alloc (.cells #[.int .i64 n,.int .i64 pk,.int .i64 pl,.slice ai mi ci,.slice ad md cd,.int .i64 nx,.bool th] 194)).right;have HST:=hQ hsb;clear h2 h3 h4 H1 hsb;go_wp2
 refine wS 30 [0,1,2,3,4,5,6,7,8] [(9,[],[0,1,2,3,4,5,6,7]),(10,[11,12],[0,1,2,3,5,6,7]),(13,[],[11])] ?_;iterate 9 (refine wpQ_step rfl rfl (fun K hK=> ?_);go_simp;refine hK _ ?_;clear hK K)
 refine wpQ_nil ?_;refine wpRest_act rfl ?_;go_wp2;refine onN_mk (wpQ_nil ⟨?_,?_⟩)
 · refine chk_cons ?_ (chk_cons ?_ (chk_cons ?_ (chk_cons ?_ (chk_cons ?_ (chk_cons ?_ (chk_cons ?_ (chk_cons ?_ chk_nil)))))))<;>(refine yieldF_of rfl rfl rfl rfl ?_;go_simp;try omega)
 refine wpRest_act rfl ?_;obtain⟨i0,hi,hz0,hz1,hz2⟩:=info_parts infoWas;refine wpList_append_sl rfl _ _ _ rfl 194 i0 (.agg #[.int .i64 0,.int .i64 0,.int .i64 0,.slice none 0 0,.slice none 0 0,.int .i64 0,.bool false]) 7 88 Tryz.underlying167 hi hz0 hz1 hz2 rfl _ _ _ rfl H5.out ⟨w1.heap.size,0,none⟩ 1 1 _ rfl rfl hnew.out (by simp [Value.oneCell']) (by simp only [maxLen];omega) (by omega) ?_
 intro v' w2 hsat hgr _;obtain⟨a2,c2,hv2,_,_⟩:=Row.read hsat;subst hv2;have hp:=hsat.right;have hpb:=hsat.right.right.right.right;have r0:w2.cell? ⟨w.heap.size,0,none⟩=some (.int .i64 pk):=by rw [cell_of_heap hpb.pts_heap];rfl
 have r1:w2.cell? ⟨w.heap.size,1,none⟩=some (.int .i64 pl):=by rw [cell_of_heap hpb.pts_heap];rfl
 have r2:w2.cell? ⟨w.heap.size,2,none⟩=some (.slice ai mi ci):=by rw [cell_of_heap hpb.pts_heap];rfl
 have r3:w2.cell? ⟨w.heap.size,3,none⟩=some (.slice ad md cd):=by rw [cell_of_heap hpb.pts_heap];rfl
 have r4:w2.cell? ⟨w.heap.size,4,none⟩=some (.int .i64 nx):=by rw [cell_of_heap hpb.pts_heap];rfl
 have y1:=frozen_of_heap hp.pts_heap 1;have y1c:w2.cell? ⟨ab,1,none⟩=some (.slice aw ws.length cw):=by rw [cell_of_heap hp.pts_heap];rfl
 have yp:=hp.lt;have yB:=hpb.lt;have HSAT:=hQ hsat;have HG:=hQ (((HST.out.alloc (.cells #[.int .i64 n,.int .i64 pk,.int .i64 pl,.slice ai mi ci,.slice ad md cd,.int .i64 nx,.bool th] 194)).drew).of_grown hgr);clear hsat hp hpb hgr p0 p1 p2 p3 p4 qb zb zB H5 hnew es;go_wp2;refine onN_mk ?_;iterate 2 (refine wpQ_step rfl rfl (fun K hK=> ?_);go_simp;refine hK _ ?_;clear hK K)
 refine wpQ_nil ⟨?_,?_⟩
 · refine chk_cons ?_ (chk_cons ?_ (chk_cons ?_ (chk_cons ?_ (chk_cons ?_ (chk_cons ?_ (chk_cons ?_ chk_nil))))))<;>(refine yieldF_of rfl rfl rfl rfl ?_;go_simp;try omega)
 refine wpRest_act rfl ?_;go_wp2;refine onN_mk (wpQ_nil ⟨?_,wpRest_nil ?_⟩)
 · refine chk_cons ?_ chk_nil<;>(refine yieldF_of rfl rfl rfl rfl ?_;go_simp;try omega)
 go_wp2;first | refine bodyPost_ret (results_none rfl _ _ _) rfl ?_ | go_end0
 refine⟨rfl,⟨.slice a2 (ws.length+1) c2,⟨n,pk,pl,.slice ai mi ci,.slice ad md cd,nx,th⟩,HR.out,?_⟩,HG.out.setCell _ _⟩
 have h6:Sat ((Pr.pts ab (.cells #[.int .i64 mark,.slice a2 (ws.length+1) c2] 169)).star ((Row 194 7 (.slice a2 (ws.length+1) c2) (ws.length+1) (ws.flatMap WasX.cells++ [.int .i64 n,.int .i64 pk,.int .i64 pl,.slice ai mi ci,.slice ad md cd,.int .i64 nx,.bool th])).star ((MapA Tryz.prog 3 x.mb x.f).star ((Pr.pts v (.cells #[.pointer (some ⟨x.p,0,none⟩),.map (some x.mb),x.av,.int .i64 s.floor] 108)).star ((Pr.pts w.heap.size (.cells #[.int .i64 pk,.int .i64 pl,.slice ai mi ci,.slice ad md cd,.int .i64 nx] 83)).star (((PoolA x.p s.pool).star ((Row 169 2 x.av s.acts.length (actCells x.axs)).star (Pr.own x.h))).star F)))))) _:=(HSAT.out.perm (Pr.left_comm _ _ _)).setCell (i:=1) (.slice a2 (ws.length+1) c2)
 have h7:Sat ((Pr.pts w.heap.size (.cells #[.int .i64 pk,.int .i64 pl,.slice ai mi ci,.slice ad md cd,.int .i64 nx] 83)).star ((((Pr.pts v (.cells #[.pointer (some ⟨x.p,0,none⟩),.map (some x.mb),x.av,.int .i64 s.floor] 108)).star ((PoolA x.p s.pool).star ((MapA Tryz.prog 3 x.mb x.f).star ((Row 169 2 x.av s.acts.length (actCells x.axs)).star (Pr.own x.h))))).star ((Pr.pts ab (.cells #[.int .i64 mark,.slice a2 (ws.length+1) c2] 169)).star (Row 194 7 (.slice a2 (ws.length+1) c2) (ws.length+1) (ws.flatMap WasX.cells++ [.int .i64 n,.int .i64 pk,.int .i64 pl,.slice ai mi ci,.slice ad md cd,.int .i64 nx,.bool th])))).star F)) _:=h6.perm (by ac_rfl)
 have e:VMAt v s x ab mark (.slice a2 (ws.length+1) c2) (ws++ [⟨n,pk,pl,.slice ai mi ci,.slice ad md cd,nx,th⟩])=((Pr.pts v (.cells #[.pointer (some ⟨x.p,0,none⟩),.map (some x.mb),x.av,.int .i64 s.floor] 108)).star ((PoolA x.p s.pool).star ((MapA Tryz.prog 3 x.mb x.f).star ((Row 169 2 x.av s.acts.length (actCells x.axs)).star (Pr.own x.h))))).star ((Pr.pts ab (.cells #[.int .i64 mark,.slice a2 (ws.length+1) c2] 169)).star (Row 194 7 (.slice a2 (ws.length+1) c2) (ws.length+1) (ws.flatMap WasX.cells++ [.int .i64 n,.int .i64 pk,.int .i64 pl,.slice ai mi ci,.slice ad md cd,.int .i64 nx,.bool th]))):=by
  unfold VMAt VaultAt;rw [List.flatMap_append,List.length_append];rfl
 rw [e];exact h7.right
end Go.Proofs.YtiegeadmgpanoaaGreatDoor.V3
