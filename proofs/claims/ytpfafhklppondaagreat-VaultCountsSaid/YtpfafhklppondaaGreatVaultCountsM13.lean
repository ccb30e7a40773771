/- The vault in memory: what was is noted, a page is put; the conditions stand as hypotheses. -/
import Derived.Test.YtpfafhklppondaaGreatVaultCountsM12
import Derived.Test.YtpfafhklppondaaGreatVaultCountsM11
import Derived.Test.YtpfafhklppondaaGreatVaultCountsM01
set_option maxRecDepth 100000
set_option maxHeartbeats 16000000
namespace Go.Proofs.YtpfafhklppondaaGreat.L4
open ChangeShapes WideShapes ChangeAt RowKit Sl Cop M2 P3 X3 G4 Q2 X2 J4
structure WasX where
 no:Int
 pk:Int
 pl:Int
 vi:Value
 vd:Value
 nx:Int
 th:Bool
def WasX.cells(x:WasX):List Value:= [.int .i64 x.no,.int .i64 x.pk,.int .i64 x.pl,x.vi,x.vd,.int .i64 x.nx,.bool x.th]
def IsSl(v:Value):Prop:= ∃a m c,v= .slice a m c
def WasRel(h:Hp)(x:WasX)(y:Int × Option PageV):Prop:=
 x.no=y.1∧IsSl x.vi∧IsSl x.vd∧match y.2 with | some g=>x.th=true∧PageIn h (pageV x.pk x.pl x.vi x.vd x.nx) g | none=>x.th=false
def WasIn(h:Hp)(xs:List WasX)(was:List (Int × Option PageV)):Prop:=xs.length=was.length∧∀i (h1:i<xs.length) (h2:i<was.length),WasRel h xs[i] was[i]
def ActRel(h:Hp)(x:Int × Value)(y:ActV):Prop:=x.1=y.mark∧∃xs:List WasX,RowIn h 7 x.2 y.was.length (xs.flatMap WasX.cells)∧WasIn h xs y.was
def ActsIn2(h:Hp)(xs:List (Int × Value))(acts:List ActV):Prop:=xs.length=acts.length∧∀i (h1:i<xs.length) (h2:i<acts.length),ActRel h xs[i] acts[i]
def actCells(xs:List (Int × Value)):List Value:=xs.flatMap fun x=> [.int .i64 x.1,x.2]
def OnIn(h:Hp)(f:Int→Option Value)(on:Int→Option PageV):Prop:= ∀n,match on n with | none=>f n=none | some g=> ∃v,f n=some v∧PageIn h v g
theorem WasRel.sub {a b:Hp}(hs:a.sub b){x:WasX}{y:Int × Option PageV}(h:WasRel a x y):WasRel b x y:=by
 obtain⟨h1,h2,h3,h4⟩:=h;refine⟨h1,h2,h3,?_⟩;cases hy:y.2 with
 | none=>rw [hy] at h4;exact h4
 | some g=>rw [hy] at h4;exact⟨h4.1,h4.2.sub hs⟩
theorem WasIn.sub {a b:Hp}(hs:a.sub b){xs:List WasX}{was:List (Int × Option PageV)}(h:WasIn a xs was):WasIn b xs was:=⟨h.1,fun i h1 h2=>(h.2 i h1 h2).sub hs⟩
theorem ActsIn2.sub {a b:Hp}(hs:a.sub b){xs:List (Int × Value)}{acts:List ActV}(h:ActsIn2 a xs acts):ActsIn2 b xs acts:=
 ⟨h.1,fun i h1 h2=>⟨(h.2 i h1 h2).1,by obtain⟨ys,e1,e2⟩:=(h.2 i h1 h2).2;exact⟨ys,e1.sub hs,e2.sub hs⟩⟩⟩
theorem OnIn.sub {a b:Hp}(hs:a.sub b){f:Int→Option Value}{on:Int→Option PageV}(h:OnIn a f on):OnIn b f on:=by
 intro n;have:=h n
 cases hy:on n with
 | none=>rw [hy] at this;exact this
 | some g=>rw [hy] at this;obtain⟨v,e1,e2⟩:=this;exact⟨v,e1,e2.sub hs⟩
theorem OnIn.put {h:Hp}{f:Int→Option Value}{on:Int→Option PageV}(hO:OnIn h f on){n:Int}{v:Value}{g:PageV}(hp:PageIn h v g):OnIn h (fun m=>if m=n then some v else f m) (fun m=>if m=n then some g else on m):=by
 intro m;dsimp only;by_cases hm:m=n
 · simp only [hm,if_true];exact⟨v,rfl,hp⟩
 · simp only [hm,if_false];exact hO m
structure VX where
 p:Nat
 mb:Nat
 av:Value
 f:Int→Option Value
 axs:List (Int × Value)
 h:Hp
def VaultAt(v:Nat)(s:VaultS)(x:VX):Pr:=
 (Pr.pts v (.cells #[.pointer (some ⟨x.p,0,none⟩),.map (some x.mb),x.av,.int .i64 s.floor] 62)).star ((PoolA x.p s.pool).star ((MapA Tryz.prog 3 x.mb x.f).star ((Row 153 2 x.av s.acts.length (actCells x.axs)).star (Pr.own x.h))))
structure VOk(s:VaultS)(x:VX):Prop where
 on:OnIn x.h x.f s.on
 acts:ActsIn2 x.h x.axs s.acts
 f0:0≤s.floor
 fb:s.floor+s.acts.length≤1099511627776
def VaultA(v:Nat)(s:VaultS):Pr:=Pr.ex fun x:VX=>(Pr.pure (VOk s x)).star (VaultAt v s x)
theorem vaultA_iff {v:Nat}{s:VaultS}{F:Pr}{w:World}:Sat ((VaultA v s).star F) w↔∃x,VOk s x∧Sat ((VaultAt v s x).star F) w:=by
 unfold VaultA;rw [Sat.ex];constructor
 · rintro⟨x,h⟩
   rw [Pr.star_assoc] at h;obtain⟨h1,h2⟩:=Sat.pure.1 h;exact⟨x,h1,h2⟩
 · rintro⟨x,h1,h2⟩
   refine⟨x,?_⟩;rw [Pr.star_assoc];exact Sat.pure.2 ⟨h1,h2⟩
def VMAt(v:Nat)(s:VaultS)(x:VX)(ab:Nat)(mark:Int)(wv:Value)(ws:List WasX):Pr:=
 (VaultAt v s x).star ((Pr.pts ab (.cells #[.int .i64 mark,wv] 153)).star (Row 167 7 wv ws.length (ws.flatMap WasX.cells)))
theorem new_cells(w:World)(l:List Value)(T:TypeId)(b:Nat)(hb:b=w.heap.size):∀j u,l[j]? =some u→(w.alloc (.cells l.toArray T)).cell? ((⟨b,0,none⟩:Addr).add j)=some u:=by
 intro j u hj;subst hb;rw [add_cell,cell_of_heap (heap_new _ _)];simpa using hj
abbrev zeroPage:Value:=pageV 0 0 (.slice none 0 0) (.slice none 0 0) 0
theorem zero_page(w:World):(zeroValue 37).run Tryz.prog w= .ok zeroPage w:=by kernel_rfl
theorem look_shape {h:Hp}{f:Int→Option Value}{on:Int→Option PageV}(hO:OnIn h f on)(n:Int):
 ∃pk pl ai mi ci ad md cd nx th,(f n).getD zeroPage=pageV pk pl (.slice ai mi ci) (.slice ad md cd) nx∧(f n).isSome=th∧WasRel h ⟨n,pk,pl,.slice ai mi ci,.slice ad md cd,nx,th⟩ (n,on n):=by
 have:=hO n
 cases hy:on n with
 | none=>
   rw [hy] at this;dsimp only at this;exact⟨0,0,none,0,0,none,0,0,0,false,by rw [this];rfl,by rw [this];rfl,rfl,⟨_,_,_,rfl⟩,⟨_,_,_,rfl⟩,rfl⟩
 | some g=>
   rw [hy] at this;obtain⟨v,e1,e2⟩:=this;obtain⟨vi,vd,e3,e4,e5⟩:=id e2;obtain⟨xs,_,⟨_,ai,ci,e6,_⟩,_⟩:=id e4;obtain⟨_,ad,cd,e7,_⟩:=id e5;subst e6;subst e7;exact⟨g.kind,g.level,ai,_,ci,ad,_,cd,g.next,true,by rw [e1,e3];rfl,by rw [e1];rfl,rfl,⟨_,_,_,rfl⟩,⟨_,_,_,rfl⟩,rfl,by rw [← e3];exact e2⟩
theorem note_at(v:Nat)(s:VaultS)(x:VX)(ab:Nat)(mark:Int)(wv:Value)(ws:List WasX)(n:Int)(hn:1≤n∧n≤65536)(hO:OnIn x.h x.f s.on)(hl:ws.length≤65536)(F:Pr)(w:World)
 (hF:Sat ((VMAt v s x ab mark wv ws).star F) w):
 Calls Tryz.prog 149 #[.pointer (some ⟨v,0,none⟩),.pointer (some ⟨ab,0,none⟩),.int .i64 n] w fun e w'=>
  e= .returned (.tuple #[])∧(∃wv' X,WasRel x.h X (n,s.on n)∧Sat ((VMAt v s x ab mark wv' (ws++ [X])).star F) w')∧Stays w w':=by
 have h1:Sat ((MapA Tryz.prog 3 x.mb x.f).star ((Pr.pts v (.cells #[.pointer (some ⟨x.p,0,none⟩),.map (some x.mb),x.av,.int .i64 s.floor] 62)).star ((Row 167 7 wv ws.length (ws.flatMap WasX.cells)).star ((Pr.pts ab (.cells #[.int .i64 mark,wv] 153)).star
  (((PoolA x.p s.pool).star ((Row 153 2 x.av s.acts.length (actCells x.axs)).star (Pr.own x.h))).star F))))) w:=hF.perm (by unfold VMAt VaultAt;ac_rfl)
 obtain⟨pk,pl,ai,mi,ci,ad,md,cd,nx,th,e1,e2,hrel⟩:=look_shape hO n;have q1:w.cell? ⟨v,1,none⟩=some (.map (some x.mb)):=by rw [cell_of_heap h1.right.pts_heap];rfl
 obtain⟨aw,cw,ew,_,_⟩:=Row.read h1.right.right;subst ew;have z0:=h1.right.right.right.lt;have qb:w.cell? ⟨ab,1,none⟩=some (.slice aw ws.length cw):=by rw [cell_of_heap h1.right.right.right.pts_heap];rfl
 have H1:=hQ h1;have HR:=hQ hrel;clear h1 hF hrel hO;go_enter Tryz.func149,Tryz.ntmps149
 go_wp2_with (at_lookup;refine wpList_look rfl _ _ _ true rfl Tryz.underlying3 Tryz.underlying59 zeroPage (zero_page _) n hn rfl rfl H1.out ?_;rw [e1,e2])
 have es:(w.alloc (.cells #[.int .i64 pk,.int .i64 pl,.slice ai mi ci,.slice ad md cd,.int .i64 nx] 37)).heap.size=w.heap.size+1:=by simp
 have h2:=H1.out.alloc (.cells #[.int .i64 pk,.int .i64 pl,.slice ai mi ci,.slice ad md cd,.int .i64 nx] 37);have hb:=h2.pts_heap;generalize hw1:w.alloc (.cells #[.int .i64 pk,.int .i64 pl,.slice ai mi ci,.slice ad md cd,.int .i64 nx] 37)=w1 at*;have p0:w1.cell? ⟨w.heap.size,0,none⟩=some (.int .i64 pk):=by rw [cell_of_heap hb];rfl
 have p1:w1.cell? ⟨w.heap.size,1,none⟩=some (.int .i64 pl):=by rw [cell_of_heap hb];rfl
 have p2:w1.cell? ⟨w.heap.size,2,none⟩=some (.slice ai mi ci):=by rw [cell_of_heap hb];rfl
 have p3:w1.cell? ⟨w.heap.size,3,none⟩=some (.slice ad md cd):=by rw [cell_of_heap hb];rfl
 have p4:w1.cell? ⟨w.heap.size,4,none⟩=some (.int .i64 nx):=by rw [cell_of_heap hb];rfl
 have h3:=h2.right;have qb:w1.cell? ⟨ab,1,none⟩=some (.slice aw ws.length cw):=by rw [cell_of_heap h3.right.right.right.pts_heap];rfl
 have zb:=h3.right.right.right.lt;have zB:=h2.lt;have hsb:=(hw1 ▸ ((Stays.refl w).alloc _):Stays w w1);clear hw1 qb q1 hb;have qb:w1.cell? ⟨ab,1,none⟩=some (.slice aw ws.length cw):=by rw [cell_of_heap h3.right.right.right.pts_heap];rfl
 rw [← es] at*
 have h4:Sat ((Row 167 7 (.slice aw ws.length cw) ws.length (ws.flatMap WasX.cells)).star ((Pr.pts ab (.cells #[.int .i64 mark,.slice aw ws.length cw] 153)).star ((MapA Tryz.prog 3 x.mb x.f).star ((Pr.pts v (.cells #[.pointer (some ⟨x.p,0,none⟩),.map (some x.mb),x.av,.int .i64 s.floor] 62)).star
  ((Pr.pts w.heap.size (.cells #[.int .i64 pk,.int .i64 pl,.slice ai mi ci,.slice ad md cd,.int .i64 nx] 37)).star (((PoolA x.p s.pool).star ((Row 153 2 x.av s.acts.length (actCells x.axs)).star (Pr.own x.h))).star F)))))) w1:=h2.perm (by ac_rfl)
 have hnew:=hQ (new_cells w1 [.int .i64 n,.int .i64 pk,.int .i64 pl,.slice ai mi ci,.slice ad md cd,.int .i64 nx,.bool th] 167 _ rfl);have H5:=hQ (h4.alloc (.cells #[.int .i64 n,.int .i64 pk,.int .i64 pl,.slice ai mi ci,.slice ad md cd,.int .i64 nx,.bool th] 167)).right;have HST:=hQ hsb;clear h2 h3 h4 H1 hsb;go_wp2
 refine wS 30 [0,1,2,3,4,5,6,7,8] [(9,[],[0,1,2,3,4,5,6,7]),(10,[11,12],[0,1,2,3,5,6,7]),(13,[],[11])] ?_;iterate 9 (refine wpQ_step rfl rfl (fun K hK=> ?_);go_simp;refine hK _ ?_;clear hK K)
 refine wpQ_nil ?_;refine wpRest_act rfl ?_;go_wp2;refine onN_mk (wpQ_nil ⟨?_,?_⟩)
 · refine chk_cons ?_ (chk_cons ?_ (chk_cons ?_ (chk_cons ?_ (chk_cons ?_ (chk_cons ?_ (chk_cons ?_ (chk_cons ?_ chk_nil)))))))<;>(refine yieldF_of rfl rfl rfl rfl ?_;go_simp;try omega)
 refine wpRest_act rfl ?_;obtain⟨i0,hi,hz0,hz1,hz2⟩:=info_parts infoWas;refine wpList_append_sl rfl _ _ _ rfl 167 i0 (.agg #[.int .i64 0,.int .i64 0,.int .i64 0,.slice none 0 0,.slice none 0 0,.int .i64 0,.bool false]) 7 88 Tryz.underlying151 hi hz0 hz1 hz2 rfl _ _ _ rfl H5.out ⟨w1.heap.size,0,none⟩ 1 1 _ rfl rfl hnew.out (by simp [Value.oneCell']) (by simp only [maxLen];omega) (by omega) ?_
 intro v' w2 hsat hgr _;obtain⟨a2,c2,hv2,_,_⟩:=Row.read hsat;subst hv2;have hp:=hsat.right;have hpb:=hsat.right.right.right.right;have r0:w2.cell? ⟨w.heap.size,0,none⟩=some (.int .i64 pk):=by rw [cell_of_heap hpb.pts_heap];rfl
 have r1:w2.cell? ⟨w.heap.size,1,none⟩=some (.int .i64 pl):=by rw [cell_of_heap hpb.pts_heap];rfl
 have r2:w2.cell? ⟨w.heap.size,2,none⟩=some (.slice ai mi ci):=by rw [cell_of_heap hpb.pts_heap];rfl
 have r3:w2.cell? ⟨w.heap.size,3,none⟩=some (.slice ad md cd):=by rw [cell_of_heap hpb.pts_heap];rfl
 have r4:w2.cell? ⟨w.heap.size,4,none⟩=some (.int .i64 nx):=by rw [cell_of_heap hpb.pts_heap];rfl
 have y1:=frozen_of_heap hp.pts_heap 1;have y1c:w2.cell? ⟨ab,1,none⟩=some (.slice aw ws.length cw):=by rw [cell_of_heap hp.pts_heap];rfl
 have yp:=hp.lt;have yB:=hpb.lt;have HSAT:=hQ hsat;have HG:=hQ (((HST.out.alloc (.cells #[.int .i64 n,.int .i64 pk,.int .i64 pl,.slice ai mi ci,.slice ad md cd,.int .i64 nx,.bool th] 167)).drew).of_grown hgr);clear hsat hp hpb hgr p0 p1 p2 p3 p4 qb zb zB H5 hnew es;go_wp2;refine onN_mk ?_;iterate 2 (refine wpQ_step rfl rfl (fun K hK=> ?_);go_simp;refine hK _ ?_;clear hK K)
 refine wpQ_nil ⟨?_,?_⟩
 · refine chk_cons ?_ (chk_cons ?_ (chk_cons ?_ (chk_cons ?_ (chk_cons ?_ (chk_cons ?_ (chk_cons ?_ chk_nil))))))<;>(refine yieldF_of rfl rfl rfl rfl ?_;go_simp;try omega)
 refine wpRest_act rfl ?_;go_wp2;refine onN_mk (wpQ_nil ⟨?_,wpRest_nil ?_⟩)
 · refine chk_cons ?_ chk_nil<;>(refine yieldF_of rfl rfl rfl rfl ?_;go_simp;try omega)
 go_wp2;first | refine bodyPost_ret (results_none rfl _ _ _) rfl ?_ | go_end0
 refine⟨rfl,⟨.slice a2 (ws.length+1) c2,⟨n,pk,pl,.slice ai mi ci,.slice ad md cd,nx,th⟩,HR.out,?_⟩,HG.out.setCell _ _⟩
 have h6:Sat ((Pr.pts ab (.cells #[.int .i64 mark,.slice a2 (ws.length+1) c2] 153)).star ((Row 167 7 (.slice a2 (ws.length+1) c2) (ws.length+1) (ws.flatMap WasX.cells++ [.int .i64 n,.int .i64 pk,.int .i64 pl,.slice ai mi ci,.slice ad md cd,.int .i64 nx,.bool th])).star ((MapA Tryz.prog 3 x.mb x.f).star ((Pr.pts v (.cells #[.pointer (some ⟨x.p,0,none⟩),.map (some x.mb),x.av,.int .i64 s.floor] 62)).star ((Pr.pts w.heap.size (.cells #[.int .i64 pk,.int .i64 pl,.slice ai mi ci,.slice ad md cd,.int .i64 nx] 37)).star (((PoolA x.p s.pool).star ((Row 153 2 x.av s.acts.length (actCells x.axs)).star (Pr.own x.h))).star F)))))) _:=(HSAT.out.perm (Pr.left_comm _ _ _)).setCell (i:=1) (.slice a2 (ws.length+1) c2)
 have h7:Sat ((Pr.pts w.heap.size (.cells #[.int .i64 pk,.int .i64 pl,.slice ai mi ci,.slice ad md cd,.int .i64 nx] 37)).star ((((Pr.pts v (.cells #[.pointer (some ⟨x.p,0,none⟩),.map (some x.mb),x.av,.int .i64 s.floor] 62)).star ((PoolA x.p s.pool).star ((MapA Tryz.prog 3 x.mb x.f).star ((Row 153 2 x.av s.acts.length (actCells x.axs)).star (Pr.own x.h))))).star ((Pr.pts ab (.cells #[.int .i64 mark,.slice a2 (ws.length+1) c2] 153)).star (Row 167 7 (.slice a2 (ws.length+1) c2) (ws.length+1) (ws.flatMap WasX.cells++ [.int .i64 n,.int .i64 pk,.int .i64 pl,.slice ai mi ci,.slice ad md cd,.int .i64 nx,.bool th])))).star F)) _:=h6.perm (by ac_rfl)
 have e:VMAt v s x ab mark (.slice a2 (ws.length+1) c2) (ws++ [⟨n,pk,pl,.slice ai mi ci,.slice ad md cd,nx,th⟩])=((Pr.pts v (.cells #[.pointer (some ⟨x.p,0,none⟩),.map (some x.mb),x.av,.int .i64 s.floor] 62)).star ((PoolA x.p s.pool).star ((MapA Tryz.prog 3 x.mb x.f).star ((Row 153 2 x.av s.acts.length (actCells x.axs)).star (Pr.own x.h))))).star ((Pr.pts ab (.cells #[.int .i64 mark,.slice a2 (ws.length+1) c2] 153)).star (Row 167 7 (.slice a2 (ws.length+1) c2) (ws.length+1) (ws.flatMap WasX.cells++ [.int .i64 n,.int .i64 pk,.int .i64 pl,.slice ai mi ci,.slice ad md cd,.int .i64 nx,.bool th]))):=by
  unfold VMAt VaultAt;rw [List.flatMap_append,List.length_append];rfl
 rw [e];exact h7.right
end Go.Proofs.YtpfafhklppondaaGreat.L4
namespace Go.Proofs.YtpfafhklppondaaGreat.V4
open ChangeShapes WideShapes ChangeAt RowKit Sl Cop M2 P3 X3 G4 Q2 X2 J4 L4
theorem page_shape {h:Hp}{pv:Value}{g:PageV}(hg:PageIn h pv g):∃pk pl ai mi ci ad md cd nx,pv=pageV pk pl (.slice ai mi ci) (.slice ad md cd) nx:=by
 obtain⟨vi,vd,e3,e4,e5⟩:=id hg;obtain⟨xs,_,⟨_,ai,ci,e6,_⟩,_⟩:=id e4;obtain⟨_,ad,cd,e7,_⟩:=id e5;subst e6;subst e7;exact⟨_,_,ai,_,ci,ad,_,cd,_,e3⟩
theorem put_at(v:Nat)(s:VaultS)(x:VX)(ab:Nat)(mark:Int)(wv:Value)(ws:List WasX)(n:Int)(hn:1≤n∧n≤65536)(pv:Value)(g:PageV)(hg:PageIn x.h pv g)(hO:OnIn x.h x.f s.on)(hl:ws.length≤65536)(F:Pr)(w:World)
 (hF:Sat ((VMAt v s x ab mark wv ws).star F) w):
 Calls Tryz.prog 96 #[.pointer (some ⟨v,0,none⟩),.pointer (some ⟨ab,0,none⟩),.int .i64 n,pv] w fun e w'=>
  e= .returned (.tuple #[])∧(∃wv' X,WasRel x.h X (n,s.on n)∧Sat ((VMAt v s { x with f:=fun m=>if m=n then some pv else x.f m } ab mark wv' (ws++ [X])).star F) w')∧Stays w w':=by
 obtain⟨pk,pl,ai,mi,ci,ad,md,cd,nx,rfl⟩:=page_shape hg;have h2:=hF.alloc (.cells #[.int .i64 pk,.int .i64 pl,.slice ai mi ci,.slice ad md cd,.int .i64 nx] 37);have h3:=h2.perm (B:=(VMAt v s x ab mark wv ws).star ((Pr.pts w.heap.size (.cells #[.int .i64 pk,.int .i64 pl,.slice ai mi ci,.slice ad md cd,.int .i64 nx] 37)).star F)) (by ac_rfl);have C:=hQ (note_at v s x ab mark wv ws n hn hO hl _ _ h3)
 clear h2 h3 hF hO;go_enter Tryz.func96,Tryz.ntmps96
 go_wp2_with fail
 refine C.out.mono ?_;rintro e w1 ⟨rfl,⟨wv',X,hX,h4⟩,hst⟩
 have h5:Sat ((MapA Tryz.prog 3 x.mb x.f).star ((Pr.pts v (.cells #[.pointer (some ⟨x.p,0,none⟩),.map (some x.mb),x.av,.int .i64 s.floor] 62)).star ((Pr.pts w.heap.size (.cells #[.int .i64 pk,.int .i64 pl,.slice ai mi ci,.slice ad md cd,.int .i64 nx] 37)).star
  (((PoolA x.p s.pool).star ((Row 153 2 x.av s.acts.length (actCells x.axs)).star (Pr.own x.h))).star (((Pr.pts ab (.cells #[.int .i64 mark,wv'] 153)).star (Row 167 7 wv' (ws++ [X]).length ((ws++ [X]).flatMap WasX.cells))).star F))))) w1:=h4.perm (by unfold VMAt VaultAt;ac_rfl)
 have q1:w1.cell? ⟨v,1,none⟩=some (.map (some x.mb)):=by rw [cell_of_heap h5.right.pts_heap];rfl
 have hb:=h5.right.right.pts_heap;have p0:w1.cell? ⟨w.heap.size,0,none⟩=some (.int .i64 pk):=by rw [cell_of_heap hb];rfl
 have p1:w1.cell? ⟨w.heap.size,1,none⟩=some (.int .i64 pl):=by rw [cell_of_heap hb];rfl
 have p2:w1.cell? ⟨w.heap.size,2,none⟩=some (.slice ai mi ci):=by rw [cell_of_heap hb];rfl
 have p3:w1.cell? ⟨w.heap.size,3,none⟩=some (.slice ad md cd):=by rw [cell_of_heap hb];rfl
 have p4:w1.cell? ⟨w.heap.size,4,none⟩=some (.int .i64 nx):=by rw [cell_of_heap hb];rfl
 have H5:=hQ h5;have HX:=hQ hX;have HST:=hQ (((Stays.refl w).alloc _).trans hst);clear h5 h4 hb hX hst C;go_wp2;refine wS 18 [0,1,2,3,4,5] [(6,[],[])] ?_;iterate 6 (refine wpQ_step rfl rfl (fun K hK=> ?_);go_simp;refine hK _ ?_;clear hK K)
 refine wpQ_nil ?_;refine wpRest_act rfl ?_;refine wpList_put rfl _ _ _ _ rfl Tryz.underlying3 Tryz.underlying59 n hn _ rfl rfl rfl H5.out ?_;intro w2 hs2 hg2;have HS2:=hQ hs2;have HG:=hQ ((HST.out.drew).of_grown hg2);clear hs2 hg2;go_wp2;refine onN_mk (wpQ_nil ⟨chk_nil,wpRest_nil ?_⟩);go_wp2;first | refine bodyPost_ret (results_none rfl _ _ _) rfl ?_ | go_end0
 refine⟨rfl,⟨wv',X,HX.out,?_⟩,HG.out⟩;have h6:Sat ((Pr.pts w.heap.size (.cells #[.int .i64 pk,.int .i64 pl,.slice ai mi ci,.slice ad md cd,.int .i64 nx] 37)).star ((VMAt v s { x with f:=fun m=>if m=n then some (pageV pk pl (.slice ai mi ci) (.slice ad md cd) nx) else x.f m } ab mark wv' (ws++ [X])).star F)) w2:=HS2.out.perm (by unfold VMAt VaultAt;dsimp only;ac_rfl);exact h6.right
end Go.Proofs.YtpfafhklppondaaGreat.V4
namespace Go.Cop
def pagesTo(s:PoolS)(k:Int)(m:Nat):List Int:=((List.range m).filter fun i:Nat=>s.state ((i:Int)+1) == k).map fun i:Nat=>(i:Int)+1
abbrev pagesIn(s:PoolS)(k:Int):List Int:=pagesTo s k s.counts.length
theorem pagesTo_yes {s:PoolS}{k:Int}{m:Nat}(h:s.state ((m:Int)+1)=k):pagesTo s k (m+1)=pagesTo s k m++ [(m:Int)+1]:=by
 unfold pagesTo;rw [List.range_succ,List.filter_append,List.map_append];simp [h]
theorem pagesTo_no {s:PoolS}{k:Int}{m:Nat}(h:s.state ((m:Int)+1)≠k):pagesTo s k (m+1)=pagesTo s k m:=by
 unfold pagesTo;rw [List.range_succ,List.filter_append,List.map_append];simp [h]
theorem pagesTo_len(s:PoolS)(k:Int)(m:Nat):(pagesTo s k m).length≤m:=by
 unfold pagesTo;rw [List.length_map];exact Nat.le_trans (List.length_filter_le _ _) (by rw [List.length_range];exact Nat.le_refl _)
theorem pages_mem {s:PoolS}{k n:Int}:n∈pagesIn s k↔s.there n∧s.state n=k:=by
 unfold pagesIn pagesTo;simp only [List.mem_map,List.mem_filter,List.mem_range,beq_iff_eq];constructor
 · rintro⟨i,⟨h1,h2⟩,rfl⟩
   exact⟨⟨by omega,by omega⟩,h2⟩
 · rintro⟨⟨h1,h2⟩,h3⟩
   refine⟨n.toNat-1,⟨by omega,?_⟩,by omega⟩;rw [show ((n.toNat-1:Nat):Int)+1=n by omega];exact h3
end Go.Cop
namespace Go.Proofs.YtpfafhklppondaaGreat.X4
open ChangeShapes WideShapes ChangeAt RowKit Sl Cop Go.Shelf M2 P3 X3 Y3 G4 Q2 L4
attribute [local go_sem] Oper.semAt_some
theorem psettle_any(p:Nat)(s:PoolS)(F:Pr)(w:World)(hF:Sat ((PoolA p s).star F) w):
 Calls Tryz.prog 105 #[.pointer (some ⟨p,0,none⟩)] w fun e w'=>e= .returned (.tuple #[])∧Sat ((PoolA p s.settled).star F) w'∧Stays w w':=by
 obtain⟨ok,cv,lv,fb,av,hA⟩:=poolA_iff.1 hF;have hA1:Sat ((ActsA p av s.acts).star ((Pr.pts p (.cells (poolCells s cv lv fb av) 112)).star ((IntsRow cv s.counts).star ((BoolsRow lv s.last).star ((SetOf fb fun m=>s.state m=1).star F))))) w:=hA.perm (by unfold PoolAt;ac_rfl)
 obtain⟨a9,c9,e9⟩:∃a9 c9,av= .slice a9 s.acts.length c9:=by
  have h1:=hA1;unfold ActsA at h1;obtain⟨⟨fs,hx⟩,h2⟩:=Sat.ex.1 h1;rw [Pr.star_assoc] at h2;obtain⟨_,h3⟩:=Sat.pure.1 h2;dsimp only at h3;rw [Pr.star_assoc] at h3;obtain⟨a,c,hav,_,_⟩:=Row.read h3;exact⟨a,c,hav⟩
 subst e9;have h2:=hA1.perm (B:=(Pr.pts p (.cells (poolCells s cv lv fb (.slice a9 s.acts.length c9)) 112)).star ((IntsRow cv s.counts).star ((BoolsRow lv s.last).star ((ActsA p (.slice a9 s.acts.length c9) s.acts).star ((SetOf fb fun m=>s.state m=1).star F))))) (by ac_rfl)
 refine(settle_low p s.refs cv lv _ _ _ _ _ _ a9 s.acts.length c9 s.floor s.counts s.last _ w h2 ok.n1 ok.n2 ok.len ok.cs ok.fl ok.mb).mono ?_;rintro e w' ⟨rfl,⟨fb2,h3⟩,hst⟩
 have okp:PoolOk (poolOf s.refs s.counts (s.floor+s.acts.length)):=⟨ok.n1,ok.n2,by show (lastsOf s.counts).length=_;unfold lastsOf;rw [List.length_map],ok.r1,ok.r2,ok.cs,by have:=ok.fl;show (0:Int)≤s.floor+ _;omega,by have:=ok.mb;show s.floor+ _+((0:Nat):Int)≤ _;omega⟩;have h4:=mid_end ok.len okp h3
 exact⟨rfl,(h4.perm (B:=(ActsA p (.slice a9 s.acts.length c9) s.acts).star ((SetOf fb fun m=>s.state m=1).star ((PoolA p s.settled).star F))) (by show (PoolA p s.settled).star _=_;ac_rfl)).right.right,hst⟩
theorem ppages_any(p:Nat)(s:PoolS)(k:Int)(F:Pr)(w:World)(hF:Sat ((PoolA p s).star F) w):
 Calls Tryz.prog 104 #[.pointer (some ⟨p,0,none⟩),.int .i64 k] w fun e w'=>
  Stays w w'∧∃lb lv,e= .returned (.func (.func 153) #[] #[.pointer (some ⟨lb,0,none⟩)])∧
   Sat ((Pr.pts lb (.cells #[lv] 29)).star ((IntsRow lv (pagesIn s k)).star ((PoolA p s).star F))) w':=by
 obtain⟨ok,rd,_,_,_⟩:=poolA_rd hF;obtain⟨b,c,h1,_⟩:=rd.cs;have zp:=World.block_lt_of_cell? _ _ h1;have hn2:=ok.n2;have hn3:(s.counts.length:Int)≤65536:=by omega
 have HB:=hQ (hF.alloc (.cells #[.slice none 0 0] 29));have HST:=hQ ((Stays.refl w).alloc (.cells #[.slice none 0 0] 29));obtain⟨i0,hi0,hz0,hz1,hz2⟩:=info_parts infoInt;clear hF rd ok;go_enter Tryz.func104,Tryz.ntmps104
 go_wp2;go_loopw [12] (fun i wr=> ∃(m:Nat) (lv:Value),m≤s.counts.length∧i= .int .i64 m∧Stays w wr∧Sat ((Pr.pts w.heap.size (.cells #[lv] 29)).star ((IntsRow lv (pagesTo s k m)).star ((PoolA p s).star F))) wr) (fun i _=>s.counts.length-(intOf i).toNat)
 case atStart=>
  refine⟨0,.slice none 0 0,Nat.zero_le _,rfl,HST.out,?_⟩;rw [show IntsRow (.slice none 0 0) (pagesTo s k 0)=Pr.emp from Row.nil _ _,Pr.emp_star];exact HB.out
 case round=>
  obtain⟨m,lv,hm,rfl,hst,hs⟩:=hrel;clear HB HST;obtain⟨al,cl,rfl,_,_⟩:=Row.read hs.right;have q0:wr.cell? ⟨w.heap.size,0,none⟩=some (.slice al (pagesTo s k m).length cl):=by rw [cell_of_heap hs.pts_heap];rfl
  have f0:=frozen_of_heap hs.pts_heap 0;have z0:=hs.lt;have hml:=pagesTo_len s k m;have ST:=hQ (state_any p ((m:Int)+1) wr s (poolA_rd (hs.right.right)).2.1);have HYES:=hQ (fun h=>pagesTo_yes (s:=s) (k:=k) (m:=m) h);have HNO:=hQ (fun h=>pagesTo_no (s:=s) (k:=k) (m:=m) h);rcases Nat.lt_or_ge m s.counts.length with hlt | hge
  · by_cases hk:s.state ((m:Int)+1)=k
    · have hb:(s.state ((m:Int)+1) == k)=true:=beq_iff_eq.2 hk
      have HK:=hQ hk;have A1:=hQ ((hs.perm (Pr.left_comm _ _ _)).alloc (.cells [.int .i64 ((m:Int)+1)].toArray 3)).right;have hnew:=hQ (new_cells wr [.int .i64 ((m:Int)+1)] 3 _ rfl);have HSTK:=hQ (hst.alloc (.cells [.int .i64 ((m:Int)+1)].toArray 3));clear hs hst hk;generalize s.state ((m:Int)+1)=sm at*;go_wp2_with fail
      refine ST.out.mono ?_;rintro e w1 ⟨rfl,rfl⟩
      go_wp2_with (
       at_builtin
       refine wpList_append_sl rfl _ _ _ rfl 3 i0 (.int .i64 0) 1 8 Tryz.underlying29 hi0 hz0 hz1 hz2 rfl _ _ _ rfl A1.out ⟨wr.heap.size,0,none⟩ 1 1 [.int .i64 ((m:Int)+1)] rfl rfl hnew.out (by simp [Value.oneCell']) (by simp only [maxLen];omega) (by omega) ?_
       intro v7 w4 hs4 hg4 _
       obtain⟨a7',c7',e7',_,_⟩:=Row.read hs4
       subst e7'
       have g0:w4.cell? ⟨w.heap.size,0,none⟩=some (.slice al (pagesTo s k m).length cl):=by
        rw [cell_of_heap hs4.right.pts_heap]
        rfl
       have gf:=frozen_of_heap hs4.right.pts_heap 0
       have gz:=hs4.right.lt
       have HS4:=hQ hs4
       have HG4:=hQ (HSTK.out.of_grown hg4)
       clear hs4 hg4)
      go_roundw
      case rel=>
       refine⟨m+1,.slice a7' ((pagesTo s k m).length+1) c7',by omega,congrArg (Value.int .i64) (by omega),HG4.out.setCell _ _,?_⟩;have h9:=(HS4.out.perm (Pr.left_comm _ _ _)).setCell (i:=0) (.slice a7' ((pagesTo s k m).length+1) c7');rw [HYES.out HK.out];unfold IntsRow;rw [List.length_append,List.map_append];exact h9
      case measure=>simp [intOf];omega
    · have hb:(s.state ((m:Int)+1) == k)=false:=beq_eq_false_iff_ne.2 hk
      have HK:=hQ hk;have HS:=hQ hs;clear hs hk;generalize s.state ((m:Int)+1)=sm at*;go_wp2_with fail
      refine ST.out.mono ?_;rintro e w1 ⟨rfl,rfl⟩;go_wp2;go_roundw
      case rel=>exact⟨m+1,_,by omega,congrArg (Value.int .i64) (by omega),hst,by rw [HNO.out HK.out];exact HS.out⟩
      case measure=>simp [intOf];omega
  · have hme:m=s.counts.length:=by omega
    subst hme;have HS:=hQ hs;clear hs ST;go_wp2;go_ret;exact⟨hst,_,_,rfl,HS.out⟩
def PagesOwn(lb:Nat)(lv:Value)(xs:List Int):Pr:=(Pr.pts lb (.cells #[lv] 29)).star (IntsRow lv xs)
def encI(n:Int):Array Value:= #[.int .i64 n]
theorem pages1(lb:Nat)(lv:Value)(xs:List Int)(hl:xs.length≤65536):
 IterSl Tryz.prog 153 #[.pointer (some ⟨lb,0,none⟩)] encI xs (PagesOwn lb lv xs):=by
 intro l J Jx W hY h0;refine(callsIn_wide (n:=3)).1 ?_;refine callsIn_of_wp Tryz.func153 rfl trivial ?_ rfl;simp only [Tryz.ntmps153,List.size_toArray,List.length_cons,List.length_nil,Nat.reduceAdd,Nat.reduceSub,Array.replicate_succ,Array.replicate_zero,List.push_toArray,List.append_toArray,List.nil_append,List.cons_append]
 have facts:∀(A:Pr) (wr:World),Sat (A.star (PagesOwn lb lv xs)) wr→∃a c,lv= .slice a xs.length c∧wr.cell? ⟨lb,0,none⟩=some (.slice a xs.length c)∧lb<wr.heap.size∧∀i,i<xs.length→∃b,a=some ⟨b,0,none⟩∧wr.cell? ⟨b,i,none⟩=some (.int .i64 (xs.getD i 0)):=by
  intro A wr hs;unfold PagesOwn at hs;have h1:Sat ((Pr.pts lb (.cells #[lv] 29)).star ((IntsRow lv xs).star A)) wr:=hs.perm (by ac_rfl);obtain⟨a,c,e,_,hc⟩:=Row.read h1.right;subst e;refine⟨a,c,rfl,by rw [cell_of_heap h1.pts_heap];rfl,h1.lt,fun i hi=> ?_⟩;obtain⟨b,eb,hd⟩:=hc (by omega);refine⟨b,eb,?_⟩;rw [(hd i (by omega)).1];simp [hi]
 have F0:=facts _ _ h0;obtain⟨a,c,elv,q1,z1,_⟩:=F0;have hl3:(xs.length:Int)≤65536:=by omega
 have HF:=hQ facts;have HY:=hQ hY;have H0:=hQ h0;have HE:=hQ elv;clear facts hY h0 elv;gi_wp2
 gi_loopw [7] (fun i wr=> ∃r:Nat,r≤xs.length∧i= .int .i64 (r:Int)∧Stays W wr∧Sat ((J (xs.take r)).star (PagesOwn lb lv xs)) wr) (fun i _=>xs.length-(intOf i).toNat)
 case atStart=>exact⟨0,Nat.zero_le _,rfl,Stays.refl _,H0.out⟩
 case round=>
  obtain⟨r,hr,rfl,hR,hs⟩:=hrel;rcases Nat.lt_or_ge r xs.length with hlt | hge
  · obtain⟨a2,c2,e2,_,_,hcell⟩:=HF.out _ _ hs
    have e3:=HE.out;rw [e3] at e2;cases e2;obtain⟨b,rfl,q2⟩:=hcell r hlt
    have hcat:xs.take (r+1)=xs.take r++ [xs.getD r 0]:=by
     rw [List.take_succ_eq_append_getElem hlt];simp [hlt]
    have hpre:xs.take r++ [xs.getD r 0]<+:xs:=by rw [← hcat];exact List.take_prefix _ _
    have HCAT:=hQ hcat;have HP:=hQ hpre;have HS:=hQ hs;have z2:=World.block_lt_of_cell? _ _ q2;clear hcat hpre hs hcell e3;generalize xs.getD r 0=y at*;gi_wp2
    refine at_yield (HY.out Pr.emp (xs.take r) y _ HP.out (HS.out.perm (Pr.star_emp _).symm)) ?_;rintro e w' ⟨hR',(⟨rfl,hs'⟩ | ⟨rfl,hs'⟩)⟩<;>rw [Pr.star_emp] at hs'
    · refine⟨_,rfl,?_⟩
      rw [← HCAT.out] at hs';have HS':=hQ hs';clear hs';gi_wp2
      go_roundw
      case rel=>exact⟨r+1,by omega,congrArg (Value.int .i64) (by omega),hR.trans hR',HS'.out⟩
      case measure=>simp [intOf];omega
    · refine⟨_,rfl,?_⟩
      have HS':=hQ hs';clear hs';gi_wp2
      refine bodyPost_ret (results_none rfl _ _ _) rfl ?_;exact⟨⟨_,rfl⟩,hR.trans hR',.inr ⟨_,HP.out,HS'.out⟩⟩
  · have hre:r=xs.length:=by omega
    subst hre;have HS:=hQ hs;clear hs;gi_wp2
    go_end0
    refine⟨⟨_,rfl⟩,hR,.inl ⟨_,rfl,?_⟩⟩;have h9:=HS.out;rw [List.take_length] at h9;exact h9
end Go.Proofs.YtpfafhklppondaaGreat.X4
namespace Go.Cop
def VaultS.made(s:VaultS)(n:Int)(g:PageV):VaultS:= { s with pool:=s.pool.did n 1,on:=fun m=>if m=n then some g else s.on m }
end Go.Cop
namespace Go.Proofs.YtpfafhklppondaaGreat.Y4
open ChangeShapes WideShapes ChangeAt RowKit Sl Cop M2 P3 X3 G4 Q2 X2 J4 L4 V4
def VMA(v:Nat)(s:VaultS)(ab:Nat)(mark:Int)(was:List (Int × Option PageV)):Pr:=
 Pr.ex fun y:VX × Value × List WasX=>(Pr.pure (VOk s y.1∧WasIn y.1.h y.2.2 was)).star (VMAt v s y.1 ab mark y.2.1 y.2.2)
theorem vma_iff {v:Nat}{s:VaultS}{ab:Nat}{mark:Int}{was:List (Int × Option PageV)}{F:Pr}{w:World}:
 Sat ((VMA v s ab mark was).star F) w↔∃x wv ws,VOk s x∧WasIn x.h ws was∧Sat ((VMAt v s x ab mark wv ws).star F) w:=by
 unfold VMA;rw [Sat.ex];constructor
 · rintro⟨⟨x,wv,ws⟩,h⟩
   rw [Pr.star_assoc] at h;obtain⟨⟨h1,h2⟩,h3⟩:=Sat.pure.1 h;exact⟨x,wv,ws,h1,h2,h3⟩
 · rintro⟨x,wv,ws,h1,h2,h3⟩
   refine⟨(x,wv,ws),?_⟩;rw [Pr.star_assoc];exact Sat.pure.2 ⟨⟨h1,h2⟩,h3⟩
abbrev blobCells(vi vd:Value)(next:Int):Array Value:= #[.int .i64 3,.int .i64 0,vi,vd,.int .i64 next]
end Go.Proofs.YtpfafhklppondaaGreat.Y4
