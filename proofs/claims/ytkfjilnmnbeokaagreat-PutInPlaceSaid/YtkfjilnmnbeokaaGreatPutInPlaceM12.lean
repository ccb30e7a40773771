/- The vault: put, Make's closure, do; the conditions stand as hypotheses. -/
import Derived.Test.YtkfjilnmnbeokaaGreatPutInPlaceM10
import Derived.Defers
import Derived.Test.YtkfjilnmnbeokaaGreatPutInPlaceM09
import Derived.Test.YtkfjilnmnbeokaaGreatPutInPlaceM01
set_option maxRecDepth 100000
set_option maxHeartbeats 16000000
namespace Go.Proofs.YtkfjilnmnbeokaaGreat.E4
open ChangeShapes WideShapes ChangeAt RowKit Sl Cop D2 D3 J3 V3 G2 J2 X3 Y3
theorem page_shape {h:Hp}{pv:Value}{g:PageV}(hg:PageIn h pv g):∃pk pl ai mi ci ad md cd nx,pv=pageV pk pl (.slice ai mi ci) (.slice ad md cd) nx:=by
 obtain⟨vi,vd,e3,e4,e5⟩:=id hg;obtain⟨xs,_,⟨_,ai,ci,e6,_⟩,_⟩:=id e4;obtain⟨_,ad,cd,e7,_⟩:=id e5;subst e6;subst e7;exact⟨_,_,ai,_,ci,ad,_,cd,_,e3⟩
theorem put_at(v:Nat)(s:VaultS)(x:VX)(ab:Nat)(mark:Int)(wv:Value)(ws:List WasX)(n:Int)(hn:1≤n∧n≤65536)(pv:Value)(g:PageV)(hg:PageIn x.h pv g)(hO:OnIn x.h x.f s.on)(hl:ws.length≤65536)(F:Pr)(w:World)
 (hF:Sat ((VMAt v s x ab mark wv ws).star F) w):
 Calls Tryz.prog 108 #[.pointer (some ⟨v,0,none⟩),.pointer (some ⟨ab,0,none⟩),.int .i64 n,pv] w fun e w'=>
  e= .returned (.tuple #[])∧(∃wv' X,WasRel x.h X (n,s.on n)∧Sat ((VMAt v s { x with f:=fun m=>if m=n then some pv else x.f m } ab mark wv' (ws++ [X])).star F) w')∧Stays w w':=by
 obtain⟨pk,pl,ai,mi,ci,ad,md,cd,nx,rfl⟩:=page_shape hg;have h2:=hF.alloc (.cells #[.int .i64 pk,.int .i64 pl,.slice ai mi ci,.slice ad md cd,.int .i64 nx] 74);have h3:=h2.perm (B:=(VMAt v s x ab mark wv ws).star ((Pr.pts w.heap.size (.cells #[.int .i64 pk,.int .i64 pl,.slice ai mi ci,.slice ad md cd,.int .i64 nx] 74)).star F)) (by ac_rfl);have C:=hQ (note_at v s x ab mark wv ws n hn hO hl _ _ h3)
 clear h2 h3 hF hO;go_enter Tryz.func108,Tryz.ntmps108
 go_wp2_with fail
 refine C.out.mono ?_;rintro e w1 ⟨rfl,⟨wv',X,hX,h4⟩,hst⟩
 have h5:Sat ((MapA Tryz.prog 3 x.mb x.f).star ((Pr.pts v (.cells #[.pointer (some ⟨x.p,0,none⟩),.map (some x.mb),x.av,.int .i64 s.floor] 70)).star ((Pr.pts w.heap.size (.cells #[.int .i64 pk,.int .i64 pl,.slice ai mi ci,.slice ad md cd,.int .i64 nx] 74)).star
  (((PoolA x.p s.pool).star ((Row 126 2 x.av s.acts.length (actCells x.axs)).star (Pr.own x.h))).star (((Pr.pts ab (.cells #[.int .i64 mark,wv'] 126)).star (Row 164 7 wv' (ws++ [X]).length ((ws++ [X]).flatMap WasX.cells))).star F))))) w1:=h4.perm (by unfold VMAt VaultAt;ac_rfl)
 have q1:w1.cell? ⟨v,1,none⟩=some (.map (some x.mb)):=by rw [cell_of_heap h5.right.pts_heap];rfl
 have hb:=h5.right.right.pts_heap;have p0:w1.cell? ⟨w.heap.size,0,none⟩=some (.int .i64 pk):=by rw [cell_of_heap hb];rfl
 have p1:w1.cell? ⟨w.heap.size,1,none⟩=some (.int .i64 pl):=by rw [cell_of_heap hb];rfl
 have p2:w1.cell? ⟨w.heap.size,2,none⟩=some (.slice ai mi ci):=by rw [cell_of_heap hb];rfl
 have p3:w1.cell? ⟨w.heap.size,3,none⟩=some (.slice ad md cd):=by rw [cell_of_heap hb];rfl
 have p4:w1.cell? ⟨w.heap.size,4,none⟩=some (.int .i64 nx):=by rw [cell_of_heap hb];rfl
 have H5:=hQ h5;have HX:=hQ hX;have HST:=hQ (((Stays.refl w).alloc _).trans hst);clear h5 h4 hb hX hst C;go_wp2;refine wS 18 [0,1,2,3,4,5] [(6,[],[])] ?_;iterate 6 (refine wpQ_step rfl rfl (fun K hK=> ?_);go_simp;refine hK _ ?_;clear hK K)
 refine wpQ_nil ?_;refine wpRest_act rfl ?_;refine wpList_put rfl _ _ _ _ rfl Tryz.underlying3 Tryz.underlying67 n hn _ rfl rfl rfl H5.out ?_;intro w2 hs2 hg2;have HS2:=hQ hs2;have HG:=hQ ((HST.out.drew).of_grown hg2);clear hs2 hg2;go_wp2;refine onN_mk (wpQ_nil ⟨chk_nil,wpRest_nil ?_⟩);go_wp2;first | refine bodyPost_ret (results_none rfl _ _ _) rfl ?_ | go_end0
 refine⟨rfl,⟨wv',X,HX.out,?_⟩,HG.out⟩;have h6:Sat ((Pr.pts w.heap.size (.cells #[.int .i64 pk,.int .i64 pl,.slice ai mi ci,.slice ad md cd,.int .i64 nx] 74)).star ((VMAt v s { x with f:=fun m=>if m=n then some (pageV pk pl (.slice ai mi ci) (.slice ad md cd) nx) else x.f m } ab mark wv' (ws++ [X])).star F)) w2:=HS2.out.perm (by unfold VMAt VaultAt;dsimp only;ac_rfl);exact h6.right
end Go.Proofs.YtkfjilnmnbeokaaGreat.E4
namespace Go.Cop
def VaultS.made(s:VaultS)(n:Int)(g:PageV):VaultS:= { s with pool:=s.pool.did n 1,on:=fun m=>if m=n then some g else s.on m }
end Go.Cop
namespace Go.Proofs.YtkfjilnmnbeokaaGreat.G4
open ChangeShapes WideShapes ChangeAt RowKit Sl Cop D2 D3 J3 V3 G2 J2 X3 Y3 E4
def VMA(v:Nat)(s:VaultS)(ab:Nat)(mark:Int)(was:List (Int × Option PageV)):Pr:=
 Pr.ex fun y:VX × Value × List WasX=>(Pr.pure (VOk s y.1∧WasIn y.1.h y.2.2 was)).star (VMAt v s y.1 ab mark y.2.1 y.2.2)
theorem vma_iff {v:Nat}{s:VaultS}{ab:Nat}{mark:Int}{was:List (Int × Option PageV)}{F:Pr}{w:World}:
 Sat ((VMA v s ab mark was).star F) w↔∃x wv ws,VOk s x∧WasIn x.h ws was∧Sat ((VMAt v s x ab mark wv ws).star F) w:=by
 unfold VMA;rw [Sat.ex];constructor
 · rintro⟨⟨x,wv,ws⟩,h⟩
   rw [Pr.star_assoc] at h;obtain⟨⟨h1,h2⟩,h3⟩:=Sat.pure.1 h;exact⟨x,wv,ws,h1,h2,h3⟩
 · rintro⟨x,wv,ws,h1,h2,h3⟩
   refine⟨(x,wv,ws),?_⟩;rw [Pr.star_assoc];exact Sat.pure.2 ⟨⟨h1,h2⟩,h3⟩
theorem was_one {h:Hp}{X:WasX}{y:Int × Option PageV}(hr:WasRel h X y):WasIn h [X] [y]:=
 ⟨rfl,fun i h1 h2=>by
   have:i=0:=by simp at h1;omega
   subst this;exact hr⟩
theorem page_bd {p:Nat}{s:PoolS}{F:Pr}{w:World}(h:Sat ((PoolA p s).star F) w){n:Int}(hn:s.there n):1≤n∧n≤65536:=by
 have:=(poolA_rd h).1.n2
 exact⟨hn.1,by have:=hn.2;omega⟩
abbrev blobCells(vi vd:Value)(next:Int):Array Value:= #[.int .i64 3,.int .i64 0,vi,vd,.int .i64 next]
theorem make1_A(v:Nat)(s:VaultS)(ab:Nat)(mark:Int)(VB MB PB:Nat)(m0:Int)(hp:Hp)(vi vd:Value)(d:List Int)(next:Int)(hd:d.length≤65536)(hg:PageIn hp (.agg (blobCells vi vd next)) (blobV d next))(F:Pr)(w:World)
 (hF:Sat ((VMA v s ab mark []).star ((Pr.pts VB (.cells #[.pointer (some ⟨v,0,none⟩)] 24)).star ((Pr.pts MB (.cells #[.int .i64 m0] 3)).star ((Pr.pts PB (.cells (blobCells vi vd next) 74)).star ((Pr.own hp).star F))))) w)
 (hm:s.pool.floor+s.pool.acts.length<1099511627776):
 Calls Tryz.prog 106 #[.pointer (some ⟨ab,0,none⟩),.pointer (some ⟨VB,0,none⟩),.pointer (some ⟨MB,0,none⟩),.pointer (some ⟨PB,0,none⟩)] w fun e w'=>
  Stays w w'∧((e= .returned (.int .i64 12)∧(∀m,s.pool.state m≠1)∧Sat ((VMA v s ab mark []).star ((Pr.pts MB (.cells #[.int .i64 0] 3)).star ((Pr.own hp).star F))) w')∨
   ∃n,e= .returned (.int .i64 0)∧s.pool.state n=1∧(∀m,s.pool.state m=1→n≤m)∧
    Sat ((VMA v (s.made n (blobV d next)) ab mark [(n,s.on n)]).star ((Pr.pts MB (.cells #[.int .i64 n] 3)).star ((Pr.own hp).star F))) w'):=by
 obtain⟨x,wv,ws,ok,hws,hF⟩:=vma_iff.1 hF;obtain⟨vi0,vd0,ee,hi0,hb0⟩:=id hg;simp only [blobCells,pageV,Value.agg.injEq,Array.mk.injEq,List.cons.injEq,and_true,true_and] at ee;obtain⟨rfl,rfl⟩:=ee;obtain⟨ai,ci,rfl,_⟩:=items_none hi0;obtain⟨_,ad,cd,rfl,_⟩:=id hb0;clear hi0 hb0
 have h1:Sat ((PoolA x.p s.pool).star ((Pr.pts v (.cells #[.pointer (some ⟨x.p,0,none⟩),.map (some x.mb),x.av,.int .i64 s.floor] 70)).star ((Pr.pts VB (.cells #[.pointer (some ⟨v,0,none⟩)] 24)).star ((Pr.pts MB (.cells #[.int .i64 m0] 3)).star ((Pr.pts PB (.cells (blobCells (.slice ai 0 ci) (.slice ad d.length cd) next) 74)).star ((Pr.own hp).star
  ((((MapA Tryz.prog 3 x.mb x.f).star ((Row 126 2 x.av s.acts.length (actCells x.axs)).star (Pr.own x.h)))).star (((Pr.pts ab (.cells #[.int .i64 mark,wv] 126)).star (Row 164 7 wv ws.length (ws.flatMap WasX.cells))).star F)))))))) w:=hF.perm (by unfold VMAt VaultAt;ac_rfl)
 have qv:w.cell? ⟨v,0,none⟩=some (.pointer (some ⟨x.p,0,none⟩)):=by rw [cell_of_heap h1.right.pts_heap];rfl
 have qV:w.cell? ⟨VB,0,none⟩=some (.pointer (some ⟨v,0,none⟩)):=by rw [cell_of_heap h1.right.right.pts_heap];rfl
 have A:=hQ (alloc_A x.p s.pool _ w h1 hm);have HB:=hQ (fun n (hn:s.pool.there n)=>page_bd h1 hn);have H1:=hQ h1;clear h1 hF;go_enter Tryz.func106,Tryz.ntmps106
 go_wp2_with fail
 refine A.out.mono ?_;rintro e w1 (⟨rfl,hno,rfl⟩ | ⟨n,rfl,hn,hle,hs,hst⟩)
 · have qM:w.cell? ⟨MB,0,none⟩=some (.int .i64 m0):=by rw [cell_of_heap H1.out.right.right.right.pts_heap];rfl
   have zM:=frozen_of_heap H1.out.right.right.right.pts_heap 0;go_wp2;go_ret;refine⟨(Stays.refl w).setCell _ _,.inl ⟨rfl,hno,vma_iff.2 ⟨x,wv,ws,ok,hws,?_⟩⟩⟩
   have h2:=(H1.out.perm (B:=(Pr.pts MB (.cells #[.int .i64 m0] 3)).star ((VMAt v s x ab mark wv ws).star ((Pr.own hp).star (((Pr.pts VB (.cells #[.pointer (some ⟨v,0,none⟩)] 24)).star ((Pr.pts PB (.cells (blobCells (.slice ai 0 ci) (.slice ad d.length cd) next) 74)))).star F)))) (by unfold VMAt VaultAt;ac_rfl)).setCell (i:=0) (.int .i64 0)
   have h3:Sat (((Pr.pts VB (.cells #[.pointer (some ⟨v,0,none⟩)] 24)).star ((Pr.pts PB (.cells (blobCells (.slice ai 0 ci) (.slice ad d.length cd) next) 74)))).star ((VMAt v s x ab mark wv ws).star ((Pr.pts MB (.cells #[.int .i64 0] 3)).star ((Pr.own hp).star F)))) _:=h2.perm (show (Pr.pts MB (.cells #[.int .i64 0] 3)).star _=_ from by ac_rfl);exact h3.right
 · have qM:w1.cell? ⟨MB,0,none⟩=some (.int .i64 m0):=by rw [cell_of_heap hs.right.right.right.pts_heap];rfl
   have zM:=frozen_of_heap hs.right.right.right.pts_heap 0
   have s2:=(hs.perm (B:=(Pr.pts MB (.cells #[.int .i64 m0] 3)).star ((VMAt v { s with pool:=s.pool.did n 1 } x ab mark wv ws).star ((Pr.own hp).star ((Pr.pts VB (.cells #[.pointer (some ⟨v,0,none⟩)] 24)).star ((Pr.pts PB (.cells (blobCells (.slice ai 0 ci) (.slice ad d.length cd) next) 74)).star F))))) (by unfold VMAt VaultAt;dsimp only;ac_rfl)).setCell (i:=0) (.int .i64 n)
   have hnb:=HB.out n (there_of_state (by omega:s.pool.state n≠0));have HS2:=hQ s2;have HSQ:=hQ (And.intro hn hle);clear hn hle hs H1 A HB;have r2:=HS2.out.right.right;have HST:=hQ (hst.setCell ⟨MB,0,none⟩ (.int .i64 n));have qV2:(w1.setCell ⟨MB,0,none⟩ (.int .i64 n)).cell? ⟨VB,0,none⟩=some (.pointer (some ⟨v,0,none⟩)):=by rw [cell_of_heap r2.right.pts_heap];rfl
   have qM2:(w1.setCell ⟨MB,0,none⟩ (.int .i64 n)).cell? ⟨MB,0,none⟩=some (.int .i64 n):=by rw [cell_of_heap HS2.out.pts_heap];rfl
   have hb:=r2.right.right.pts_heap;have p0:(w1.setCell ⟨MB,0,none⟩ (.int .i64 n)).cell? ⟨PB,0,none⟩=some (.int .i64 3):=by rw [cell_of_heap hb];rfl
   have p1:(w1.setCell ⟨MB,0,none⟩ (.int .i64 n)).cell? ⟨PB,1,none⟩=some (.int .i64 0):=by rw [cell_of_heap hb];rfl
   have p2:(w1.setCell ⟨MB,0,none⟩ (.int .i64 n)).cell? ⟨PB,2,none⟩=some (.slice ai 0 ci):=by rw [cell_of_heap hb];rfl
   have p3:(w1.setCell ⟨MB,0,none⟩ (.int .i64 n)).cell? ⟨PB,3,none⟩=some (.slice ad d.length cd):=by rw [cell_of_heap hb];rfl
   have p4:(w1.setCell ⟨MB,0,none⟩ (.int .i64 n)).cell? ⟨PB,4,none⟩=some (.int .i64 next):=by rw [cell_of_heap hb];rfl
   have hle2:hp.le (w1.setCell ⟨MB,0,none⟩ (.int .i64 n)).drew:=r2.drew.own
   have s3:Sat ((VMAt v { s with pool:=s.pool.did n 1 } x ab mark wv ws).star ((Pr.pts MB (.cells #[.int .i64 n] 3)).star ((Pr.own hp).star (((Pr.pts VB (.cells #[.pointer (some ⟨v,0,none⟩)] 24)).star (Pr.pts PB (.cells (blobCells (.slice ai 0 ci) (.slice ad d.length cd) next) 74))).star F)))) (w1.setCell ⟨MB,0,none⟩ (.int .i64 n)).drew:=HS2.out.drew.perm (show (Pr.pts MB (.cells #[.int .i64 n] 3)).star _=_ from by ac_rfl)
   have C:=hQ (copied_blob hp _ d next hd hg _ _ s3 hle2);clear s2 s3 r2 hb hle2 hst;go_wp2;refine wS 23 [0,1,2,3] [(4,[],[0,1,2]),(5,[],[])] ?_;iterate 4 (refine wpQ_step rfl rfl (fun K hK=> ?_);go_simp;refine hK _ ?_;clear hK K)
   refine wpQ_nil ?_;refine wpRest_act rfl ?_;go_wp2_with fail
   refine C.out.mono ?_;rintro e w3 ⟨pv,rfl,⟨h',hpv,s4⟩,hst4⟩
   have s5:Sat ((Pr.pts VB (.cells #[.pointer (some ⟨v,0,none⟩)] 24)).star ((Pr.pts MB (.cells #[.int .i64 n] 3)).star ((Pr.own x.h).star ((Pr.own h').star
    (((Pr.pts v (.cells #[.pointer (some ⟨x.p,0,none⟩),.map (some x.mb),x.av,.int .i64 s.floor] 70)).star ((PoolA x.p (s.pool.did n 1)).star ((MapA Tryz.prog 3 x.mb x.f).star (Row 126 2 x.av s.acts.length (actCells x.axs))))).star
      (((Pr.pts ab (.cells #[.int .i64 mark,wv] 126)).star (Row 164 7 wv ws.length (ws.flatMap WasX.cells))).star ((Pr.own hp).star ((Pr.pts PB (.cells (blobCells (.slice ai 0 ci) (.slice ad d.length cd) next) 74)).star F)))))))) w3:=s4.perm (by unfold VMAt VaultAt;dsimp only;ac_rfl)
   have t0:w3.cell? ⟨VB,0,none⟩=some (.pointer (some ⟨v,0,none⟩)):=by rw [cell_of_heap s5.pts_heap];rfl
   have t1:w3.cell? ⟨MB,0,none⟩=some (.int .i64 n):=by rw [cell_of_heap s5.right.pts_heap];rfl
   have s5b:Sat ((Pr.own x.h).star ((Pr.own h').star ((Pr.pts VB (.cells #[.pointer (some ⟨v,0,none⟩)] 24)).star ((Pr.pts MB (.cells #[.int .i64 n] 3)).star (((Pr.pts v (.cells #[.pointer (some ⟨x.p,0,none⟩),.map (some x.mb),x.av,.int .i64 s.floor] 70)).star ((PoolA x.p (s.pool.did n 1)).star ((MapA Tryz.prog 3 x.mb x.f).star (Row 126 2 x.av s.acts.length (actCells x.axs))))).star
    (((Pr.pts ab (.cells #[.int .i64 mark,wv] 126)).star (Row 164 7 wv ws.length (ws.flatMap WasX.cells))).star ((Pr.own hp).star ((Pr.pts PB (.cells (blobCells (.slice ai 0 ci) (.slice ad d.length cd) next) 74)).star F)))))))) w3:=s5.perm (by ac_rfl)
   obtain⟨hdis,s6⟩:=Sat.own_join s5b
   have s7:Sat ((VMAt v { s with pool:=s.pool.did n 1 } { x with h:=x.h.un h' } ab mark wv ws).star ((Pr.pts MB (.cells #[.int .i64 n] 3)).star ((Pr.own hp).star ((Pr.pts PB (.cells (blobCells (.slice ai 0 ci) (.slice ad d.length cd) next) 74)).star F)))) w3:=by
    have s6b:Sat (((Pr.pts VB (.cells #[.pointer (some ⟨v,0,none⟩)] 24))).star ((VMAt v { s with pool:=s.pool.did n 1 } { x with h:=x.h.un h' } ab mark wv ws).star ((Pr.pts MB (.cells #[.int .i64 n] 3)).star ((Pr.own hp).star ((Pr.pts PB (.cells (blobCells (.slice ai 0 ci) (.slice ad d.length cd) next) 74)).star F))))) w3:=s6.perm (by unfold VMAt VaultAt;dsimp only;ac_rfl);exact s6b.right
   have hO:OnIn (x.h.un h') x.f s.on:=ok.on.sub (Hp.sub_un_left _ _);have hpv':PageIn (x.h.un h') pv (blobV d next):=hpv.sub (Hp.sub_un_right hdis);have hwl:ws= []:=List.eq_nil_of_length_eq_zero hws.1;subst hwl;have P:=hQ (put_at v { s with pool:=s.pool.did n 1 } { x with h:=x.h.un h' } ab mark wv [] n hnb pv (blobV d next) hpv' hO (by simp) _ w3 s7);have HO:=hQ (And.intro hO hpv')
   have HAC:=hQ (ok.acts.sub (Hp.sub_un_left x.h h'));have HFF:=hQ (And.intro ok.f0 ok.fb);have HST4:=hQ (HST.out.drew.trans hst4);clear s4 s5 s5b s6 s7 hO hpv hpv' C HS2 ok p0 p1 p2 p3 p4 qV2 qM2 hst4 hg;go_wp2;refine onN_mk (wpQ_nil ⟨?_,?_⟩)
   · refine chk_cons ?_ (chk_cons ?_ (chk_cons ?_ chk_nil))<;>(refine yieldF_of rfl rfl rfl rfl ?_;go_simp;try omega)
   refine wpRest_act rfl ?_;go_wp2_with fail
   refine P.out.mono ?_;rintro e w4 ⟨rfl,⟨wv',X,hX,s8⟩,hst5⟩;have HX:=hQ hX;have S8:=hQ s8;clear s8 hX P;go_wp2;refine onN_mk (wpQ_nil ⟨chk_nil,wpRest_nil ?_⟩);go_wp2;go_ret;refine⟨HST4.out.trans hst5,.inr ⟨n,rfl,HSQ.out.1,HSQ.out.2,vma_iff.2 ⟨{ x with f:=fun m=>if m=n then some pv else x.f m,h:=x.h.un h' },wv',[X],⟨HO.out.1.put HO.out.2,HAC.out,HFF.out.1,HFF.out.2⟩,was_one HX.out,?_⟩⟩⟩
   have s9:Sat ((Pr.pts PB (.cells (blobCells (.slice ai 0 ci) (.slice ad d.length cd) next) 74)).star ((VMAt v (s.made n (blobV d next)) { x with f:=fun m=>if m=n then some pv else x.f m,h:=x.h.un h' } ab mark wv' [X]).star ((Pr.pts MB (.cells #[.int .i64 n] 3)).star ((Pr.own hp).star F)))) w4:=S8.out.perm (by unfold VMAt VaultAt;dsimp only [VaultS.made];ac_rfl);exact s9.right
end Go.Proofs.YtkfjilnmnbeokaaGreat.G4
namespace Go.Cop
def VaultS.acted(s:VaultS)(a:ActV):VaultS:= { s with acts:=s.acts++ [a] }
end Go.Cop
namespace Go.Proofs.YtkfjilnmnbeokaaGreat.L4
open ChangeShapes WideShapes ChangeAt RowKit Sl Cop D2 D3 J3 V3 G2 J2 X3 Y3 E4 G4
theorem acts_snoc {h:Hp}{xs:List (Int × Value)}{acts:List ActV}(ha:ActsIn2 h xs acts){x:Int × Value}{y:ActV}(hr:ActRel h x y):ActsIn2 h (xs++ [x]) (acts++ [y]):=by
 refine⟨by simp [ha.1],fun i h1 h2=> ?_⟩;rcases Nat.lt_or_ge i acts.length with hlt | hge
 · have hx:i<xs.length:=by rw [ha.1];exact hlt
   rw [List.getElem_append_left hx,List.getElem_append_left hlt];exact ha.2 i hx hlt
 · have h3:i=acts.length:=by simp at h2;omega
   subst h3;have hx:xs.length≤acts.length:=by rw [ha.1];omega
   rw [List.getElem_append_right hx,List.getElem_append_right hge];simpa using hr
theorem do_ok {α:Type}(v:Nat)(s:VaultS)(g:Nat)(caps:Array Value)(R:α→Prop)(S:α→VaultS)(W:α→List (Int × Option PageV))(F':α→Pr)(F:Pr)(w:World)(hF:Sat ((VaultA v s).star F) w)
 (hm:s.floor+s.acts.length<1099511627776) (eg:∀args w,(callFunc g args).run Tryz.prog w= .ok (.enter g args) w) (hS:∀z,R z→(S z).acts=s.acts∧(S z).floor=s.floor)
 (hc:∀ab w1,Sat ((VMA v s ab s.pool.mark []).star F) w1→Calls Tryz.prog g (#[.pointer (some ⟨ab,0,none⟩)]++caps) w1 fun e w'=>
   Stays w1 w'∧e= .returned (.int .i64 0)∧∃z,R z∧Sat ((VMA v (S z) ab s.pool.mark (W z)).star (F' z)) w'):
 Calls Tryz.prog 95 #[.pointer (some ⟨v,0,none⟩),.func (.func g) #[] caps] w fun e w'=>
  Stays w w'∧e= .returned (.int .i64 0)∧∃z,R z∧Sat ((VaultA v ((S z).acted ⟨s.pool.mark,W z⟩)).star (F' z)) w':=by
 obtain⟨x,ok,hF⟩:=vaultA_iff.1 hF
 have h1:Sat ((PoolA x.p s.pool).star ((Pr.pts v (.cells #[.pointer (some ⟨x.p,0,none⟩),.map (some x.mb),x.av,.int .i64 s.floor] 70)).star
  ((((MapA Tryz.prog 3 x.mb x.f).star ((Row 126 2 x.av s.acts.length (actCells x.axs)).star (Pr.own x.h)))).star F))) w:=hF.perm (by unfold VaultAt;ac_rfl)
 have qv:w.cell? ⟨v,0,none⟩=some (.pointer (some ⟨x.p,0,none⟩)):=by rw [cell_of_heap h1.right.pts_heap];rfl
 have C:=hQ (mark_A x.p s.pool _ w h1);have HF:=hQ hF;have OK:=hQ ok;have hfl:=ok.f0;clear h1 hF ok;go_enter Tryz.func95,Tryz.ntmps95
 go_wp2_with fail
 refine C.out.mono ?_;rintro e w1 ⟨rfl,hst,hh⟩;have h2:=(HF.out.ext (w':=w1) (fun _ _=>by rw [hh])).alloc (.cells #[.int .i64 s.pool.mark,.slice none 0 0] 126)
 have h3:Sat ((VMA v s w1.heap.size s.pool.mark []).star F) _:=vma_iff.2 ⟨x,.slice none 0 0,[],OK.out,⟨rfl,fun i h=>absurd h (by simp)⟩,h2.perm (by
  unfold VMAt
  rw [show (Row 164 7 (.slice none 0 0) ([]:List WasX).length (([]:List WasX).flatMap WasX.cells))=Pr.emp from Row.nil _ _,Pr.star_emp]
  ac_rfl)⟩
 have D:=hQ (hc _ _ h3);have HST:=hQ (hst.alloc (.cells #[.int .i64 s.pool.mark,.slice none 0 0] 126));clear h2 h3 hst hh HF C qv hc OK;go_wp2_with fail
 refine(D.out).mono ?_;rintro e w2 ⟨hst2,rfl,z,hR,h4⟩;obtain⟨x2,wv,ws,ok2,hws,h5⟩:=vma_iff.1 h4;obtain⟨eA,eF⟩:=hS z hR
 have h6:Sat ((Row 126 2 x2.av (S z).acts.length (actCells x2.axs)).star ((Pr.pts v (.cells #[.pointer (some ⟨x2.p,0,none⟩),.map (some x2.mb),x2.av,.int .i64 (S z).floor] 70)).star ((Pr.pts w1.heap.size (.cells #[.int .i64 s.pool.mark,wv] 126)).star ((Row 164 7 wv ws.length (ws.flatMap WasX.cells)).star (((PoolA x2.p (S z).pool).star ((MapA Tryz.prog 3 x2.mb x2.f).star (Pr.own x2.h))).star (F' z)))))) w2:=h5.perm (by unfold VMAt VaultAt;ac_rfl)
 rw [eA,eF] at h6;obtain⟨aw,cw,ew,_,_⟩:=Row.read h6.right.right.right;obtain⟨aa,ca,ea,_,_⟩:=Row.read h6;have qa:w2.cell? ⟨v,2,none⟩=some x2.av:=by rw [cell_of_heap h6.right.pts_heap];rfl
 have q0:w2.cell? ⟨w1.heap.size,0,none⟩=some (.int .i64 s.pool.mark):=by rw [cell_of_heap h6.right.right.pts_heap];rfl
 have q1:w2.cell? ⟨w1.heap.size,1,none⟩=some wv:=by rw [cell_of_heap h6.right.right.pts_heap];rfl
 have z0:=h6.right.lt;have z1:=h6.right.right.lt;rw [ea] at qa h6;have H6:=hQ h6;have HO:=hQ (And.intro ok2 hws);have HST2:=hQ (HST.out.trans hst2);have HEA:=hQ (And.intro eA eF);have HRZ:=hQ hR;have HEW:=hQ ew;have HEV:=hQ ea;have e1:wv= .slice aw ws.length cw:=ew;clear h4 h5 h6 D hst2 HST ok2 hws hS eA eF hR ew ea;subst e1
 have hnew:=hQ (new_cells w2 [.int .i64 s.pool.mark,.slice aw ws.length cw] 126 _ rfl);have H7:=hQ (H6.out.alloc (.cells #[.int .i64 s.pool.mark,.slice aw ws.length cw] 126)).right;clear H6;go_wp2;refine wS 31 [0,1,2,3,4,5] [(6,[],[0,1,2,3,4]),(7,[8,9],[0,1,2,3]),(10,[],[8])] ?_;iterate 6 (refine wpQ_step rfl rfl (fun K hK=> ?_);go_simp;refine hK _ ?_;clear hK K)
 refine wpQ_nil ?_;refine wpRest_act rfl ?_;go_wp2;refine onN_mk (wpQ_nil ⟨?_,?_⟩)
 · refine chk_cons ?_ (chk_cons ?_ (chk_cons ?_ (chk_cons ?_ (chk_cons ?_ chk_nil))))<;>(refine yieldF_of rfl rfl rfl rfl ?_;go_simp;try omega)
 refine wpRest_act rfl ?_;obtain⟨i0,hi,hz0,hz1,hz2⟩:=info_parts infoVAct;refine wpList_append_sl rfl _ _ _ rfl 126 i0 (.agg #[.int .i64 0,.slice none 0 0]) 2 32 Tryz.underlying68 hi hz0 hz1 hz2 rfl _ _ _ rfl H7.out ⟨w2.heap.size,0,none⟩ 1 1 _ rfl rfl hnew.out (by simp [Value.oneCell']) (by simp only [maxLen];omega) (by omega) ?_;intro v' w3 hsat hgr _;obtain⟨a2,c2,hv2,_,_⟩:=Row.read hsat;subst hv2
 have hp:=hsat.right;have y2:=frozen_of_heap hp.pts_heap 2;have y2c:w3.cell? ⟨v,2,none⟩=some (.slice aa s.acts.length ca):=by rw [cell_of_heap hp.pts_heap];rfl
 have yp:=hp.lt;have HSAT:=hQ hsat;have HG:=hQ (((HST2.out.alloc (.cells #[.int .i64 s.pool.mark,.slice aw ws.length cw] 126)).drew).of_grown hgr);clear hsat hp hgr q0 q1 qa z0 z1 H7 hnew;go_wp2;refine onN_mk ?_;iterate 2 (refine wpQ_step rfl rfl (fun K hK=> ?_);go_simp;refine hK _ ?_;clear hK K)
 refine wpQ_nil ⟨?_,?_⟩
 · refine chk_cons ?_ (chk_cons ?_ (chk_cons ?_ (chk_cons ?_ chk_nil)))<;>(refine yieldF_of rfl rfl rfl rfl ?_;go_simp;try omega)
 refine wpRest_act rfl ?_;go_wp2;refine onN_mk (wpQ_nil ⟨?_,wpRest_nil ?_⟩)
 · refine chk_cons ?_ chk_nil<;>(refine yieldF_of rfl rfl rfl rfl ?_;go_simp;try omega)
 go_wp2;go_ret;refine⟨HG.out.setCell _ _,rfl,z,HRZ.out,?_⟩
 have h8:Sat ((Pr.pts v (.cells #[.pointer (some ⟨x2.p,0,none⟩),.map (some x2.mb),.slice a2 (s.acts.length+1) c2,.int .i64 s.floor] 70)).star ((Row 126 2 (.slice a2 (s.acts.length+1) c2) (s.acts.length+1) (actCells x2.axs++ [.int .i64 s.pool.mark,.slice aw ws.length cw])).star ((Pr.pts w1.heap.size (.cells #[.int .i64 s.pool.mark,.slice aw ws.length cw] 126)).star ((Row 164 7 (.slice aw ws.length cw) ws.length (ws.flatMap WasX.cells)).star (((PoolA x2.p (S z).pool).star ((MapA Tryz.prog 3 x2.mb x2.f).star (Pr.own x2.h))).star (F' z)))))) _:=(HSAT.out.perm (Pr.left_comm _ _ _)).setCell (i:=2) (.slice a2 (s.acts.length+1) c2)
 have h9:Sat ((Row 164 7 (.slice aw ws.length cw) ws.length (ws.flatMap WasX.cells)).star ((Pr.own x2.h).star ((Pr.pts v (.cells #[.pointer (some ⟨x2.p,0,none⟩),.map (some x2.mb),.slice a2 (s.acts.length+1) c2,.int .i64 s.floor] 70)).star ((Row 126 2 (.slice a2 (s.acts.length+1) c2) (s.acts.length+1) (actCells x2.axs++ [.int .i64 s.pool.mark,.slice aw ws.length cw])).star ((Pr.pts w1.heap.size (.cells #[.int .i64 s.pool.mark,.slice aw ws.length cw] 126)).star ((PoolA x2.p (S z).pool).star ((MapA Tryz.prog 3 x2.mb x2.f).star (F' z)))))))) _:=h8.perm (by ac_rfl)
 obtain⟨h2,hrow,h10⟩:=toArena (Q:=fun y=>RowIn y 7 (.slice aw ws.length cw) ws.length (ws.flatMap WasX.cells)) h9 (fun y hy=>Row.rowIn hy);obtain⟨hdis,h11⟩:=Sat.own_join (h10.perm (Pr.left_comm _ _ _))
 have h12:Sat ((Pr.pts w1.heap.size (.cells #[.int .i64 s.pool.mark,.slice aw ws.length cw] 126)).star ((Pr.own (x2.h.un h2)).star (((Pr.pts v (.cells #[.pointer (some ⟨x2.p,0,none⟩),.map (some x2.mb),.slice a2 (s.acts.length+1) c2,.int .i64 s.floor] 70)).star ((Row 126 2 (.slice a2 (s.acts.length+1) c2) (s.acts.length+1) (actCells x2.axs++ [.int .i64 s.pool.mark,.slice aw ws.length cw])).star ((PoolA x2.p (S z).pool).star (MapA Tryz.prog 3 x2.mb x2.f)))).star (F' z)))) _:=h11.perm (by ac_rfl)
 obtain⟨ok2,hws⟩:=HO.out;obtain⟨eA,eF⟩:=HEA.out;refine vaultA_iff.2 ⟨{ x2 with av:= .slice a2 (s.acts.length+1) c2,axs:=x2.axs++ [(s.pool.mark,.slice aw ws.length cw)],h:=x2.h.un h2 },⟨ok2.on.sub (Hp.sub_un_left _ _),?_,?_,?_⟩,?_⟩
 · refine acts_snoc (ok2.acts.sub (Hp.sub_un_left _ _)) ⟨rfl,ws,?_,hws.sub (Hp.sub_un_left _ _)⟩
   have hl:(W z).length=ws.length:=hws.1.symm;dsimp only;rw [hl];exact hrow.sub (Hp.sub_un_right hdis)
 · exact ok2.f0
 · show (S z).floor+(((S z).acts++ [_]).length:Nat)≤ _
   rw [eA,eF,List.length_append];simp only [List.length_cons,List.length_nil];omega
 · refine h12.right.perm ?_
   unfold VaultAt
   have e1:((S z).acted ⟨s.pool.mark,W z⟩).acts.length=s.acts.length+1:=by
    show ((S z).acts++ [_]).length=_
    rw [eA,List.length_append];rfl
   have e2:((S z).acted ⟨s.pool.mark,W z⟩).floor=s.floor:=eF
   have e3:actCells (x2.axs++ [(s.pool.mark,.slice aw ws.length cw)])=actCells x2.axs++ [.int .i64 s.pool.mark,.slice aw ws.length cw]:=by
    unfold actCells;rw [List.flatMap_append];rfl
   dsimp only;rw [e1,e2,e3];show _=(Pr.star _ ((PoolA x2.p (S z).pool).star _)).star _
   ac_rfl
end Go.Proofs.YtkfjilnmnbeokaaGreat.L4
namespace Go.Cop
theorem zip_at {s:PoolS}(ok:PoolOk s){i:Nat}(hi:i<s.counts.length):s.there (i+1)∧s.state (i+1)=stateOf s.counts[i] (s.last[i]'(by rw [ok.len];exact hi)):=by
 have ht:s.there ((i:Int)+1):=⟨by omega,by omega⟩;refine⟨ht,?_⟩;have hl:i<s.last.length:=by rw [ok.len];exact hi
 rw [state_there ht];unfold PoolS.count PoolS.lasts;rw [if_pos ht,show ((i:Int)+1).toNat-1=i by omega,List.getD_eq_getElem?_getD,List.getD_eq_getElem?_getD,List.getElem?_eq_getElem hi,List.getElem?_eq_getElem hl];rfl
theorem free_of_many {s:PoolS}(ok:PoolOk s){k:Int}(h:s.many k≠0):∃n,s.state n=k:=by
 unfold PoolS.many at h;cases hl:(s.counts.zip s.last).filter fun x=>stateOf x.1 x.2 == k with
 | nil=>rw [hl] at h;simp at h
 | cons x l=>
   have hx:x∈(s.counts.zip s.last).filter fun x=>stateOf x.1 x.2 == k:=by rw [hl];simp
   obtain⟨h1,h2⟩:=List.mem_filter.1 hx;obtain⟨i,hi,e⟩:=List.getElem_of_mem h1;have hc:i<s.counts.length:=by simp at hi;omega
   refine⟨(i:Int)+1,?_⟩;rw [(zip_at ok hc).2];rw [List.getElem_zip] at e;subst e;simpa using h2
theorem lasts_of_free {s:PoolS}(ok:PoolOk s){n:Int}(h:s.state n=1):s.lasts n=false:=by
 have h0:=count_of_free ok h;rw [state_there (there_of_state (by omega)),h0] at h;cases hl:s.lasts n with
 | false=>rfl
 | true=>rw [hl] at h;simp [stateOf] at h
theorem did_many {s:PoolS}(ok:PoolOk s){n:Int}(h:s.state n=1):(s.did n 1).many 1+1=s.many 1:=by
 have h0:=count_of_free ok h;have h1:=lasts_of_free ok h;have ht:=there_of_state (by omega:s.state n≠0);have:=turn_many ok (b:=1) ht 1
 rw [h,h0,h1] at this;show (s.turn n 1).many 1+1=_
 simpa [stateOf] using this
def VaultS.make(s:VaultS)(n:Int)(g:PageV):VaultS:=(s.made n g).acted ⟨s.pool.mark,[(n,s.on n)]⟩
inductive Steps : VaultS → VaultS → Prop where
  | refl (s : VaultS) : Steps s s
  | step {s t : VaultS} (n : Int) (g : PageV) : Steps s t → t.pool.state n = 1 → t.pool.count n = 0 → Steps s (t.make n g)
structure Taken(s s':VaultS)(ns:List Int):Prop where
 desc:ns.Pairwise (fun a b=>b<a)
 free:∀n∈ns,s.pool.state n=1
 cnt:∀n∈ns,s'.pool.count n=1
 same:∀n,n ∉ ns→s'.pool.count n=s.pool.count n∧s'.on n=s.on n
 low:∀m,s'.pool.state m=1→∀n∈ns,n<m
 last:s'.pool.last=s.pool.last
 refs:s'.pool.refs=s.pool.refs
 len:s'.pool.counts.length=s.pool.counts.length
 many:s'.pool.many 1+ns.length=s.pool.many 1
 pf:s'.pool.floor=s.pool.floor
 pa:s'.pool.acts.length=s.pool.acts.length+ns.length
 vf:s'.floor=s.floor
 va:s'.acts.length=s.acts.length+ns.length
 steps:Steps s s'
theorem Taken.refl(s:VaultS):Taken s s []:=
 ⟨List.Pairwise.nil,by simp,by simp,fun _ _=>⟨rfl,rfl⟩,by simp,rfl,rfl,rfl,rfl,rfl,rfl,rfl,rfl,.refl s⟩
theorem Taken.step {s t:VaultS}{ns:List Int}(h:Taken s t ns)(ok:PoolOk t.pool){n:Int}(hn:t.pool.state n=1)(hle:∀m,t.pool.state m=1→n≤m)(g:PageV):Taken s (t.make n g) (n :: ns):=by
 have ht:=there_of_state (by omega:t.pool.state n≠0);have h0:=count_of_free ok hn;have hni:n ∉ ns:=fun hm=>by have:=h.cnt n hm;omega
 have hcnt:∀m,(t.make n g).pool.count m=if m=n then 1 else t.pool.count m:=fun m=>by
  have:=did_count (s:=t.pool) (b:=1) (m:=m) ht
  rw [h0] at this;exact this
 refine⟨List.pairwise_cons.2 ⟨fun m hm=>h.low n hn m hm,h.desc⟩,?_,?_,?_,?_,h.last,h.refs,?_,?_,h.pf,?_,h.vf,?_,.step n g h.steps hn h0⟩
 · intro m hm
   rcases List.mem_cons.1 hm with rfl | hm
   · have hs:=(h.same m hni).1
     have hts:s.pool.there m:=⟨ht.1,by have:=ht.2;have:=h.len;omega⟩;have e1:s.pool.lasts m=t.pool.lasts m:=by unfold PoolS.lasts;rw [h.last]
     rw [state_there hts,e1, ← hs, ← state_there ht];exact hn
   · exact h.free m hm
 · intro m hm
   rw [hcnt];rcases List.mem_cons.1 hm with rfl | hm
   · rw [if_pos rfl]
   · split
     · rfl
     · exact h.cnt m hm
 · intro m hm
   have hm1:m≠n:=fun e=>hm (by rw [e];simp)
   have hm2:m ∉ ns:=fun e=>hm (by simp [e])
   rw [hcnt,if_neg hm1];refine⟨(h.same m hm2).1,?_⟩;show (if m=n then some g else t.on m)=_
   rw [if_neg hm1];exact(h.same m hm2).2
 · intro m hm k hk
   have hs:=did_state (s:=t.pool) (b:=1) (m:=m) ht;have hm':(t.pool.did n 1).state m=1:=hm;rw [hm'] at hs;by_cases hmn:m=n
   · rw [if_pos hmn,h0] at hs
     unfold stateOf at hs;simp at hs
     split at hs<;>omega
   · rw [if_neg hmn] at hs
     rcases List.mem_cons.1 hk with rfl | hk
     · have:=hle m hs.symm;omega
     · exact h.low m hs.symm k hk
 · show (t.pool.counts.set _ _).length=_
   rw [List.length_set];exact h.len
 · have h1:=did_many ok hn
   have h2:=h.many;show (t.pool.did n 1).many 1+(ns.length+1)=_
   omega
 · show (t.pool.acts++ [_]).length=_
   rw [List.length_append,h.pa];simp only [List.length_cons,List.length_nil];omega
 · show (t.acts++ [_]).length=_
   rw [List.length_append,h.va];simp only [List.length_cons,List.length_nil];omega
def chunk(V:List Int)(j:Nat):List Int:=(V.drop (480*j)).take 480
def chunks(V:List Int):Nat:=(V.length+479) / 480
theorem chunk_len(V:List Int)(j:Nat):(chunk V j).length=min 480 (V.length-480*j):=by simp [chunk]
def ChainAt(s:VaultS)(V:List Int):Nat→Nat→Int→List Int→Prop
 | 0,_,c,ns=>c=0∧ns= []
 | k+1,j,c,ns=> ∃c' ns',ns=c :: ns'∧(1≤c∧c≤65536)∧s.pool.count c=1∧s.on c=some (blobV (chunk V j) c')∧ChainAt s V k (j+1) c' ns'
theorem chain_len {s:VaultS}{V:List Int}:∀ {k j:Nat} {c:Int} {ns:List Int},ChainAt s V k j c ns→ns.length=k:=by
 intro k;induction k with
 | zero=>intro j c ns h;rw [h.2];rfl
 | succ k ih=>
   intro j c ns h;obtain⟨c',ns',rfl,_,_,_,h5⟩:=h;simp [ih h5]
theorem chain_keep {s s':VaultS}{V:List Int}:∀ {k j:Nat} {c:Int} {ns:List Int},(∀n∈ns,s'.pool.count n=s.pool.count n∧s'.on n=s.on n)→ChainAt s V k j c ns→ChainAt s' V k j c ns:=by
 intro k;induction k with
 | zero=>intro j c ns _ h;exact h
 | succ k ih=>
   intro j c ns hk h;obtain⟨c',ns',rfl,h2,h3,h4,h5⟩:=h;have h1:=hk c (by simp);exact⟨c',ns',rfl,h2,h1.1.trans h3,h1.2.trans h4,ih (fun n hn=>hk n (by simp [hn])) h5⟩
theorem chain_make {s:VaultS}{V:List Int}(ok:PoolOk s.pool){k j:Nat}{c:Int}{ns:List Int}(h:ChainAt s V k (j+1) c ns)(hc:∀n∈ns,s.pool.count n=1){n:Int}(hn:s.pool.state n=1)(hb:1≤n∧n≤65536):
 ChainAt (s.make n (blobV (chunk V j) c)) V (k+1) j n (n :: ns):=by
 have ht:=there_of_state (by omega:s.pool.state n≠0);have h0:=count_of_free ok hn
 have hcnt:∀m,(s.make n (blobV (chunk V j) c)).pool.count m=if m=n then 1 else s.pool.count m:=fun m=>by
  have:=did_count (s:=s.pool) (b:=1) (m:=m) ht
  rw [h0] at this;exact this
 refine⟨c,ns,rfl,hb,by rw [hcnt,if_pos rfl],if_pos rfl,chain_keep (fun m hm=> ?_) h⟩;have:m≠n:=fun e=>by have:=hc m hm;rw [e] at this;omega
 refine⟨by rw [hcnt,if_neg this],?_⟩;show (if m=n then _ else s.on m)=_
 rw [if_neg this]
end Go.Cop
namespace Go.Proofs.YtkfjilnmnbeokaaGreat.M4
open ChangeShapes WideShapes ChangeAt RowKit Sl Cop D2 D3 J3 V3 G2 J2 X3 Y3 E4 G4 L4
theorem make_ok(v:Nat)(s:VaultS)(hp:Hp)(vi vd:Value)(d:List Int)(next:Int)(hd:1≤d.length∧d.length≤480)(hx:next=0∨1≤next∧next≤65536)(hg:PageIn hp (.agg (blobCells vi vd next)) (blobV d next))(F:Pr)(w:World)
 (hF:Sat ((VaultA v s).star ((Pr.own hp).star F)) w) (hfree:∃m,s.pool.state m=1) (hm:s.pool.floor+s.pool.acts.length<1099511627776) (hm2:s.floor+s.acts.length<1099511627776):
 Calls Tryz.prog 70 #[.pointer (some ⟨v,0,none⟩),.agg (blobCells vi vd next)] w fun e w'=>
  Stays w w'∧∃n,e= .returned (.tuple #[.int .i64 n,.int .i64 0])∧(s.pool.state n=1∧∀m,s.pool.state m=1→n≤m)∧
   Sat ((VaultA v ((s.made n (blobV d next)).acted ⟨s.pool.mark,[(n,s.on n)]⟩)).star ((Pr.own hp).star F)) w':=by
 obtain⟨vi0,vd0,ee,hi0,hb0⟩:=id hg;simp only [blobCells,pageV,Value.agg.injEq,Array.mk.injEq,List.cons.injEq,and_true,true_and] at ee;obtain⟨rfl,rfl⟩:=ee;obtain⟨ai,ci,rfl,_⟩:=items_none hi0;obtain⟨_,ad,cd,rfl,_⟩:=id hb0;clear hi0 hb0;have es:(w.alloc (.cells #[.pointer (some ⟨v,0,none⟩)] 24)).heap.size=w.heap.size+1:=by simp
 have h1:=(hF.alloc (.cells #[.pointer (some ⟨v,0,none⟩)] 24)).alloc (.cells (blobCells (.slice ai 0 ci) (.slice ad d.length cd) next) 74);rw [es] at h1;have HC:=fun wx=>hQ (check_blob ai ad ci d.length cd next hd hx wx)
 have H1:=hQ h1;clear h1 hF es;go_enter Tryz.func70,Tryz.ntmps70
 go_wp2_with fail
 refine(HC _).out.mono ?_;rintro e w1 ⟨rfl,ho⟩;have h2:=H1.out.only ho;have h3:=h2.alloc (.cells #[.int .i64 0] 3)
 have h4:=h3.perm (B:=(VaultA v s).star ((Pr.pts w.heap.size (.cells #[.pointer (some ⟨v,0,none⟩)] 24)).star ((Pr.pts w1.heap.size (.cells #[.int .i64 0] 3)).star ((Pr.pts (w.heap.size+1) (.cells (blobCells (.slice ai 0 ci) (.slice ad d.length cd) next) 74)).star ((Pr.own hp).star F))))) (by ac_rfl)
 have q0:(w1.alloc (.cells #[.int .i64 0] 3)).cell? ⟨w.heap.size,0,none⟩=some (.pointer (some ⟨v,0,none⟩)):=by rw [cell_of_heap h4.right.pts_heap];rfl
 have D:=do_ok v s 106 #[.pointer (some ⟨w.heap.size,0,none⟩),.pointer (some ⟨w1.heap.size,0,none⟩),.pointer (some ⟨w.heap.size+1,0,none⟩)] (fun n:Int=>s.pool.state n=1∧∀m,s.pool.state m=1→n≤m)
  (fun n=>s.made n (blobV d next)) (fun n=> [(n,s.on n)]) (fun n=>(Pr.pts w1.heap.size (.cells #[.int .i64 n] 3)).star ((Pr.own hp).star F)) _ _ h4 hm2 (fun _ _=>rfl) (fun z _=>⟨rfl,rfl⟩) (fun ab wx hwx=>
    (make1_A v s ab s.pool.mark w.heap.size w1.heap.size (w.heap.size+1) 0 hp (.slice ai 0 ci) (.slice ad d.length cd) d next (by omega) hg F wx hwx hm).mono (by
      rintro e w' ⟨hst,(⟨_,hno,_⟩ | ⟨n,e1,e2,e3,e4⟩)⟩
      · obtain⟨m,hm⟩:=hfree
        exact absurd hm (hno m)
      · exact⟨hst,e1,n,⟨e2,e3⟩,e4⟩))
 have HD:=hQ D;have HST:=hQ (((((Stays.refl w).alloc (.cells #[.pointer (some ⟨v,0,none⟩)] 24)).alloc (.cells (blobCells (.slice ai 0 ci) (.slice ad d.length cd) next) 74)).trans ho.st).alloc (.cells #[.int .i64 0] 3));clear D h4 h3 h2 ho H1 HC;go_wp2_with fail
 refine HD.out.mono ?_;rintro e w2 ⟨hst2,rfl,n,hR,h5⟩;have h6:=h5.perm (Pr.left_comm _ _ _);have q1:w2.cell? ⟨w1.heap.size,0,none⟩=some (.int .i64 n):=by rw [cell_of_heap h6.pts_heap];rfl
 have H6:=hQ h6.right;clear h5 h6;go_wp2;go_ret2;exact⟨HST.out.trans hst2,n,rfl,hR,H6.out⟩
theorem results_cell_row_tmp {fn:Func}{p u:Tmp}{ty:TypeId}(h:fn.results= #[.cell p ty,.tmp u])(tmps:Array Value)(w:World)(g:Nat)(cs:Array Value)
 (hp:tmps.getD p undef= .pointer (some ⟨g,0,none⟩)) (hr:(loadVar ty ⟨g,0,none⟩).run Tryz.prog w= .ok (.agg cs) w):
 (results fn tmps).run Tryz.prog w= .ok (.tuple #[.agg cs,tmps.getD u undef]) w:=by
 rw [results_cell_tmp h,hp];simp [asAddr,Result.andThen,hr]
theorem read_none(v:Nat)(s:VaultS)(n:Int)(F:Pr)(w:World)(hF:Sat ((VaultA v s).star F) w)(h0:s.pool.count n=0):
 Calls Tryz.prog 21 #[.pointer (some ⟨v,0,none⟩),.int .i64 n] w fun e w'=>e= .returned (.tuple #[zeroPage,.int .i64 15])∧Only w w':=by
 obtain⟨x,ok,hF⟩:=vaultA_iff.1 hF;have ho:Only w (w.alloc (.cells #[.int .i64 0,.int .i64 0,.slice none 0 0,.slice none 0 0,.int .i64 0] 74)):=(Only.refl w).alloc _
 have h1:Sat ((PoolA x.p s.pool).star ((Pr.pts v (.cells #[.pointer (some ⟨x.p,0,none⟩),.map (some x.mb),x.av,.int .i64 s.floor] 70)).star
  ((((MapA Tryz.prog 3 x.mb x.f).star ((Row 126 2 x.av s.acts.length (actCells x.axs)).star (Pr.own x.h)))).star F))) w:=hF.perm (by unfold VaultAt;ac_rfl)
 have qv:w.cell? ⟨v,0,none⟩=some (.pointer (some ⟨x.p,0,none⟩)):=by rw [cell_of_heap h1.right.pts_heap];rfl
 have zv:=h1.right.lt;have hh:=heap_new w (.cells #[.int .i64 0,.int .i64 0,.slice none 0 0,.slice none 0 0,.int .i64 0] 74);have C:=hQ (count_A x.p s.pool n _ _ (h1.only ho));rw [h0] at C;have HH:=hQ hh;have HO:=hQ ho;clear h1 hF ok hh ho;go_enter Tryz.func21,Tryz.ntmps21
 go_wp2_with fail
 refine C.out.mono ?_;rintro e w1 ⟨rfl,rfl⟩;go_wp2;refine bodyPost_ret (results_cell_row_tmp rfl _ _ w.heap.size _ rfl (run_loadVar_row _ w.heap.size _ _ _ _ _ HH.out Tryz.underlying74 rfl infoPage)) rfl ?_;exact⟨rfl,HO.out⟩
abbrev newV(refs:Int)(pages:Nat):VaultS:=⟨poolOf refs (List.replicate pages 0) 0,fun _=>none,[],0⟩
theorem vnew_any(pages:Nat)(refs:Int)(h:1≤pages∧pages≤65536∧2≤refs∧refs<65536)(F:Pr)(w:World)(hF:Sat F w):
 Calls Tryz.prog 8 #[.int .i64 pages,.int .i64 refs] w fun e w'=>
  Stays w w'∧∃v,e= .returned (.tuple #[.pointer (some ⟨v,0,none⟩),.int .i64 0])∧Sat ((VaultA v (newV refs pages)).star F) w':=by
 have C:=hQ (V3.new_any pages refs (by omega) F w hF);rw [Int.toNat_natCast] at C;clear hF;go_enter Tryz.func8,Tryz.ntmps8
 go_wp2_with fail
 refine C.out.mono ?_;rintro e w1 ⟨p,rfl,h1,hst⟩;have h2:=map_made (P:=Tryz.prog) (k:=3) h1;have es:(w1.alloc (.map #[] 0)).heap.size=w1.heap.size+1:=by simp
 have h3:=h2.alloc (.cells #[.pointer (some ⟨p,0,none⟩),.map (some w1.heap.size),.slice none 0 0,.int .i64 0] 70);rw [es] at h3;have H3:=hQ h3;have HST:=hQ ((hst.alloc (.map #[] 0)).alloc (.cells #[.pointer (some ⟨p,0,none⟩),.map (some w1.heap.size),.slice none 0 0,.int .i64 0] 70));clear h1 h2 h3 hst C es
 have hmk:∀wx:World,(Instr.makeMap 67 none).run Tryz.prog wx= .ok (.map (some wx.heap.size)) (wx.alloc (.map #[] 0)):=fun wx=>run_makeMap _ wx
 go_wp2;go_ret2;refine⟨HST.out,w1.heap.size+1,rfl,vaultA_iff.2 ⟨⟨p,w1.heap.size,.slice none 0 0,fun _=>none,[],Hp.nil⟩,⟨fun n=>rfl,⟨rfl,fun i h=>absurd h (by simp)⟩,Int.le_refl _,by simp⟩,H3.out.perm ?_⟩⟩;unfold VaultAt;rw [own_nil,show (Row 126 2 (.slice none 0 0) (newV refs pages).acts.length (actCells []))=Pr.emp from Row.nil _ _,Pr.emp_star,Pr.star_emp];ac_rfl
end Go.Proofs.YtkfjilnmnbeokaaGreat.M4
namespace Go.Proofs.YtkfjilnmnbeokaaGreat.N4
open ChangeShapes WideShapes ChangeAt RowKit Sl Cop D2 D3 J3 V3 G2 J2 X3 Y3 E4 G4 L4 M4
theorem vault_ok {v:Nat}{s:VaultS}{F:Pr}{w:World}(h:Sat ((VaultA v s).star F) w):PoolOk s.pool∧0≤s.floor∧s.floor+s.acts.length≤1099511627776:=by
 obtain⟨x,ok,h1⟩:=vaultA_iff.1 h
 have h2:Sat ((PoolA x.p s.pool).star ((Pr.pts v (.cells #[.pointer (some ⟨x.p,0,none⟩),.map (some x.mb),x.av,.int .i64 s.floor] 70)).star
  ((((MapA Tryz.prog 3 x.mb x.f).star ((Row 126 2 x.av s.acts.length (actCells x.axs)).star (Pr.own x.h)))).star F))) w:=h1.perm (by unfold VaultAt;ac_rfl)
 exact⟨(poolA_rd h2).1,ok.f0,ok.fb⟩
theorem vmark_A(v:Nat)(s:VaultS)(F:Pr)(w:World)(hF:Sat ((VaultA v s).star F) w):
 Calls Tryz.prog 26 #[.pointer (some ⟨v,0,none⟩)] w fun e w'=>e= .returned (.int .i64 (s.floor+s.acts.length))∧Only w w':=by
 obtain⟨_,b1,b2⟩:=vault_ok hF;obtain⟨x,ok,h1⟩:=vaultA_iff.1 hF
 have h2:Sat ((Row 126 2 x.av s.acts.length (actCells x.axs)).star ((Pr.pts v (.cells #[.pointer (some ⟨x.p,0,none⟩),.map (some x.mb),x.av,.int .i64 s.floor] 70)).star
  ((((MapA Tryz.prog 3 x.mb x.f).star ((PoolA x.p s.pool).star (Pr.own x.h)))).star F))) w:=h1.perm (by unfold VaultAt;ac_rfl)
 obtain⟨aa,ca,ea,_,_⟩:=Row.read h2;have q2:w.cell? ⟨v,2,none⟩=some (.slice aa s.acts.length ca):=by rw [cell_of_heap h2.right.pts_heap, ← ea];rfl
 have q3:w.cell? ⟨v,3,none⟩=some (.int .i64 s.floor):=by rw [cell_of_heap h2.right.pts_heap];rfl
 clear h2 h1 hF ok ea;generalize s.floor=fl at*;generalize s.acts.length=al at*;go_enter Tryz.func26,Tryz.ntmps26
 go_wp2;go_region
 go_wp2;go_ret;exact⟨rfl,(Only.refl w).drew⟩
theorem store1_ok(EB VB MB IB:Nat)(u:FrameMode)(w:World)(h:w.cell? ⟨EB,0,none⟩=some (.int .i64 0)):
 CallsD Tryz.prog 69 #[.pointer (some ⟨EB,0,none⟩),.pointer (some ⟨VB,0,none⟩),.pointer (some ⟨MB,0,none⟩),.pointer (some ⟨IB,0,none⟩)] u w fun e u' w'=>u'=u∧(e= .returned (.tuple #[])∧w'=w):=by
 go_enter_d Tryz.func69,Tryz.ntmps69
 go_wp2;first | refine bodyPost_ret (results_none rfl _ _ _) rfl ?_ | go_end0
 exact⟨rfl,rfl⟩
theorem bytes_sub {h:Hp}{b off c:Nat}{V:List Int}(hV:Bytes h (.slice (some ⟨b,off,none⟩) V.length c) V){lo hi:Nat}(h1:lo≤hi)(h2:hi≤V.length):
 RowIn h 1 (.slice (some ⟨b,off+lo,none⟩) (hi-lo) (c-lo)) (hi-lo) (((V.drop lo).take (hi-lo)).map (Value.int .u8)):=by
 obtain⟨_,a,c',e,e1,e2,e3⟩:=hV;simp only [Value.slice.injEq,true_and] at e;obtain⟨rfl,rfl⟩:=e;refine⟨by simp;omega,_,_,rfl,by omega,by omega,fun h0=>⟨b,off+lo,rfl,fun i hi'=> ?_⟩⟩;obtain⟨b',off',e4,e5⟩:=e3 (by omega);simp only [Option.some.injEq,Addr.mk.injEq,and_true] at e4;obtain⟨rfl,rfl⟩:=e4;have:=e5 (lo+i) (by omega)
 rw [Nat.add_assoc,this];simp only [List.getElem?_map];rw [List.getElem?_take_of_lt (by omega),List.getElem?_drop]
theorem chain_next {s:VaultS}{V:List Int}{k j:Nat}{c:Int}{ns:List Int}(h:ChainAt s V k j c ns):c=0∨1≤c∧c≤65536:=by
 cases k with
 | zero=>exact .inl h.1
 | succ k=>obtain⟨_,_,_,h2,_⟩:=h;exact .inr h2
theorem load_errno {w:World}{b:Nat}{x:Int}{fz:Nat × Nat}(h:w.heap[b]? =some (.cells #[.int .i64 x] 25 fz)):(loadVar 25 ⟨b,0,none⟩).run Tryz.prog w= .ok (.int .i64 x) w:=by
 have hc:w.cell? ⟨b,0,none⟩=some (.int .i64 x):=by rw [cell_of_heap h];rfl
 go_simp
theorem infoItemS:(Tryz.prog.info? 89).map (·.size)=some 4:=by kernel_rfl
theorem results_cell_cell {fn:Func}{p u:Tmp}{ty tu:TypeId}(h:fn.results= #[.cell p ty,.cell u tu])(tmps:Array Value)(w:World)(g:Nat)(x:Value)
 (hp:tmps.getD p undef= .pointer (some ⟨g,0,none⟩)) (hr:(loadVar ty ⟨g,0,none⟩).run Tryz.prog w= .ok x w) (g2:Nat) (y:Value) (hu:tmps.getD u undef= .pointer (some ⟨g2,0,none⟩)) (hr2:(loadVar tu ⟨g2,0,none⟩).run Tryz.prog w= .ok y w):
 (results fn tmps).run Tryz.prog w= .ok (.tuple #[x,y]) w:=by
 have hp':tmps[p]?.getD undef= .pointer (some ⟨g,0,none⟩):=by simpa using hp
 have hu':tmps[u]?.getD undef= .pointer (some ⟨g2,0,none⟩):=by simpa using hu
 simp [results,h,hp',hu',asAddr,Sem.run_bind,Result.andThen,hr,hr2]
end Go.Proofs.YtkfjilnmnbeokaaGreat.N4
namespace Go.Proofs.YtkfjilnmnbeokaaGreat.P4
open ChangeShapes WideShapes ChangeAt RowKit Sl Cop Go.Shelf D2 D3 J3 V3 G2 J2 X3 Y3 E4 G4 L4 M4
attribute [local go_sem] Oper.semAt_some
def encW(x:Int × WasX):Array Value:= #[.int .i64 x.1,.agg x.2.cells.toArray]
def backs(ws:List WasX):List (Int × WasX):=(ws.zipIdx.map fun x=>((x.2:Int),x.1)).reverse
theorem backs_len(ws:List WasX):(backs ws).length=ws.length:=by simp [backs]
theorem backs_at(ws:List WasX)(k:Nat)(hk:k<ws.length):(backs ws)[k]'(by rw [backs_len];exact hk)=(((ws.length-1-k:Nat):Int),ws[ws.length-1-k]'(by omega)):=by
 simp [backs]
theorem was_cells_at(ws:List WasX)(k j:Nat)(hk:k<ws.length)(hj:j<7):(ws.flatMap WasX.cells)[k*7+j]? =ws[k].cells[j]? :=by
 induction ws generalizing k with
 | nil=>simp at hk
 | cons x ws ih=>
   have hx:x.cells.length=7:=rfl;cases k with
   | zero=>simp only [List.flatMap_cons,Nat.zero_mul,Nat.zero_add,List.getElem_cons_zero];rw [List.getElem?_append_left (by omega)]
   | succ k=>
     simp only [List.flatMap_cons,List.getElem_cons_succ];rw [List.getElem?_append_right (by omega),hx,show (k+1)*7+j-7=k*7+j by omega];exact ih k (by simpa using hk)
def BackOwn(sb:Nat)(wv:Value)(h:Hp):Pr:=(Pr.pts sb (.cells #[wv] 124)).star (Pr.own h)
theorem backward1(sb:Nat)(wv:Value)(h:Hp)(ws:List WasX)(hrow:RowIn h 7 wv ws.length (ws.flatMap WasX.cells))(hl:ws.length≤65536):
 IterSl Tryz.prog 143 #[.pointer (some ⟨sb,0,none⟩)] encW (backs ws) (BackOwn sb wv h):=by
 intro l J Jx W hY h0;refine(callsIn_wide (n:=3)).1 ?_;refine callsIn_of_wp Tryz.func143 rfl trivial ?_ rfl;simp only [Tryz.ntmps143,List.size_toArray,List.length_cons,List.length_nil,Nat.reduceAdd,Nat.reduceSub,Array.replicate_succ,Array.replicate_zero,List.push_toArray,List.append_toArray,List.nil_append,List.cons_append];obtain⟨_,aw,cw,rfl,_,_,hc⟩:=hrow
 have facts:∀(A:Pr) (wr:World),Sat (A.star (BackOwn sb (.slice aw ws.length cw) h)) wr→wr.cell? ⟨sb,0,none⟩=some (.slice aw ws.length cw)∧sb<wr.heap.size∧h.le wr:=by
  intro A wr hs;unfold BackOwn at hs;have h1:Sat ((Pr.pts sb (.cells #[.slice aw ws.length cw] 124)).star ((Pr.own h).star A)) wr:=hs.perm (by ac_rfl);exact⟨by rw [cell_of_heap h1.pts_heap];rfl,h1.lt,h1.right.own⟩
 have F0:=facts _ _ h0;obtain⟨q1,z1,_⟩:=F0;have HF:=hQ facts;have HY:=hQ hY;have H0:=hQ h0;have HC:=hQ hc;clear facts hY h0 hc;gi_wp2
 gi_loopw [3] (fun i wr=> ∃r:Nat,r≤ws.length∧i= .int .i64 ((r:Int)-1)∧Stays W wr∧Sat ((J ((backs ws).take (ws.length-r))).star (BackOwn sb (.slice aw ws.length cw) h)) wr) (fun i _=>(intOf i+1).toNat)
 case atStart=>exact⟨ws.length,Nat.le_refl _,rfl,Stays.refl _,by rw [Nat.sub_self];exact H0.out⟩
 case round=>
  obtain⟨r,hr,rfl,hR,hs⟩:=hrel;cases r with
  | zero=>
    gi_wp2
    go_end0
    refine⟨⟨_,rfl⟩,hR,.inl ⟨_,rfl,?_⟩⟩;rw [Nat.sub_zero,List.take_of_length_le (by rw [backs_len];exact Nat.le_refl _)] at hs;exact hs
  | succ r=>
    obtain⟨q1,z1,hle⟩:=HF.out _ _ hs;obtain⟨b,off,e1,hcell⟩:=HC.out (by omega);subst e1;have hlt:r<ws.length:=by omega
    have cells:∀j,j<7→wr.cell? ⟨b,off+r*7+j,none⟩=ws[r].cells[j]? :=fun j hj=>by
     have h1:=hcell (r*7+j) (by omega);rw [was_cells_at ws r j hlt hj] at h1;have h2:∃u,ws[r].cells[j]? =some u:=⟨ws[r].cells[j]'(by show j<7;exact hj),List.getElem?_eq_getElem _⟩;obtain⟨u,hu⟩:=h2;rw [hu] at h1 ⊢;rw [Nat.add_assoc];exact Hp.cell_le hle h1
    have hat:=backs_at ws (ws.length-(r+1)) (by omega);have hidx:ws.length-1-(ws.length-(r+1))=r:=by omega
    simp only [hidx] at hat
    have hcat:(backs ws).take (ws.length-r)=(backs ws).take (ws.length-(r+1))++ [((r:Int),ws[r])]:=by
     rw [show ws.length-r=ws.length-(r+1)+1 by omega,List.take_succ_eq_append_getElem (by rw [backs_len];omega),hat]
    have hpre:(backs ws).take (ws.length-(r+1))++ [((r:Int),ws[r])]<+:backs ws:=by
     rw [← hcat];exact List.take_prefix _ _
    have HCAT:=hQ hcat;have HP:=hQ hpre;have HS:=hQ hs;clear hat hidx hcat hpre hs hcell;generalize ws[r]=X at*;obtain⟨no,pk,pl,vi,vd,nx,th⟩:=X;have c0:wr.cell? ⟨b,off+r*7,none⟩=some (.int .i64 no):=cells 0 (by omega);have c1:wr.cell? ⟨b,off+r*7+1,none⟩=some (.int .i64 pk):=cells 1 (by omega);have c2:wr.cell? ⟨b,off+r*7+2,none⟩=some (.int .i64 pl):=cells 2 (by omega)
    have c3:wr.cell? ⟨b,off+r*7+3,none⟩=some vi:=cells 3 (by omega);have c4:wr.cell? ⟨b,off+r*7+4,none⟩=some vd:=cells 4 (by omega);have c5:wr.cell? ⟨b,off+r*7+5,none⟩=some (.int .i64 nx):=cells 5 (by omega);have c6:wr.cell? ⟨b,off+r*7+6,none⟩=some (.bool th):=cells 6 (by omega);clear cells;rw [show ((r+1:Nat):Int)-1=(r:Int) by omega];gi_wp2
    refine at_yield (HY.out Pr.emp ((backs ws).take (ws.length-(r+1))) ((r:Int),⟨no,pk,pl,vi,vd,nx,th⟩) _ HP.out (HS.out.perm (Pr.star_emp _).symm)) ?_;rintro e w' ⟨hR',(⟨rfl,hs'⟩ | ⟨rfl,hs'⟩)⟩<;>rw [Pr.star_emp] at hs'
    · refine⟨_,rfl,?_⟩
      rw [← HCAT.out] at hs';have HS':=hQ hs';clear hs';gi_wp2
      go_roundw
      case rel=>exact⟨r,by omega,rfl,hR.trans hR',HS'.out⟩
      case measure=>simp [intOf]
    · refine⟨_,rfl,?_⟩
      have HS':=hQ hs';clear hs';gi_wp2
      refine bodyPost_ret (results_none rfl _ _ _) rfl ?_;exact⟨⟨_,rfl⟩,hR.trans hR',.inr ⟨_,HP.out,HS'.out⟩⟩
end Go.Proofs.YtkfjilnmnbeokaaGreat.P4
namespace Go.Cop
def heldL(cs:List Int):List Int:=((List.range cs.length).filter fun i=>decide (cs.getD i 0≠0)).map fun i:Nat=>(i:Int)+1
end Go.Cop
namespace Go.Proofs.YtkfjilnmnbeokaaGreat.Q4
open ChangeShapes WideShapes ChangeAt RowKit Sl Cop G2 J2 X3 M3 V3 Z3 Y3
def numCells(x:(Value × Value) × NumV):List Value:= [.int .i64 x.2.no,.int .i64 x.2.page.kind,.int .i64 x.2.page.level,x.1.1,x.1.2,.int .i64 x.2.page.next]
def NumsIn(h:Hp)(v:Value)(l:List NumV):Prop:=
 ∃xs:List (Value × Value),xs.length=l.length∧RowIn h 6 v l.length ((xs.zip l).flatMap numCells)∧
  ∀i (hx:i<xs.length) (hl:i<l.length),ItemsIn h xs[i].1 l[i].page.items∧Bytes h xs[i].2 l[i].page.data
end Go.Proofs.YtkfjilnmnbeokaaGreat.Q4
