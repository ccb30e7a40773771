/- The vault: do, whatever the act answers; the conditions stand as hypotheses. -/
import Derived.Test.YtkfjilnmnbeokaaGreatPutInPlaceM19
import Derived.Test.YtkfjilnmnbeokaaGreatPutInPlaceM23
import Derived.Test.YtkfjilnmnbeokaaGreatPutInPlaceM20
import Derived.Test.YtkfjilnmnbeokaaGreatPutInPlaceM08
import Derived.Test.YtkfjilnmnbeokaaGreatPutInPlaceM03
import Derived.Test.YtkfjilnmnbeokaaGreatPutInPlaceM05
import Derived.Test.YtkfjilnmnbeokaaGreatPutInPlaceM01
set_option maxRecDepth 100000
set_option maxHeartbeats 16000000
namespace Go.Cop
structure Mid(s t:VaultS)(was:List (Int × Option PageV)):Prop where
 vf:t.floor=s.floor
 va:t.acts=s.acts
 pf:t.pool.floor=s.pool.floor
 refs:t.pool.refs=s.pool.refs
 last:t.pool.last=s.pool.last
 pl:s.pool.acts.length≤t.pool.acts.length
 take:t.pool.acts.take s.pool.acts.length=s.pool.acts
 trail:Trail t.pool s.pool.counts (t.pool.acts.drop s.pool.acts.length) t.pool.counts
 back:restore t.on was=s.on
 nos:∀y∈was,1≤y.1∧y.1≤65536
 len:was.length≤65536
theorem Mid.pool_back {s t:VaultS}{was:List (Int × Option PageV)}(h:Mid s t was):({ t.pool with counts:=s.pool.counts,acts:=t.pool.acts.take s.pool.acts.length }:PoolS)=s.pool:=by
 have h1:=h.refs;have h2:=h.last;have h3:=h.pf;rw [h.take];obtain⟨⟨r,c,l,a,f⟩,_,_,_⟩:=s;obtain⟨⟨r',c',l',a',f'⟩,_,_,_⟩:=t;dsimp only at h1 h2 h3 ⊢;subst h1 h2 h3;rfl
theorem Mid.refl(s:VaultS):Mid s s []:=
 ⟨rfl,rfl,rfl,rfl,rfl,Nat.le_refl _,List.take_length,by rw [List.drop_length];rfl,rfl,fun y hy=>(by cases hy),by simp⟩
theorem trail_ext {s s':PoolS}:∀ {l:List (Int × Int)} {c0 c1:List Int},Trail s c0 l c1→Trail s' c0 l c1
 | [],_,_,h=>h
 | _ :: _,_,_,⟨h1,h2,h3,h4,h5⟩=>⟨h1,h2,h3,h4,trail_ext h5⟩
theorem Mid.did {s t:VaultS}{was:List (Int × Option PageV)}(h:Mid s t was){n b:Int}(h1:t.pool.there n)(h2:0≤t.pool.count n)(h3:t.pool.count n≤65536)(h4: -65536≤b∧b≤65536):Mid s { t with pool:=t.pool.did n b } was:=by
 have e:(t.pool.did n b).acts=t.pool.acts++ [(n,b)]:=rfl;refine⟨h.vf,h.va,h.pf,h.refs,h.last,?_,?_,?_,h.back,h.nos,h.len⟩
 · show _≤(t.pool.acts++ [(n,b)]).length
   rw [List.length_append];have:=h.pl
   omega
 · show (t.pool.acts++ [(n,b)]).take _=_
   rw [List.take_append_of_le_length h.pl];exact h.take
 · show Trail _ _ ((t.pool.acts++ [(n,b)]).drop _) _
   rw [List.drop_append_of_le_length h.pl];have:=trail_then (a:=(n,b)) h.trail h1 h2 h3 h4
   exact trail_ext this
theorem Mid.set {s t:VaultS}{was:List (Int × Option PageV)}(h:Mid s t was){n:Int}(g:Option PageV)(hn:1≤n∧n≤65536)(hl:was.length<65536):Mid s { t with on:=fun m=>if m=n then g else t.on m } (was++ [(n,t.on n)]):=by
 refine⟨h.vf,h.va,h.pf,h.refs,h.last,h.pl,h.take,h.trail,?_,?_,?_⟩
 · rw [restore_snoc]
   have e:(fun m=>if m=(n,t.on n).1 then(n,t.on n).2 else(fun m=>if m=n then g else t.on m) m)=t.on:=by
    funext m
    dsimp only;by_cases hm:m=n
    · rw [if_pos hm,hm]
    · rw [if_neg hm,if_neg hm]
   show restore (fun m=>if m=(n,t.on n).1 then(n,t.on n).2 else(fun m=>if m=n then g else t.on m) m) was=_
   rw [e];exact h.back
 · intro y hy
   rcases List.mem_append.1 hy with hy | hy
   · exact h.nos y hy
   · rw [List.mem_singleton] at hy
     subst hy;exact hn
 · rw [List.length_append]
   simp only [List.length_singleton];omega
end Go.Cop
namespace Go.Proofs.YtkfjilnmnbeokaaGreat.B7
open ChangeShapes WideShapes ChangeAt RowKit Sl Cop D2 D3 J3 V3 G2 J2 X3 Y3 E4 G4 L4 M4 P4 S4 X4
theorem do_any {α:Type}(v:Nat)(s:VaultS)(g:Nat)(caps:Array Value)(E:α→Int)(R:α→Prop)(S:α→VaultS)(W:α→List (Int × Option PageV))(F':α→Pr)(F:Pr)(w:World)(hF:Sat ((VaultA v s).star F) w)
 (hm:s.floor+s.acts.length<1099511627776) (eg:∀args w,(callFunc g args).run Tryz.prog w= .ok (.enter g args) w) (hR:∀z,R z→Mid s (S z) (W z))
 (hc:∀ab w1,Sat ((VMA v s ab s.pool.mark []).star F) w1→Calls Tryz.prog g (#[.pointer (some ⟨ab,0,none⟩)]++caps) w1 fun e w'=>
   Stays w1 w'∧∃z,R z∧e= .returned (.int .i64 (E z))∧Sat ((VMA v (S z) ab s.pool.mark (W z)).star (F' z)) w'):
 Calls Tryz.prog 95 #[.pointer (some ⟨v,0,none⟩),.func (.func g) #[] caps] w fun e w'=>
  Stays w w'∧∃z,R z∧e= .returned (.int .i64 (E z))∧Sat ((if E z=0 then VaultA v ((S z).acted ⟨s.pool.mark,W z⟩) else VaultA v s).star (F' z)) w':=by
 obtain⟨x,ok,hF⟩:=vaultA_iff.1 hF
 have h1:Sat ((PoolA x.p s.pool).star ((Pr.pts v (.cells #[.pointer (some ⟨x.p,0,none⟩),.map (some x.mb),x.av,.int .i64 s.floor] 70)).star
  ((((MapA Tryz.prog 3 x.mb x.f).star ((Row 126 2 x.av s.acts.length (actCells x.axs)).star (Pr.own x.h)))).star F))) w:=hF.perm (by unfold VaultAt;ac_rfl)
 have qv:w.cell? ⟨v,0,none⟩=some (.pointer (some ⟨x.p,0,none⟩)):=by rw [cell_of_heap h1.right.pts_heap];rfl
 have C:=hQ (mark_A x.p s.pool _ w h1);have HF:=hQ hF;have OK:=hQ ok;have hfl:=ok.f0;clear h1 hF ok;go_enter Tryz.func95,Tryz.ntmps95
 go_wp2_with fail
 refine C.out.mono ?_;rintro e w1 ⟨rfl,hst,hh⟩;have h2:=(HF.out.ext (w':=w1) (fun _ _=>by rw [hh])).alloc (.cells #[.int .i64 s.pool.mark,.slice none 0 0] 126)
 have h3:Sat ((VMA v s w1.heap.size s.pool.mark []).star F) _:=vma_iff.2 ⟨x,.slice none 0 0,[],OK.out,⟨rfl,fun i h=>absurd h (by simp)⟩,h2.perm (by
  unfold VMAt
  rw [show (Row 164 7 (.slice none 0 0) ([]:List WasX).length (([]:List WasX).flatMap WasX.cells))=Pr.emp from Row.nil _ _,Pr.star_emp]
  ac_rfl)⟩
 have D:=hQ (hc _ _ h3);have HR:=hQ hR;have HST:=hQ (hst.alloc (.cells #[.int .i64 s.pool.mark,.slice none 0 0] 126));clear h2 h3 hst hh HF C qv hc OK hR;go_wp2_with fail
 refine(D.out).mono ?_;rintro e w2 ⟨hst2,z,hz,rfl,h4⟩;have mid:=HR.out z hz;by_cases hE:E z=0
 · have HEZ:=hQ hE
   rw [hE];clear hE;obtain⟨x2,wv,ws,ok2,hws,h5⟩:=vma_iff.1 h4;obtain⟨eA,eF⟩:(S z).acts=s.acts∧(S z).floor=s.floor:=⟨mid.va,mid.vf⟩
   have h6:Sat ((Row 126 2 x2.av (S z).acts.length (actCells x2.axs)).star ((Pr.pts v (.cells #[.pointer (some ⟨x2.p,0,none⟩),.map (some x2.mb),x2.av,.int .i64 (S z).floor] 70)).star ((Pr.pts w1.heap.size (.cells #[.int .i64 s.pool.mark,wv] 126)).star ((Row 164 7 wv ws.length (ws.flatMap WasX.cells)).star (((PoolA x2.p (S z).pool).star ((MapA Tryz.prog 3 x2.mb x2.f).star (Pr.own x2.h))).star (F' z)))))) w2:=h5.perm (by unfold VMAt VaultAt;ac_rfl)
   rw [eA,eF] at h6;obtain⟨aw,cw,ew,_,_⟩:=Row.read h6.right.right.right;obtain⟨aa,ca,ea,_,_⟩:=Row.read h6;have qa:w2.cell? ⟨v,2,none⟩=some x2.av:=by rw [cell_of_heap h6.right.pts_heap];rfl
   have q0:w2.cell? ⟨w1.heap.size,0,none⟩=some (.int .i64 s.pool.mark):=by rw [cell_of_heap h6.right.right.pts_heap];rfl
   have q1:w2.cell? ⟨w1.heap.size,1,none⟩=some wv:=by rw [cell_of_heap h6.right.right.pts_heap];rfl
   have z0:=h6.right.lt;have z1:=h6.right.right.lt;rw [ea] at qa h6;have H6:=hQ h6;have HO:=hQ (And.intro ok2 hws);have HST2:=hQ (HST.out.trans hst2);have HEA:=hQ (And.intro eA eF);have HRZ:=hQ hz;have HEW:=hQ ew;have HEV:=hQ ea;have e1:wv= .slice aw ws.length cw:=ew;clear h4 h5 h6 D hst2 HST ok2 hws eA eF hz mid HR ew ea;subst e1
   have hnew:=hQ (new_cells w2 [.int .i64 s.pool.mark,.slice aw ws.length cw] 126 _ rfl);have H7:=hQ (H6.out.alloc (.cells #[.int .i64 s.pool.mark,.slice aw ws.length cw] 126)).right;clear H6;go_wp2;refine wS 31 [0,1,2,3,4,5] [(6,[],[0,1,2,3,4]),(7,[8,9],[0,1,2,3]),(10,[],[8])] ?_;iterate 6 (refine wpQ_step rfl rfl (fun K hK=> ?_);go_simp;refine hK _ ?_;clear hK K)
   refine wpQ_nil ?_;refine wpRest_act rfl ?_;go_wp2;refine onN_mk (wpQ_nil ⟨?_,?_⟩)
   · refine chk_cons ?_ (chk_cons ?_ (chk_cons ?_ (chk_cons ?_ (chk_cons ?_ chk_nil))))<;>(refine yieldF_of rfl rfl rfl rfl ?_;go_simp;try omega)
   refine wpRest_act rfl ?_;obtain⟨i0,hi,hz0,hz1,hz2⟩:=info_parts infoVAct;refine wpList_append_sl rfl _ _ _ rfl 126 i0 (.agg #[.int .i64 0,.slice none 0 0]) 2 32 Tryz.underlying68 hi hz0 hz1 hz2 rfl _ _ _ rfl H7.out ⟨w2.heap.size,0,none⟩ 1 1 _ rfl rfl hnew.out (by simp [Value.oneCell']) (by simp only [maxLen];omega) (by omega) ?_;intro v' w3 hsat hgr _;obtain⟨a2,c2,hv2,_,_⟩:=Row.read hsat
   subst hv2;have hp:=hsat.right;have y2:=frozen_of_heap hp.pts_heap 2;have y2c:w3.cell? ⟨v,2,none⟩=some (.slice aa s.acts.length ca):=by rw [cell_of_heap hp.pts_heap];rfl
   have yp:=hp.lt;have HSAT:=hQ hsat;have HG:=hQ (((HST2.out.alloc (.cells #[.int .i64 s.pool.mark,.slice aw ws.length cw] 126)).drew).of_grown hgr);clear hsat hp hgr q0 q1 qa z0 z1 H7 hnew;go_wp2;refine onN_mk ?_;iterate 2 (refine wpQ_step rfl rfl (fun K hK=> ?_);go_simp;refine hK _ ?_;clear hK K)
   refine wpQ_nil ⟨?_,?_⟩
   · refine chk_cons ?_ (chk_cons ?_ (chk_cons ?_ (chk_cons ?_ chk_nil)))<;>(refine yieldF_of rfl rfl rfl rfl ?_;go_simp;try omega)
   refine wpRest_act rfl ?_;go_wp2;refine onN_mk (wpQ_nil ⟨?_,wpRest_nil ?_⟩)
   · refine chk_cons ?_ chk_nil<;>(refine yieldF_of rfl rfl rfl rfl ?_;go_simp;try omega)
   go_wp2;go_ret;refine⟨HG.out.setCell _ _,z,HRZ.out,by rw [HEZ.out];rfl,?_⟩;rw [if_pos HEZ.out]
   have h8:Sat ((Pr.pts v (.cells #[.pointer (some ⟨x2.p,0,none⟩),.map (some x2.mb),.slice a2 (s.acts.length+1) c2,.int .i64 s.floor] 70)).star ((Row 126 2 (.slice a2 (s.acts.length+1) c2) (s.acts.length+1) (actCells x2.axs++ [.int .i64 s.pool.mark,.slice aw ws.length cw])).star ((Pr.pts w1.heap.size (.cells #[.int .i64 s.pool.mark,.slice aw ws.length cw] 126)).star ((Row 164 7 (.slice aw ws.length cw) ws.length (ws.flatMap WasX.cells)).star (((PoolA x2.p (S z).pool).star ((MapA Tryz.prog 3 x2.mb x2.f).star (Pr.own x2.h))).star (F' z)))))) _:=(HSAT.out.perm (Pr.left_comm _ _ _)).setCell (i:=2) (.slice a2 (s.acts.length+1) c2)
   have h9:Sat ((Row 164 7 (.slice aw ws.length cw) ws.length (ws.flatMap WasX.cells)).star ((Pr.own x2.h).star ((Pr.pts v (.cells #[.pointer (some ⟨x2.p,0,none⟩),.map (some x2.mb),.slice a2 (s.acts.length+1) c2,.int .i64 s.floor] 70)).star ((Row 126 2 (.slice a2 (s.acts.length+1) c2) (s.acts.length+1) (actCells x2.axs++ [.int .i64 s.pool.mark,.slice aw ws.length cw])).star ((Pr.pts w1.heap.size (.cells #[.int .i64 s.pool.mark,.slice aw ws.length cw] 126)).star ((PoolA x2.p (S z).pool).star ((MapA Tryz.prog 3 x2.mb x2.f).star (F' z)))))))) _:=h8.perm (by ac_rfl)
   obtain⟨h2,hrow,h10⟩:=toArena (Q:=fun y=>RowIn y 7 (.slice aw ws.length cw) ws.length (ws.flatMap WasX.cells)) h9 (fun y hy=>Row.rowIn hy);obtain⟨hdis,h11⟩:=Sat.own_join (h10.perm (Pr.left_comm _ _ _))
   have h12:Sat ((Pr.pts w1.heap.size (.cells #[.int .i64 s.pool.mark,.slice aw ws.length cw] 126)).star ((Pr.own (x2.h.un h2)).star (((Pr.pts v (.cells #[.pointer (some ⟨x2.p,0,none⟩),.map (some x2.mb),.slice a2 (s.acts.length+1) c2,.int .i64 s.floor] 70)).star ((Row 126 2 (.slice a2 (s.acts.length+1) c2) (s.acts.length+1) (actCells x2.axs++ [.int .i64 s.pool.mark,.slice aw ws.length cw])).star ((PoolA x2.p (S z).pool).star (MapA Tryz.prog 3 x2.mb x2.f)))).star (F' z)))) _:=h11.perm (by ac_rfl)
   obtain⟨ok2,hws⟩:=HO.out;obtain⟨eA,eF⟩:=HEA.out;refine vaultA_iff.2 ⟨{ x2 with av:= .slice a2 (s.acts.length+1) c2,axs:=x2.axs++ [(s.pool.mark,.slice aw ws.length cw)],h:=x2.h.un h2 },⟨ok2.on.sub (Hp.sub_un_left _ _),?_,?_,?_⟩,?_⟩
   · refine acts_snoc (ok2.acts.sub (Hp.sub_un_left _ _)) ⟨rfl,ws,?_,hws.sub (Hp.sub_un_left _ _)⟩
     have hl:(W z).length=ws.length:=hws.1.symm;dsimp only;rw [hl];exact hrow.sub (Hp.sub_un_right hdis)
   · exact ok2.f0
   · show (S z).floor+(((S z).acts++ [_]).length:Nat)≤ _
     rw [eA,eF,List.length_append];simp only [List.length_cons,List.length_nil];omega
   · refine h12.right.perm ?_
     unfold VaultAt
     have e1:((S z).acted ⟨s.pool.mark,W z⟩).acts.length=s.acts.length+1:=by
      show ((S z).acts++ [_]).length=_
      rw [eA,List.length_append];rfl
     have e2:((S z).acted ⟨s.pool.mark,W z⟩).floor=s.floor:=eF
     have e3:actCells (x2.axs++ [(s.pool.mark,.slice aw ws.length cw)])=actCells x2.axs++ [.int .i64 s.pool.mark,.slice aw ws.length cw]:=by
      unfold actCells;rw [List.flatMap_append];rfl
     dsimp only;rw [e1,e2,e3];show _=(Pr.star _ ((PoolA x2.p (S z).pool).star _)).star _
     ac_rfl
 · obtain⟨x2,wv,ws,ok2,hws,h5⟩:=vma_iff.1 h4
   have h6:Sat ((Row 164 7 wv ws.length (ws.flatMap WasX.cells)).star ((Pr.own x2.h).star ((Pr.pts w1.heap.size (.cells #[.int .i64 s.pool.mark,wv] 126)).star (((Pr.pts v (.cells #[.pointer (some ⟨x2.p,0,none⟩),.map (some x2.mb),x2.av,.int .i64 (S z).floor] 70)).star ((PoolA x2.p (S z).pool).star ((MapA Tryz.prog 3 x2.mb x2.f).star (Row 126 2 x2.av (S z).acts.length (actCells x2.axs))))).star (F' z))))) w2:=h5.perm (by unfold VMAt VaultAt;ac_rfl)
   obtain⟨aw,cw,ew,_,_⟩:=Row.read h6;subst ew;have q0:w2.cell? ⟨w1.heap.size,0,none⟩=some (.int .i64 s.pool.mark):=by rw [cell_of_heap h6.right.right.pts_heap];rfl
   have q1:w2.cell? ⟨w1.heap.size,1,none⟩=some (.slice aw ws.length cw):=by rw [cell_of_heap h6.right.right.pts_heap];rfl
   obtain⟨h2,hrow,h7⟩:=toArena (Q:=fun y=>RowIn y 7 (.slice aw ws.length cw) ws.length (ws.flatMap WasX.cells)) h6 (fun y hy=>Row.rowIn hy);obtain⟨hdis,h8⟩:=Sat.own_join (h7.perm (Pr.left_comm _ _ _))
   have h9:Sat ((VaultAt v (S z) { x2 with h:=x2.h.un h2 }).star ((Pr.pts w1.heap.size (.cells #[.int .i64 s.pool.mark,.slice aw ws.length cw] 126)).star (F' z))) w2:=h8.perm (by unfold VaultAt;dsimp only;ac_rfl)
   have hB:=back_gen v (S z) { x2 with h:=x2.h.un h2 } s.pool.acts.length s.pool.counts (.slice aw ws.length cw) ws (hrow.sub (Hp.sub_un_right hdis)) (by rw [hws.1];exact mid.len) (fun X hX=>by
    obtain⟨i,hi,rfl⟩:=List.getElem_of_mem hX
    have hi2:i<(W z).length:=by rw [← hws.1];exact hi
    obtain⟨r1,r2,r3,_⟩:=hws.2 i hi hi2
    exact⟨by rw [r1];exact mid.nos _ (List.getElem_mem hi2),r2,r3⟩) _ w2 h9 mid.pl mid.trail
   rw [mid.pf] at hB;have hmk:s.pool.mark=s.pool.floor+(s.pool.acts.length:Nat):=rfl;rw [← hmk] at hB;have hpool:({ (S z).pool with counts:=s.pool.counts,acts:=(S z).pool.acts.take s.pool.acts.length }:PoolS)=s.pool:=mid.pool_back
   have hback:OnIn (x2.h.un h2) (putB x2.f (backs ws)) s.on:=by
    rw [← mid.back];exact onIn_back (hws.sub (Hp.sub_un_left _ _)) (ok2.on.sub (Hp.sub_un_left _ _))
   have hvs:({ S z with pool:=s.pool }:VaultS).acts=s.acts:=mid.va;have HB:=hQ hB;have HOK:=hQ ok2;have HFIN:=hQ (And.intro hback hpool);have HMID:=hQ mid;have HST2:=hQ (HST.out.trans hst2);have hEb:(E z != 0)=true:=by rw [bne_iff_ne];exact hE
   have HE:=hQ hE;have HZ:=hQ hz;clear h4 h5 h6 h7 h8 h9 hrow hdis hB hpool hback ok2 hws mid hst2 HST D HR hE hz hvs hmk;go_wp2_with fail
   refine HB.out.mono ?_;rintro e w3 ⟨rfl,h10,hst3⟩;have H10:=hQ h10;clear h10 HB q0 q1;go_wp2;go_ret;refine⟨HST2.out.trans hst3,z,HZ.out,rfl,?_⟩;rw [if_neg HE.out]
   have h11:=H10.out.perm (B:=(Pr.pts w1.heap.size (.cells #[.int .i64 s.pool.mark,.slice aw ws.length cw] 126)).star ((VaultAt v { S z with pool:= { (S z).pool with counts:=s.pool.counts,acts:=(S z).pool.acts.take s.pool.acts.length } } { x2 with h:=x2.h.un h2,f:=putB x2.f (backs ws) }).star (F' z))) (by ac_rfl);rw [HFIN.out.2] at h11
   refine vaultA_iff.2 ⟨{ x2 with h:=x2.h.un h2,f:=putB x2.f (backs ws) },⟨HFIN.out.1,?_,?_,?_⟩,h11.right.perm ?_⟩
   · rw [← HMID.out.va];exact HOK.out.acts.sub (Hp.sub_un_left _ _)
   · rw [← HMID.out.vf];exact HOK.out.f0
   · rw [← HMID.out.vf, ← HMID.out.va];exact HOK.out.fb
   · unfold VaultAt
     dsimp only;rw [HMID.out.va,HMID.out.vf]
end Go.Proofs.YtkfjilnmnbeokaaGreat.B7
namespace Go.Cop
theorem count_cnt(s:PoolS)(n:Int):s.count n=cntL s.counts n:=by
 unfold PoolS.count cntL PoolS.there;rfl
theorem did_counts(s:PoolS)(n b:Int):(s.did n b).counts=addC s.counts n b:=by
 show s.counts.set (n.toNat-1) (s.count n+b)=_
 rw [count_cnt];rfl
structure DInv(s t:VaultS)(was:List (Int × Option PageV)):Prop where
 mid:Mid s t was
 on:t.on=fun m=>if t.pool.state m=1 then none else s.on m
 nd:(was.map Prod.fst).Nodup
 wz:∀y∈was,t.pool.there y.1∧t.pool.count y.1=0
 len:t.pool.counts.length=s.pool.counts.length
theorem DInv.refl {s:VaultS}(hb:Bare s):DInv s s []:=by
 refine⟨Mid.refl s,?_,List.nodup_nil,fun y hy=>(by cases hy),rfl⟩;funext m
 by_cases h:s.pool.state m=1
 · rw [if_pos h];exact hb m h
 · rw [if_neg h]
theorem DInv.wlen {s t:VaultS}{was:List (Int × Option PageV)}(h:DInv s t was){n:Int}(hn:t.pool.there n)(h0:t.pool.count n≠0):was.length<t.pool.counts.length:=by
 have h1:(n :: was.map Prod.fst).Nodup:=List.nodup_cons.2 ⟨fun hm=>by
  obtain⟨y,hy,rfl⟩:=List.mem_map.1 hm
  exact h0 (h.wz y hy).2,h.nd⟩
 have h2:=nodup_len t.pool.counts.length _ h1 (fun x hx=>by
  rcases List.mem_cons.1 hx with rfl | hx
  · exact hn
  · obtain⟨y,hy,rfl⟩:=List.mem_map.1 hx
    exact(h.wz y hy).1)
 simp only [List.length_cons,List.length_map] at h2;omega
theorem DInv.did {s t:VaultS}{was:List (Int × Option PageV)}(h:DInv s t was)(ok:PoolOk t.pool){n:Int}(h0:t.pool.count n≠0)(h1:(t.pool.did n (-1)).state n≠1):DInv s { t with pool:=t.pool.did n (-1) } was:=by
 have ht:=there_of_count h0;have hb:=count_bd ok n;refine⟨h.mid.did ht hb.1 hb.2 (by omega),?_,h.nd,fun y hy=> ?_,?_⟩
 · show t.on=_
   rw [h.on];funext m
   have hs:=did_state (b:= -1) (m:=m) ht;show (if t.pool.state m=1 then _ else _)=(if(t.pool.did n (-1)).state m=1 then _ else _)
   by_cases hm:m=n
   · subst hm
     have h2:t.pool.state m≠1:=fun e=>h0 (count_of_free ok e)
     rw [if_neg h2,if_neg h1]
   · rw [hs,if_neg hm]
 · have h2:=h.wz y hy
   have hc:=did_count (b:= -1) (m:=y.1) ht;refine⟨did_there.2 h2.1,?_⟩;show (t.pool.did n (-1)).count y.1=0
   rw [hc];by_cases hm:y.1=n
   · rw [hm] at h2;exact absurd h2.2 h0
   · rw [if_neg hm];exact h2.2
 · show (t.pool.counts.set _ _).length=_
   rw [List.length_set];exact h.len
theorem DInv.freed {s t:VaultS}{was:List (Int × Option PageV)}(h:DInv s t was)(ok:PoolOk t.pool){n:Int}(h0:t.pool.count n≠0)(h1:(t.pool.did n (-1)).count n=0)(h2:(t.pool.did n (-1)).state n=1):
 DInv s { t with pool:=t.pool.did n (-1),on:=fun m=>if m=n then none else t.on m } (was++ [(n,t.on n)]):=by
 have ht:=there_of_count h0;have hb:=count_bd ok n;have hw:=h.wlen ht h0;have hn2:=ok.n2;have hnb:1≤n∧n≤65536:=⟨ht.1,by have:=ht.2;omega⟩;have hmid:=(h.mid.did (n:=n) (b:= -1) ht hb.1 hb.2 (by omega)).set (n:=n) none hnb (by omega);refine⟨hmid,?_,?_,fun y hy=> ?_,?_⟩
 · funext m
   have hs:=did_state (b:= -1) (m:=m) ht;show (if m=n then none else t.on m)=(if(t.pool.did n (-1)).state m=1 then none else s.on m)
   by_cases hm:m=n
   · subst hm
     rw [if_pos rfl,if_pos h2]
   · rw [if_neg hm,hs,if_neg hm,h.on]
 · rw [List.map_append,List.map_cons,List.map_nil]
   refine List.nodup_append.2 ⟨h.nd,by simp,fun a ha b hb2=> ?_⟩;rw [List.mem_singleton] at hb2;subst hb2;obtain⟨y,hy,rfl⟩:=List.mem_map.1 ha;intro e;exact h0 (e ▸ (h.wz y hy).2)
 · have hc:=did_count (b:= -1) (m:=y.1) ht
   rcases List.mem_append.1 hy with hy | hy
   · have h3:=h.wz y hy
     refine⟨did_there.2 h3.1,?_⟩;show (t.pool.did n (-1)).count y.1=0
     rw [hc];by_cases hm:y.1=n
     · rw [hm] at h3;exact absurd h3.2 h0
     · rw [if_neg hm];exact h3.2
   · rw [List.mem_singleton] at hy
     subst hy;exact⟨did_there.2 ht,h1⟩
 · show (t.pool.counts.set _ _).length=_
   rw [List.length_set];exact h.len
def VaultS.get(s:VaultS)(n:Int):PageV:=(s.on n).getD ⟨0,0,[],[],0⟩
structure Far(s t:VaultS):Prop where
 acts:t.pool.floor+t.pool.acts.length+sumC t.pool.counts≤s.pool.floor+s.pool.acts.length+sumC s.pool.counts
 sum:sumC t.pool.counts≤sumC s.pool.counts
theorem Far.refl(s:VaultS):Far s s:=⟨Int.le_refl _,Nat.le_refl _⟩
theorem Far.trans {a b c:VaultS}(h:Far a b)(k:Far b c):Far a c:=⟨Int.le_trans k.acts h.acts,Nat.le_trans k.sum h.sum⟩
theorem Far.did {t:VaultS}(ok:PoolOk t.pool){n:Int}(h0:t.pool.count n≠0)(on:Int→Option PageV):Far t { t with pool:=t.pool.did n (-1),on:=on }∧sumC (t.pool.did n (-1)).counts<sumC t.pool.counts:=by
 have ht:=there_of_count h0;have hb:=count_bd ok n;have hs:=sum_addC (cs:=t.pool.counts) (n:=n) (b:= -1) ht (by rw [← count_cnt];exact hb.1) (by rw [← count_cnt];omega);rw [← did_counts] at hs;refine⟨⟨?_,?_⟩,by omega⟩
 · show t.pool.floor+((t.pool.acts++ [(n,(-1:Int))]).length:Nat)+(sumC (t.pool.did n (-1)).counts:Nat)≤ _
   rw [List.length_append];simp only [List.length_singleton];omega
 · show sumC (t.pool.did n (-1)).counts≤ _
   omega
end Go.Cop
namespace Go.Proofs.YtkfjilnmnbeokaaGreat.C7
open ChangeShapes WideShapes ChangeAt RowKit Sl Cop D2 D3 J3 V3 G2 J2 X3 Y3 E4 G4 Z3 D6 L5
theorem vma_pool {v:Nat}{s:VaultS}{ab:Nat}{mark:Int}{was:List (Int × Option PageV)}{F:Pr}{w:World}(h:Sat ((VMA v s ab mark was).star F) w):PoolOk s.pool:=by
 obtain⟨x,wv,ws,ok,hws,hF⟩:=vma_iff.1 h
 have h1:Sat ((PoolA x.p s.pool).star ((Pr.pts v (.cells #[.pointer (some ⟨x.p,0,none⟩),.map (some x.mb),x.av,.int .i64 s.floor] 70)).star
  ((((MapA Tryz.prog 3 x.mb x.f).star ((Row 126 2 x.av s.acts.length (actCells x.axs)).star (Pr.own x.h)))).star (((Pr.pts ab (.cells #[.int .i64 mark,wv] 126)).star (Row 164 7 wv ws.length (ws.flatMap WasX.cells))).star F)))) w:=hF.perm (by unfold VMAt VaultAt;ac_rfl)
 exact(poolA_rd h1).1
theorem free_no(v:Nat)(s:VaultS)(ab:Nat)(mark:Int)(was:List (Int × Option PageV))(n:Int)(hs:s.pool.state n≠1)(F:Pr)(w:World)(hF:Sat ((VMA v s ab mark was).star F) w):
 Calls Tryz.prog 141 #[.pointer (some ⟨v,0,none⟩),.pointer (some ⟨ab,0,none⟩),.int .i64 n] w fun e w'=>e= .returned (.tuple #[])∧w=w':=by
 obtain⟨x,wv,ws,ok,hws,hF⟩:=vma_iff.1 hF
 have h1:Sat ((PoolA x.p s.pool).star ((Pr.pts v (.cells #[.pointer (some ⟨x.p,0,none⟩),.map (some x.mb),x.av,.int .i64 s.floor] 70)).star
  ((((MapA Tryz.prog 3 x.mb x.f).star ((Row 126 2 x.av s.acts.length (actCells x.axs)).star (Pr.own x.h)))).star (((Pr.pts ab (.cells #[.int .i64 mark,wv] 126)).star (Row 164 7 wv ws.length (ws.flatMap WasX.cells))).star F)))) w:=hF.perm (by unfold VMAt VaultAt;ac_rfl)
 have qv:w.cell? ⟨v,0,none⟩=some (.pointer (some ⟨x.p,0,none⟩)):=by rw [cell_of_heap h1.right.pts_heap];rfl
 have HP:=hQ (pool_state x.p s.pool n _ w h1);have hb:(s.pool.state n == 1)=false:=beq_eq_false_iff_ne.2 hs;clear h1 hF hs;generalize s.pool.state n=sn at*;go_enter Tryz.func141,Tryz.ntmps141
 go_wp2_with fail
 refine HP.out.mono ?_;rintro e w1 ⟨rfl,rfl⟩;go_wp2;first | refine bodyPost_ret (results_none rfl _ _ _) rfl ?_ | go_end0
 exact⟨rfl,rfl⟩
theorem free_any(v:Nat)(s:VaultS)(ab:Nat)(mark:Int)(was:List (Int × Option PageV))(n:Int)(hn:1≤n∧n≤65536)(hl:was.length≤65536)(F:Pr)(w:World)(hF:Sat ((VMA v s ab mark was).star F) w):
 Calls Tryz.prog 141 #[.pointer (some ⟨v,0,none⟩),.pointer (some ⟨ab,0,none⟩),.int .i64 n] w fun e w'=>
  e= .returned (.tuple #[])∧Sat ((VMA v { s with on:=fun m=>if m=n∧s.pool.state n=1 then none else s.on m } ab mark (if s.pool.state n=1 then was++ [(n,s.on n)] else was)).star F) w'∧Stays w w':=by
 by_cases hs:s.pool.state n=1
 · refine(free_A v s ab mark was n hn hs hl F w hF).mono ?_
   rintro e w' ⟨h1,h2,h3⟩;refine⟨h1,?_,h3⟩;simp only [hs,and_true,if_true];exact h2
 · refine(free_no v s ab mark was n hs F w hF).mono ?_
   rintro e w' ⟨h1,rfl⟩;refine⟨h1,?_,Stays.refl _⟩;simp only [hs,and_false,if_false];exact hF
theorem look_page {h:Hp}{f:Int→Option Value}{on:Int→Option PageV}(hO:OnIn h f on)(n:Int):PageIn h ((f n).getD zeroPage) ((on n).getD ⟨0,0,[],[],0⟩):=by
 have:=hO n
 cases hy:on n with
 | none=>
   rw [hy] at this;dsimp only at this;rw [this];exact⟨_,_,rfl,items_mk (Nat.zero_le _),RowIn.nil _ _⟩
 | some g=>
   rw [hy] at this;obtain⟨v,e1,e2⟩:=this;rw [e1];exact e2
theorem drop_any(v ab:Nat)(mark:Int)(s0:VaultS)(hfit:∀n g,s0.on n=some g→g.items.length≤65535):∀(M:Nat) (s:VaultS) (was:List (Int × Option PageV)) (n:Int) (F:Pr) (w:World),
 sumC s.pool.counts<M→DInv s0 s was→s.pool.floor+s.pool.acts.length+sumC s.pool.counts<1099511627776→Sat ((VMA v s ab mark was).star F) w→
 Calls Tryz.prog 99 #[.pointer (some ⟨v,0,none⟩),.pointer (some ⟨ab,0,none⟩),.int .i64 n] w fun e w'=>
  Stays w w'∧∃er t W,e= .returned (.int .i64 er)∧DropR s0.get [n] s.pool.counts er t.pool.counts∧DInv s0 t W∧Far s t∧Sat ((VMA v t ab mark W).star F) w':=by
 intro M;induction M with
 | zero=>intro s was n F w hM;omega
 | succ M ih=>
   intro s was n F w hM hd hb hF;have okp:=vma_pool hF;obtain⟨x,wv,ws,ok,hws,hF1⟩:=vma_iff.1 hF
   have h1:Sat ((PoolA x.p s.pool).star ((Pr.pts v (.cells #[.pointer (some ⟨x.p,0,none⟩),.map (some x.mb),x.av,.int .i64 s.floor] 70)).star
    ((((MapA Tryz.prog 3 x.mb x.f).star ((Row 126 2 x.av s.acts.length (actCells x.axs)).star (Pr.own x.h)))).star (((Pr.pts ab (.cells #[.int .i64 mark,wv] 126)).star (Row 164 7 wv ws.length (ws.flatMap WasX.cells))).star F)))) w:=hF1.perm (by unfold VMAt VaultAt;ac_rfl)
   have qv:w.cell? ⟨v,0,none⟩=some (.pointer (some ⟨x.p,0,none⟩)):=by rw [cell_of_heap h1.right.pts_heap];rfl
   have HD:=hQ (dec_A x.p s.pool n _ w h1 (by omega));have HDI:=hQ hd;have HM:=hQ (And.intro hM hb);have HF:=hQ hF;by_cases h0:s.pool.count n=0
   · have HC:=hQ (show cntL s.pool.counts n=0 from by rw [← count_cnt];exact h0)
     clear hF1 h1 hF hd hM hb ok hws okp ih;go_enter Tryz.func99,Tryz.ntmps99
     go_wp2_with fail
     refine HD.out.mono ?_;rintro e w1 (⟨rfl,_,rfl⟩ | ⟨_,hne,_⟩)
     · go_wp2
       go_ret;exact⟨Stays.refl _,15,s,was,rfl,.none _ _ _ HC.out,HDI.out,Far.refl s,HF.out⟩
     · exact absurd h0 hne
   · have hth:=there_of_count h0
     have hnb:1≤n∧n≤65536:=⟨hth.1,by have:=hth.2;have:=okp.n2;omega⟩;have hcb:=count_bd okp n
     have hcd:(s.pool.did n (-1)).count n=s.pool.count n-1:=by
      have:=did_count (b:= -1) (m:=n) hth
      rw [if_pos rfl] at this;exact this
     have HC:=hQ (show cntL s.pool.counts n≠0 from by rw [← count_cnt];exact h0);have HC2:=hQ (show cntL (addC s.pool.counts n (-1)) n=s.pool.count n-1 from by rw [← did_counts, ← count_cnt];exact hcd);have HOKP:=hQ okp;have HH0:=hQ h0;have HCD:=hQ hcd;by_cases hleft:s.pool.count n-1=0
     ·
      obtain⟨g,hg⟩:∃g,(s.on n).getD ⟨0,0,[],[],0⟩=g:=⟨_,rfl⟩;have hpg:=look_page ok.on n;rw [hg] at hpg
      have hson:s.on n=s0.on n:=by
       rw [hd.on];exact if_neg (fun e=>h0 (count_of_free okp e))
      have hget:s0.get n=g:=by rw [← hg,hson];rfl
      have hgl:g.items.length≤65535:=by
       rw [← hg,hson];cases hk:s0.on n with
       | none=>exact Nat.zero_le _
       | some g2=>exact hfit n g2 hk
      obtain⟨vi,vd,epv,hi,hdd⟩:=id hpg;obtain⟨ai,ci,evi,_,_⟩:=items_rd hi;obtain⟨ad,cd,evd⟩:=bytes_shape hdd;rw [epv,evi,evd] at hpg;have HFN:=hQ (show (x.f n).getD zeroPage=pageV g.kind g.level (.slice ai g.items.length ci) (.slice ad g.data.length cd) g.next from by rw [epv,evi,evd]);have HPG:=hQ hpg;have HX:=hQ (And.intro ok hws);have HGET:=hQ hget;have HGL:=hQ hgl
      have HWL:=hQ (show was.length≤65536 from by have:=hd.wlen hth h0;have:=okp.n2;omega);have HKS:=hQ (show (kidsOf g).length≤65536 from by have:=kidsOf_len g;omega);have HIH:=hQ ih;clear hF1 h1 hF hd hM hb ok hws okp ih hpg hi hdd epv evi evd hg hson hget hgl hcb hcd hth;rw [hleft] at HD;have HLEFT:=hQ hleft;clear hleft;go_enter Tryz.func99,Tryz.ntmps99
      go_wp2_with fail
      refine HD.out.mono ?_;rintro e w1 (⟨_,he,_⟩ | ⟨rfl,_,h2,hst⟩)
      · exact absurd he h0
      have h3:Sat ((MapA Tryz.prog 3 x.mb x.f).star ((Pr.pts v (.cells #[.pointer (some ⟨x.p,0,none⟩),.map (some x.mb),x.av,.int .i64 s.floor] 70)).star ((PoolA x.p (s.pool.did n (-1))).star
       ((((Row 126 2 x.av s.acts.length (actCells x.axs)).star (Pr.own x.h))).star (((Pr.pts ab (.cells #[.int .i64 mark,wv] 126)).star (Row 164 7 wv ws.length (ws.flatMap WasX.cells))).star F))))) w1:=h2.perm (by ac_rfl)
      have q1:w1.cell? ⟨v,1,none⟩=some (.map (some x.mb)):=by rw [cell_of_heap h3.right.pts_heap];rfl
      have HK:=hQ (kids_any x.h _ g HPG.out (by have:=HGL.out;omega) _ w1 (h3.perm (B:=(Pr.own x.h).star ((MapA Tryz.prog 3 x.mb x.f).star ((Pr.pts v (.cells #[.pointer (some ⟨x.p,0,none⟩),.map (some x.mb),x.av,.int .i64 s.floor] 70)).star ((PoolA x.p (s.pool.did n (-1))).star
       ((Row 126 2 x.av s.acts.length (actCells x.axs)).star (((Pr.pts ab (.cells #[.int .i64 mark,wv] 126)).star (Row 164 7 wv ws.length (ws.flatMap WasX.cells))).star F)))))) (by ac_rfl)))
      have H3:=hQ h3;clear h2 h3 qv HD;go_wp2_with (first | (at_lookup;refine wpList_look rfl _ _ _ false rfl Tryz.underlying3 Tryz.underlying67 zeroPage (zero_page _) n hnb rfl rfl H3.out ?_;rw [HFN.out]) | (go_at_call 140;refine HK.out.mono ?_))
      rintro e w2 ⟨kv,rfl,h4,hst2⟩;obtain⟨kl,hkl⟩:∃kl,kidsOf g=kl:=⟨_,rfl⟩;rw [hkl] at h4;have HKL:=hQ hkl;have hkb:(kl.length:Int)≤65536:=by rw [← hkl];have:=HKS.out;omega
      obtain⟨ak,ck,ek,_,_⟩:=Row.read h4;subst ek;obtain⟨ok,hws⟩:=HX.out;have h5:Sat ((VMA v { s with pool:=s.pool.did n (-1) } ab mark was).star ((IntsRow (.slice ak kl.length ck) kl).star F)) w2:=vma_iff.2 ⟨x,wv,ws,⟨ok.on,ok.acts,ok.f0,ok.fb⟩,hws,h4.perm (by unfold VMAt VaultAt;dsimp only;ac_rfl)⟩;have FR:=hQ (free_any v { s with pool:=s.pool.did n (-1) } ab mark was n hnb HWL.out _ w2 h5)
      have HS2:=hQ (hst.trans hst2);clear h4 h5 ok hws hst hst2 HK H3 q1 hkl;go_wp2_with fail
      refine FR.out.mono ?_;rintro e w3 ⟨rfl,h6,hst3⟩
      have key:∃s2 W2,Sat ((VMA v s2 ab mark W2).star ((IntsRow (.slice ak kl.length ck) kl).star F)) w3∧DInv s0 s2 W2∧s2.pool=s.pool.did n (-1)∧Far s s2:=by
       by_cases hs1:(s.pool.did n (-1)).state n=1
       · refine⟨_,_,h6,?_,rfl,(Far.did HOKP.out HH0.out _).1⟩
         have hd2:=HDI.out.freed HOKP.out HH0.out (by rw [HCD.out];exact HLEFT.out) hs1;simp only [hs1,and_true,if_true];exact hd2
       · refine⟨_,_,h6,?_,rfl,(Far.did HOKP.out HH0.out _).1⟩
         simp only [hs1,and_false,if_false];exact HDI.out.did HOKP.out HH0.out hs1
      obtain⟨s2,W2,h7,hd2,hp2,hfar2⟩:=key;have HS3:=hQ (HS2.out.trans hst3);have h8:=h7.perm (B:=(IntsRow (.slice ak kl.length ck) kl).star ((VMA v s2 ab mark W2).star F)) (by ac_rfl);have HI:=hQ h8;have HD2:=hQ (And.intro hd2 hfar2)
      have hM2:sumC s2.pool.counts<M:=by
       have:=(Far.did HOKP.out HH0.out s.on).2
       rw [hp2];have:=HM.out.1
       omega
      have hb2:s2.pool.floor+s2.pool.acts.length+sumC s2.pool.counts<1099511627776:=by
       have:=hfar2.acts
       have:=HM.out.2
       omega
      have HM2:=hQ (And.intro hM2 hb2);have hpc:s2.pool.counts=addC s.pool.counts n (-1):=by rw [hp2,did_counts]
      have HPC:=hQ hpc;clear h6 h7 h8 hd2 hfar2 FR hM2 hb2 hpc hp2 HS2 hst3;go_wp2
      go_loopw [42] (fun i wr=> ∃(k:Nat) (t:VaultS) (W:List (Int × Option PageV)),k≤kl.length∧i= .int .i64 k∧Stays w wr∧Hid (DInv s0 t W)∧Hid (DropR s0.get (kl.take k) s2.pool.counts 0 t.pool.counts)∧Hid (Far s2 t)∧Sat ((IntsRow (.slice ak kl.length ck) kl).star ((VMA v t ab mark W).star F)) wr) (fun i _=>kl.length-(intOf i).toNat)
      case atStart=>exact⟨0,s2,W2,Nat.zero_le _,rfl,HS3.out,hQ HD2.out.1,hQ (.nil _),hQ (Far.refl _),HI.out⟩
      case round=>
       obtain⟨k,t,W,hk,rfl,hst4,hdt,hdr,hft,hs4⟩:=hrel;clear HI;rcases Nat.lt_or_ge k kl.length with hlt | hge
       · obtain⟨_,_,e7,_,hc7⟩:=Row.read hs4
         obtain⟨rfl,_,rfl⟩:=Value.slice.inj e7;obtain⟨b7,e7',hc7b⟩:=hc7 (by omega);clear hc7 e7;subst e7'
         have q7:wr.cell? ⟨b7,k,none⟩=some (.int .i64 kl[k]):=by
          rw [(hc7b k (by omega)).1];simp [hlt]
         have z7:=World.block_lt_of_cell? _ _ q7;have IH:=hQ (HIH.out t W kl[k] _ wr (by have:=hft.out.sum;have:=HM2.out.1;omega) hdt.out (by have:=hft.out.acts;have:=HM2.out.2;omega) (hs4.perm (Pr.left_comm _ _ _)));have HTK:=hQ (show kl.take (k+1)=kl.take k++ [kl[k]] from List.take_succ_eq_append_getElem hlt)
         have HDK:=hQ (show kl=kl.take k++kl[k] :: kl.drop (k+1) from by
          rw [← List.drop_eq_getElem_cons hlt,List.take_append_drop])
         have HST4:=hQ hst4;clear hs4 hc7b hst4;generalize kl[k]=kn at*;go_wp2_with fail
         refine IH.out.mono ?_;rintro e w5 ⟨hst5,er,t2,W3,rfl,hdr2,hd3,hfar3,h8⟩;have H8:=hQ h8;have HST5:=hQ (HST4.out.trans hst5);have HR:=hQ (And.intro hdr2 (And.intro hd3 hfar3));clear h8 hst5 IH hdr2 hd3 hfar3;by_cases her:er=0
         · subst her
           go_wp2;go_roundw
           case rel=>
            refine⟨k+1,t2,W3,by omega,congrArg (Value.int .i64) (by omega),HST5.out,hQ HR.out.2.1,hQ ?_,hQ (hft.out.trans HR.out.2.2),H8.out.perm (Pr.left_comm _ _ _)⟩;rw [HTK.out];exact hdr.out.append rfl HR.out.1
           case measure=>simp [intOf];omega
         · have hne:(er != 0)=true:=by rw [bne_iff_ne];exact her
           have HER:=hQ her;clear her;go_wp2;go_ret;refine⟨HST5.out,er,t2,W3,rfl,?_,HR.out.2.1,HD2.out.2.trans (hft.out.trans HR.out.2.2),(H8.out.perm (Pr.left_comm _ _ _)).right⟩;refine .last _ _ _ _ _ HC.out (by rw [HC2.out];exact HLEFT.out) ?_;rw [HGET.out,HKL.out,List.append_nil, ← HPC.out];have h9:=hdr.out.append rfl (HR.out.1.fail (t:=kl.drop (k+1)) HER.out)
           rw [show kl.take k++([kn]++kl.drop (k+1))=kl from HDK.out.symm] at h9;exact h9
       · have hke:k=kl.length:=by omega
         subst hke;have HS4:=hQ hs4;clear hs4;go_wp2;go_ret;refine⟨hst4,0,t,W,rfl,?_,hdt.out,HD2.out.2.trans hft.out,HS4.out.right⟩;refine .last _ _ _ _ _ HC.out (by rw [HC2.out];exact HLEFT.out) ?_;rw [HGET.out,HKL.out,List.append_nil, ← HPC.out];have h9:=hdr.out;rw [List.take_length] at h9;exact h9
     ·
      have hgt:0<s.pool.count n-1:=by omega
      have HX:=hQ (And.intro ok hws);have HLN:=hQ hleft;clear hF1 h1 hF hd hM hb ok hws okp ih hcb hcd hth hleft;go_enter Tryz.func99,Tryz.ntmps99
      go_wp2_with fail
      refine HD.out.mono ?_;rintro e w1 (⟨_,he,_⟩ | ⟨rfl,_,h2,hst⟩)
      · exact absurd he h0
      obtain⟨ok,hws⟩:=HX.out;have h5:Sat ((VMA v { s with pool:=s.pool.did n (-1) } ab mark was).star F) w1:=vma_iff.2 ⟨x,wv,ws,⟨ok.on,ok.acts,ok.f0,ok.fb⟩,hws,h2.perm (by unfold VMAt VaultAt;dsimp only;ac_rfl)⟩;have H5:=hQ h5;clear h2 h5 ok hws HD qv;go_wp2;go_ret;have okp2:=vma_pool H5.out
      refine⟨hst,0,{ s with pool:=s.pool.did n (-1) },was,rfl,?_,HDI.out.did HOKP.out HH0.out (fun e=> ?_),(Far.did HOKP.out HH0.out s.on).1,H5.out⟩
      · refine .more _ _ _ _ _ HC.out (by rw [HC2.out];exact HLN.out) ?_
        rw [← did_counts];exact .nil _
      · have h9:=count_of_free okp2 e
        have h10:=HCD.out;rw [h9] at h10;exact HLN.out h10.symm
end Go.Proofs.YtkfjilnmnbeokaaGreat.C7
namespace Go.Proofs.YtkfjilnmnbeokaaGreat.E7
open ChangeShapes WideShapes ChangeAt RowKit Sl Cop D2 D3 J3 V3 G2 J2 X3 Y3 E4 G4 L4 B7 C7
theorem drop1_any(v ab:Nat)(mark:Int)(VB NB:Nat)(s:VaultS)(n:Int)(hb:Bare s)(hfit:∀n g,s.on n=some g→g.items.length≤65535)(hm:s.pool.floor+s.pool.acts.length+sumC s.pool.counts<1099511627776)(F:Pr)(w:World)
 (hF:Sat ((VMA v s ab mark []).star ((Pr.pts VB (.cells #[.pointer (some ⟨v,0,none⟩)] 24)).star ((Pr.pts NB (.cells #[.int .i64 n] 3)).star F))) w):
 Calls Tryz.prog 98 #[.pointer (some ⟨ab,0,none⟩),.pointer (some ⟨VB,0,none⟩),.pointer (some ⟨NB,0,none⟩)] w fun e w'=>
  Stays w w'∧∃z:Int × VaultS × List (Int × Option PageV),(DropR s.get [n] s.pool.counts z.1 z.2.1.pool.counts∧DInv s z.2.1 z.2.2∧Far s z.2.1)∧e= .returned (.int .i64 z.1)∧Sat ((VMA v z.2.1 ab mark z.2.2).star F) w':=by
 have q1:w.cell? ⟨VB,0,none⟩=some (.pointer (some ⟨v,0,none⟩)):=by rw [cell_of_heap hF.right.pts_heap];rfl
 have q2:w.cell? ⟨NB,0,none⟩=some (.int .i64 n):=by rw [cell_of_heap hF.right.right.pts_heap];rfl
 have D:=hQ (drop_any v ab mark s hfit (sumC s.pool.counts+1) s [] n _ w (Nat.lt_succ_self _) (DInv.refl hb) hm hF);clear hF hb hfit hm;go_enter Tryz.func98,Tryz.ntmps98
 go_wp2_with fail
 refine D.out.mono ?_;rintro e w1 ⟨hst,er,t,W,rfl,h1,h2,h3,h4⟩;have h5:=h4.perm (B:=((Pr.pts VB (.cells #[.pointer (some ⟨v,0,none⟩)] 24)).star (Pr.pts NB (.cells #[.int .i64 n] 3))).star ((VMA v t ab mark W).star F)) (by ac_rfl);have H5:=hQ h5.right;have HR:=hQ (And.intro h1 (And.intro h2 h3));clear h1 h2 h3 h4 h5;go_wp2;go_ret;exact⟨hst,(er,t,W),HR.out,rfl,H5.out⟩
theorem vdrop_any(v:Nat)(s:VaultS)(n:Int)(hb:Bare s)(hfit:∀n g,s.on n=some g→g.items.length≤65535)(hm:s.pool.floor+s.pool.acts.length+sumC s.pool.counts<1099511627776)(hvm:s.floor+s.acts.length<1099511627776)(F:Pr)(w:World)
 (hF:Sat ((VaultA v s).star F) w):
 Calls Tryz.prog 52 #[.pointer (some ⟨v,0,none⟩),.int .i64 n] w fun e w'=>
  Stays w w'∧∃er t W,e= .returned (.int .i64 er)∧DropR s.get [n] s.pool.counts er t.pool.counts∧DInv s t W∧Far s t∧Sat ((if er=0 then VaultA v (t.acted ⟨s.pool.mark,W⟩) else VaultA v s).star F) w':=by
 have es:(w.alloc (.cells #[.pointer (some ⟨v,0,none⟩)] 24)).heap.size=w.heap.size+1:=by simp
 have h1:=(hF.alloc (.cells #[.pointer (some ⟨v,0,none⟩)] 24)).alloc (.cells #[.int .i64 n] 3);rw [es] at h1;have h2:=h1.perm (B:=(VaultA v s).star ((Pr.pts w.heap.size (.cells #[.pointer (some ⟨v,0,none⟩)] 24)).star ((Pr.pts (w.heap.size+1) (.cells #[.int .i64 n] 3)).star F))) (by ac_rfl)
 have D:=hQ (do_any v s 98 #[.pointer (some ⟨w.heap.size,0,none⟩),.pointer (some ⟨w.heap.size+1,0,none⟩)] (fun z:Int × VaultS × List (Int × Option PageV)=>z.1)
  (fun z=>DropR s.get [n] s.pool.counts z.1 z.2.1.pool.counts∧DInv s z.2.1 z.2.2∧Far s z.2.1) (fun z=>z.2.1) (fun z=>z.2.2) (fun _=>F) _ _ h2 hvm (fun _ _=>rfl) (fun z hz=>hz.2.1.mid) (fun ab wx hwx=>
    drop1_any v ab s.pool.mark w.heap.size (w.heap.size+1) s n hb hfit hm F wx hwx))
 have HST:=hQ (((Stays.refl w).alloc (.cells #[.pointer (some ⟨v,0,none⟩)] 24)).alloc (.cells #[.int .i64 n] 3));clear h1 h2 hF hb hfit hm es;go_enter Tryz.func52,Tryz.ntmps52
 go_wp2_with fail
 refine D.out.mono ?_;rintro e w1 ⟨hst,⟨er,t,W⟩,hR,rfl,h3⟩;have H3:=hQ h3;have HR:=hQ hR;clear h3 hR;go_wp2;go_ret;exact⟨HST.out.trans hst,er,t,W,rfl,HR.out.1,HR.out.2.1,HR.out.2.2,H3.out⟩
end Go.Proofs.YtkfjilnmnbeokaaGreat.E7
namespace Go.Proofs.YtkfjilnmnbeokaaGreat.F7
open ChangeShapes WideShapes ChangeAt RowKit Sl Cop D2 D3 J3 V3 G2 J2 X3 Y3 E4 G4 L4 N4 B7 C7 Q3
end Go.Proofs.YtkfjilnmnbeokaaGreat.F7
namespace Go.Cop
def HistV:List VaultS→VaultS→Prop
 | [],s=>s.acts= []
 | s0 :: r,s=>(∃t W,s=t.acted ⟨s0.pool.mark,W⟩∧Mid s0 t W)∧HistV r s0
theorem HistV.len:∀ {r:List VaultS} {s:VaultS},HistV r s→s.acts.length=r.length
 | [],s,h=>by rw [show s.acts= [] from h];rfl
 | s0 :: r,s,⟨⟨t,W,e,m⟩,h⟩=>by
   have:=HistV.len h
   rw [e];show (t.acts++ [_]).length=_
   rw [List.length_append,m.va,this];rfl
theorem HistV.fl:∀ {r:List VaultS} {s x:VaultS},HistV r s→x∈r→x.floor=s.floor
 | s0 :: r,s,x,⟨⟨t,W,e,m⟩,h⟩,hx=>by
   have e0:s.floor=s0.floor:=by rw [e];exact m.vf
   rcases List.mem_cons.1 hx with rfl | hx
   · exact e0.symm
   · rw [e0];exact HistV.fl h hx
theorem HistV.drop:∀ {r:List VaultS} {s:VaultS} (j:Nat),HistV r s→j≤r.length→∃s1 r1,(s :: r).drop j=s1 :: r1∧HistV r1 s1
 | r,s,0,h,_=>⟨s,r,rfl,h⟩
 | [],s,j+1,h,hj=>absurd hj (by simp)
 | s0 :: r,s,j+1,h,hj=>HistV.drop j h.2 (by simpa using hj)
end Go.Cop
namespace Go.Proofs.YtkfjilnmnbeokaaGreat.G7
open ChangeShapes WideShapes ChangeAt RowKit Sl Cop D2 D3 J3 V3 G2 J2 X3 Y3 E4 G4 L4 M4 Y4 P4 S4 X4 N4
theorem vundo_any(v:Nat)(s:VaultS)(r:List VaultS)(H:HistV r s)(k:Nat)(hk:k≤r.length)(F:Pr)(w:World)(hF:Sat ((VaultA v s).star F) w):
 Calls Tryz.prog 27 #[.pointer (some ⟨v,0,none⟩),.int .i64 (s.floor+s.acts.length-k)] w fun e w'=>
  e= .returned (.bool true)∧Stays w w'∧∃s1 r1,(s :: r).drop k=s1 :: r1∧HistV r1 s1∧Sat ((VaultA v s1).star F) w':=by
 obtain⟨okp,b1,b2⟩:=vault_ok hF;have hl:=H.len
 have q3:w.cell? ⟨v,3,none⟩=some (.int .i64 s.floor):=by
  obtain⟨x,ok,h1⟩:=vaultA_iff.1 hF
  have h2:Sat ((Pr.pts v (.cells #[.pointer (some ⟨x.p,0,none⟩),.map (some x.mb),x.av,.int .i64 s.floor] 70)).star
   ((((MapA Tryz.prog 3 x.mb x.f).star ((PoolA x.p s.pool).star ((Row 126 2 x.av s.acts.length (actCells x.axs)).star (Pr.own x.h))))).star F)) w:=h1.perm (by unfold VaultAt;ac_rfl)
  rw [cell_of_heap h2.pts_heap];rfl
 have M:=hQ (vmark_A v s F w hF);have HF:=hQ hF;have HH:=hQ H;obtain⟨fl,hfl⟩:∃fl,fl=s.floor:=⟨_,rfl⟩;obtain⟨nn,hnn⟩:∃nn,nn=r.length:=⟨_,rfl⟩;rw [← hfl] at q3 b1 b2;rw [hl, ← hfl, ← hnn] at M;rw [hl, ← hnn] at b2;rw [hl, ← hfl, ← hnn];rw [← hnn] at hk;have HFL:=hQ hfl;have HNN:=hQ hnn;clear hF H hl hfl hnn;have d1:decide (fl+(nn:Int)-k<fl)=false:=by rw [decide_eq_false_iff_not];omega
 have d2:decide (fl+(nn:Int)<fl+(nn:Int)-k)=false:=by rw [decide_eq_false_iff_not];omega
 go_enter Tryz.func27,Tryz.ntmps27
 go_wp2_with fail
 refine M.out.mono ?_;rintro e w1 ⟨rfl,ho⟩;have H1:=hQ (HF.out.only ho);have HO:=hQ ho;clear ho M HF q3 d1 d2;go_wp2;go_loopw [5] (fun _ wr=> ∃(j:Nat) (s1:VaultS) (r1:List VaultS),j≤k∧Hid ((s :: r).drop j=s1 :: r1)∧Hid (HistV r1 s1)∧Stays w wr∧Sat ((VaultA v s1).star F) wr) (fun _ wr=>match wr.cell? ⟨v,2,none⟩ with | some (.slice _ n _)=>n | _=>0)
 case atStart=>exact⟨0,s,r,Nat.zero_le _,hQ rfl,HH.out,HO.out.st,H1.out⟩
 case round=>
  obtain⟨j,s1,r1,hj,hd,hh,hst,hinv⟩:=hrel;clear H1 HO
  have hlen:r1.length+j=nn:=by
   have:=congrArg List.length hd.out
   simp only [List.length_drop,List.length_cons] at this;have:=HNN.out
   omega
  have hl1:=hh.out.len
  have hf1:s1.floor=fl:=by
   have hm:s1∈s :: r:=List.mem_of_mem_drop (i:=j) (by rw [hd.out];simp);rw [HFL.out];rcases List.mem_cons.1 hm with rfl | hm
   · rfl
   · exact HH.out.fl hm
  have M:=hQ (vmark_A v s1 F wr hinv);rw [hl1,hf1] at M;rcases Nat.lt_or_ge j k with hlt | hge
  · cases r1 with
    | nil=>simp at hlen;omega
    | cons s2 r2=>
      obtain⟨⟨t,W,e1,m⟩,h2⟩:=hh.out;obtain⟨okp1,g1,g2⟩:=vault_ok hinv;obtain⟨x,ok,hx⟩:=vaultA_iff.1 hinv;have eA:s1.acts=s2.acts++ [⟨s2.pool.mark,W⟩]:=by rw [e1];show t.acts++_=_;rw [m.va]
      have eP:s1.pool=t.pool:=by rw [e1];rfl
      have eO:s1.on=t.on:=by rw [e1];rfl
      have eF2:s2.floor=fl:=by rw [← hf1,e1];exact m.vf.symm
      have hacts:=ok.acts;rw [eA] at hacts;obtain⟨axs',ax,eax,ha1,ha2⟩:=acts_unsnoc hacts;obtain⟨em,ws,hrow,hwas⟩:=ha2;dsimp only at em hrow hwas;have eL:s1.acts.length=s2.acts.length+1:=by rw [eA,List.length_append];rfl
      have hL2:s2.acts.length=r2.length:=h2.len;obtain⟨L,hL⟩:∃L,L=s2.acts.length:=⟨_,rfl⟩
      have hx2:Sat ((Row 126 2 x.av s1.acts.length (actCells x.axs)).star ((Pr.pts v (.cells #[.pointer (some ⟨x.p,0,none⟩),.map (some x.mb),x.av,.int .i64 s1.floor] 70)).star
       ((((MapA Tryz.prog 3 x.mb x.f).star ((PoolA x.p s1.pool).star (Pr.own x.h)))).star F))) wr:=hx.perm (by unfold VaultAt;ac_rfl)
      rw [eL, ← hL] at hx2;obtain⟨aa,ca,ea,hlen2,hcells⟩:=Row.read hx2;obtain⟨b,eb,hc⟩:=hcells (by omega);subst eb;have hal:axs'.length=L:=by rw [hL];exact ha1.1
      have hac:(actCells axs').length=L*2:=by rw [actCells_len,hal]
      have k0:=(hc (L*2) (by omega)).1;have k1:=(hc (L*2+1) (by omega)).1;rw [eax,actCells_snoc,List.getElem?_append_right (by omega),hac] at k0 k1;rw [show L*2-L*2=0 by omega] at k0;rw [show L*2+1-L*2=1 by omega] at k1;rw [em] at k0;have q2:wr.cell? ⟨v,2,none⟩=some x.av:=by rw [cell_of_heap hx2.right.pts_heap];rfl
      rw [ea] at q2;have hwl:ws.length=W.length:=hwas.1;rw [← hwl] at hrow;obtain⟨_,aw,cw,ew,_,_,_⟩:=id hrow;rw [ew] at hrow;have k0':wr.cell? ⟨b,L*2,none⟩=some (.int .i64 (s2.pool.floor+s2.pool.acts.length)):=k0;have k1':wr.cell? ⟨b,L*2+1,none⟩=some (.slice aw ws.length cw):=by rw [k1, ← ew];rfl
      have hpf:s1.pool.floor=s2.pool.floor:=by rw [eP];exact m.pf
      have B:=fun wx hwx=>back_gen v s1 x s2.pool.acts.length s2.pool.counts (.slice aw ws.length cw) ws hrow (by rw [hwl];exact m.len) (fun X hX=>by
       obtain⟨i,hi,rfl⟩:=List.getElem_of_mem hX
       have hi2:i<W.length:=by rw [← hwl];exact hi
       obtain⟨r1,r2,r3,_⟩:=hwas.2 i hi hi2
       exact⟨by rw [r1];exact m.nos _ (List.getElem_mem hi2),r2,r3⟩) F wx hwx (by rw [eP];exact m.pl) (by rw [eP];exact m.trail)
      rw [hpf] at B;have hpe:({ s1.pool with counts:=s2.pool.counts,acts:=s1.pool.acts.take s2.pool.acts.length }:PoolS)=s2.pool:=by rw [eP];exact m.pool_back
      rw [hpe] at B
      have hon:OnIn x.h (putB x.f (backs ws)) s2.on:=by
       rw [← m.back, ← eO];exact onIn_back hwas ok.on
      have HB:=hQ B;have HX:=hQ hx;have HFIN:=hQ (And.intro hon ha1);have HEA:=hQ (And.intro ea (And.intro eax eL));have HAC:=hQ hac;have HLL:=hQ hL;have HF2:=hQ eF2;have HF1:=hQ hf1;have HL2:=hQ hL2;have HH2:=hQ h2;have HFB:=hQ (And.intro g1 g2);have hrl:(s2 :: r2).length=L+1:=by rw [hL,hL2];rfl
      rw [hrl] at M hlen;have hLb:L≤1099511627776:=by omega
      have hca:=Row.bd (ea ▸ hx2)
      have hcl:L≤ca:=by
       have hx3:=hx2;rw [ea] at hx3;obtain⟨_,(⟨e5,_,_⟩ | ⟨_,_,_,e5,_,h5,_,_⟩)⟩:=Row.open' hx3
       · cases e5
       · cases e5;omega
      have HLEN:=hQ hlen;have hcmp:fl+(nn:Int)-k<fl+((L+1:Nat):Int):=by omega
      clear B hinv hx hx2 hc hcells hrow hwas ha1 hon ok eax hac hal k0 k1 hpe okp1 eA eP eO eL eF2 ea em hL2 hL h2 hh m e1 hacts hpf hwl hf1 hl1 hrl g1 g2 hlen hlen2;have HQ2:=hQ q2;go_wp2_with fail
      refine M.out.mono ?_;rintro e w2 ⟨rfl,ho⟩;have p2:=ho.cell q2;have p0:=ho.cell k0';have p1:=ho.cell k1';have HB2:=hQ (HB.out w2 (HX.out.only ho));have HST2:=hQ (hst.trans ho.st);clear ho q2 k0' k1' hst M;go_wp2_with fail
      refine HB2.out.mono ?_;rintro e w3 ⟨rfl,h3,hst3⟩;have h4:Sat ((Row 126 2 x.av s1.acts.length (actCells x.axs)).star ((Pr.pts v (.cells #[.pointer (some ⟨x.p,0,none⟩),.map (some x.mb),x.av,.int .i64 s1.floor] 70)).star (((MapA Tryz.prog 3 x.mb (putB x.f (backs ws))).star ((PoolA x.p s2.pool).star (Pr.own x.h))).star F))) w3:=h3.perm (by unfold VaultAt;ac_rfl)
      rw [HEA.out.2.2, ← HLL.out,HEA.out.1,HF1.out] at h4;have j2:w3.cell? ⟨v,2,none⟩=some (.slice (some ⟨b,0,none⟩) (L+1) ca):=by rw [cell_of_heap h4.right.pts_heap];rfl
      have jz:=frozen_of_heap h4.right.pts_heap 2;have h5:=row_cutk h4 (Nat.le_succ L)
      have h6:Sat ((Pr.pts v (.cells #[.pointer (some ⟨x.p,0,none⟩),.map (some x.mb),.slice (some ⟨b,0,none⟩) L ca,.int .i64 fl] 70)).star ((Row 126 2 (.slice (some ⟨b,0,none⟩) L ca) L ((actCells x.axs).take (L*2))).star (((MapA Tryz.prog 3 x.mb (putB x.f (backs ws))).star ((PoolA x.p s2.pool).star (Pr.own x.h))).star F))) (w3.setCell ⟨v,2,none⟩ (.slice (some ⟨b,0,none⟩) L ca)):=(h5.perm (Pr.left_comm _ _ _)).setCell (i:=2) _
      have H6:=hQ h6;have HST3:=hQ ((HST2.out.trans hst3).setCell ⟨v,2,none⟩ (.slice (some ⟨b,0,none⟩) L ca));clear h3 h4 h5 h6 hst3 HB2 p2 p0 p1 HB HX;go_wp2;go_roundw
      case rel=>
       refine⟨j+1,s2,r2,by omega,hQ ?_,HH2.out,HST3.out,vaultA_iff.2 ⟨{ x with f:=putB x.f (backs ws),av:= .slice (some ⟨b,0,none⟩) L ca,axs:=axs' },⟨HFIN.out.1,HFIN.out.2,?_,?_⟩,?_⟩⟩
       · have:=hd.out
         rw [← List.drop_drop,this];rfl
       · rw [HF2.out, ← HF1.out];exact HFB.out.1
       · have h7:=HFB.out.2
         rw [HF1.out,HEA.out.2.2] at h7;rw [HF2.out];omega
       · have e6:(actCells x.axs).take (L*2)=actCells axs':=by rw [HEA.out.2.1,actCells_snoc, ← HAC.out,List.take_left]
         have h7:=H6.out;rw [e6] at h7;refine h7.perm ?_;unfold VaultAt;dsimp only;rw [← HLL.out,HF2.out];ac_rfl
      case measure=>
       have e7:=cell_of_heap H6.out.pts_heap 2;rw [show (#[.pointer (some ⟨x.p,0,none⟩),.map (some x.mb),.slice (some ⟨b,0,none⟩) L ca,.int .i64 fl]:Array Value)[2]? =some (.slice (some ⟨b,0,none⟩) L ca) from rfl] at e7;rw [e7,HQ2.out];exact Nat.lt_succ_self L
  · have hjk:j=k:=by omega
    subst hjk;have HINV:=hQ hinv;rw [show fl+(r1.length:Int)=fl+(nn:Int)-j by omega] at M;clear hinv hl1 hf1;go_wp2_with fail
    refine M.out.mono ?_;rintro e w2 ⟨rfl,ho⟩;have HR:=hQ (And.intro (HINV.out.only ho) (hst.trans ho.st));clear ho;go_wp2;go_ret;exact⟨rfl,HR.out.2,s1,r1,hd.out,hh.out,HR.out.1⟩
end Go.Proofs.YtkfjilnmnbeokaaGreat.G7
