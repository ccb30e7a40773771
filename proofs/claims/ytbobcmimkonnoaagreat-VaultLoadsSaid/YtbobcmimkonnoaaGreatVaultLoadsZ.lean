/- VaultLoads answers true, whatever numbers, counts, pages and row of calls are handed in. There is no condition. -/
import Derived.Test.YtbobcmimkonnoaaGreatVaultLoadsM48
import Derived.Test.YtbobcmimkonnoaaGreatRows
import Derived.WalkKit
import Derived.ProofKit
import Derived.OpenShut
set_option maxRecDepth 100000
set_option maxHeartbeats 16000000
namespace Go.Proofs.YtbobcmimkonnoaaGreat.vaultLoads
open ChangeShapes WideShapes ChangeAt RowKit Sl Cop M2 N2 P5 Q5 K6 M6 Y8 Nz E6 Y4 Pz
theorem own:ownKnob Tryz.prog.godebug=none:=by kernel_rfl
theorem fits_of {l:List OpP}(hi:∀o∈l,OpPI o)(hz:∀o∈l,PageSized o.g):∀o∈l,OpPFits o:=by
 intro o ho;obtain⟨⟨_,_,hk⟩,hf⟩:=hi o ho;obtain⟨h1,h2,h3⟩:=hz o ho;refine⟨hk,⟨?_,?_,?_⟩,fun x hx=>(hf.1 x hx).1⟩
 · unfold reachBytes at h1;omega
 · intro x hx
   have:=h2 x hx
   unfold ItemSized reachBytes at this;exact this
 · unfold reachBytes at h3;exact h3
theorem szp_of {g:PageV}(h:PageSized g):SzP g:=by
 obtain⟨h1,h2,h3⟩:=h;refine⟨?_,?_,?_⟩
 · unfold reachBytes at h1;omega
 · intro x hx
   have:=h2 x hx
   unfold ItemSized reachBytes at this;exact this
 · unfold reachBytes at h3;exact h3
section
variable {H:Type}{enc:TypeId × Value→H}
theorem open_ints2 {W:World}{base:Nat}{v:Value}{d:DataW H}{p:List MemPlace}(hval:Value.okWide Tryz.prog W .any base 40 v)(h:DataW.Trod enc Tryz.prog W 0 (fun _=>true) true 40 v d p):∃l:List Int,Ints (heapOf W) v l:=by
 obtain⟨a,len,cap,rfl⟩:=okWide_slice Tryz.underlying40 hval;obtain⟨n,hn⟩:=h;obtain⟨l,h1,_⟩:=ints_sz hn;exact⟨l,h1⟩
theorem open_nums2 {W:World}{base:Nat}{v:Value}{d:DataW H}{p:List MemPlace}(hval:Value.okWide Tryz.prog W .any base 41 v)(h:DataW.Trod enc Tryz.prog W 0 (fun _=>true) true 41 v d p):
 ∃l:List NumV,NumsIn (heapOf W) v l∧(∀y∈l,PageFits y.page)∧(Small d 41→∀y∈l,PageSized y.page):=by
 obtain⟨a,len,cap,rfl⟩:=okWide_slice Tryz.underlying41 hval;obtain⟨n,hn⟩:=h;obtain⟨l,h1,h2,h3⟩:=nums_of hn;exact⟨l,h1,h2,fun hw=>(h3 hw).2⟩
end
theorem lifted(os:Os)(started:os.Started)(H:Type)(enc:TypeId × Value→H):
 ReturnsInHanded {} Tryz.checked os 7 .any (Rows.vaultLoadsSpec.pre6 enc Tryz.prog Tryz.f7 Rows.vaultLoadsRow.domain false) (Rows.vaultLoadsSpec.post enc Tryz.prog Tryz.f7 false true false false):=by
 refine returnsInHanded_of_change_sized (C:=Tryz.checked) own started (by kernel_rfl) Tryz.func7
  (ChangeSpec.witness6 (enc:=enc) (C:=Tryz.checked) false ⟨#[], #[.int .i64 0,.slice none 0 0,.slice none 0 0,.slice none 0 0],[]⟩ 8 (by kernel_rfl) (by kernel_rfl) (by kernel_rfl) (by kernel_rfl)) ?_
 intro W base args ds gs before hval0 hW hcnd hsz _;have hval:∀(j:Nat) t v,Tryz.f7.params[j]? =some t→args[j]? =some v→Value.okWide Tryz.prog W .any base t v:=hval0;have hW':=hW;obtain⟨p,q,hA0,hV,rfl,hfz,hnd⟩:=hW;have hA:DataW.TrodAll enc Tryz.prog W 0 (fun _=>true) true Tryz.f7.params.toList args.toList ds p:=hA0
 have hsz2:(DataW.weightsEach Tryz.prog (Tryz.f7.params.toList++Rows.vaultLoadsSpec.plain.varTypes Tryz.prog) (ds++gs)).all (· ≤reachBytes)=true:=hsz;rw [Tryz.params7] at hA hval hsz2;obtain⟨v0,v1,v2,v3,d0,d1,d2,d3,p0,p1,p2,p3,rfl,rfl,rfl,h0,h1,h2,h3⟩:=trodAll_four hA;obtain⟨rfl,rfl⟩:=trodVars_none hV;obtain⟨refs,rfl,rfl,rfl,w0⟩:=open_int Tryz.underlying3 (hval 0 3 v0 rfl rfl) h0
 obtain⟨cs,hc⟩:=open_ints2 (hval 1 40 v1 rfl rfl) h1;obtain⟨l,hl,hlf,hls⟩:=open_nums2 (hval 2 41 v2 rfl rfl) h2;obtain⟨ops,ho,hoi,hos⟩:=open_opsP (hval 3 22 v3 rfl rfl) h3
 have small2:Small d2 41:=fun m hm=>by
  have:=List.all_eq_true.1 hsz2 _ (DataW.weights_mem_each (j:=2) rfl rfl m hm)
  simpa using this
 have small3:Small d3 22:=fun m hm=>by
  have:=List.all_eq_true.1 hsz2 _ (DataW.weights_mem_each (j:=3) rfl rfl m hm)
  simpa using this
 have hlz:=hls small2;have hn:=hos small3;clear hA0 hval0;simp only [List.append_nil,List.nil_append] at hW';refine(loads_walk refs v1 v2 v3 cs l ops W hc hl (fun x hx=>szp_of (hlz x hx)) (fun x hx y hy=>((hlf x hx).1 y hy).1) ho (fits_of hoi hn)).mono fun e W' ⟨he,hs,hst⟩=> ?_
 subst he;have hh:=heap_of_sat hs
 exact⟨_,rfl,_,_,_,[],_,[],hW',trodAll_cons_mk (shut_bool Tryz.underlying4 _) trodAll_mk0,trodAll_mk4 (shut_int Tryz.underlying3 w0) (stays hh (by kernel_rfl) (of_decide_eq_true (by kernel_rfl)) h1 (fun x hx=>hW'.lt x (by simp [hx]))) (stays hh (by kernel_rfl) (of_decide_eq_true (by kernel_rfl)) h2 (fun x hx=>hW'.lt x (by simp [hx]))) (stays hh (by kernel_rfl) (of_decide_eq_true (by kernel_rfl)) h3 (fun x hx=>hW'.lt x (by simp [hx]))),rfl,kept_of hst hh _,fun h=>by cases h⟩
theorem over:Rows.vaultLoadsRow.holds Tryz.pinned (OpenSpec.ofChange Rows.vaultLoadsSpec):=
 OpenClaim.holds_of_wide 7 Tryz.f7 rfl rfl rfl rfl rfl rfl rfl ⟨rfl,rfl,rfl,rfl,rfl⟩ rfl rfl rfl rfl rfl (by kernel_rfl) Tryz.func7 (by kernel_rfl)
  (of_decide_eq_true (by kernel_rfl)) (by unfold Func.isWrapper;first | (rw [if_pos (by decide+kernel)];kernel_rfl) | (rw [if_neg (by decide+kernel)];exact⟨rfl,rfl⟩))
  (fun os started H enc _=>lifted os started H enc)
theorem proved:Rows.VaultLoadsSaid:=
 over
#print axioms proved
end Go.Proofs.YtbobcmimkonnoaaGreat.vaultLoads
