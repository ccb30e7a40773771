/- VaultPlays answers true, whatever numbers and whatever row of calls are handed in. There is no condition. -/
import Derived.Test.YtbobcmimkonnoaaGreatVaultPlaysM45
import Derived.Test.YtbobcmimkonnoaaGreatRows
import Derived.WalkKit
import Derived.ProofKit
import Derived.OpenShut
set_option maxRecDepth 100000
set_option maxHeartbeats 16000000
namespace Go.Proofs.YtbobcmimkonnoaaGreat.vaultPlays
open ChangeShapes WideShapes ChangeAt RowKit Sl Cop G2 M2 P4 Q4 Jz Kz Z9 Lz
theorem own:ownKnob Tryz.prog.godebug=none:=by kernel_rfl
theorem fits_of {l:List OpP}(hi:∀o∈l,OpPI o)(hz:∀o∈l,PageSized o.g):∀o∈l,OpPFits o:=by
 intro o ho
 obtain⟨⟨_,_,hk⟩,hf⟩:=hi o ho
 obtain⟨h1,h2,h3⟩:=hz o ho
 refine⟨hk,⟨?_,?_,?_⟩,fun x hx=>(hf.1 x hx).1⟩
 · unfold reachBytes at h1;omega
 · intro x hx
   have:=h2 x hx
   unfold ItemSized reachBytes at this
   exact this
 · unfold reachBytes at h3;exact h3
theorem lifted(os:Os)(started:os.Started)(H:Type)(enc:TypeId × Value→H):
 ReturnsInHanded {} Tryz.checked os 3 .any (Rows.vaultPlaysSpec.pre6 enc Tryz.prog Tryz.f3 Rows.vaultPlaysRow.domain false) (Rows.vaultPlaysSpec.post enc Tryz.prog Tryz.f3 false true false false):=by
 refine returnsInHanded_of_change_sized (C:=Tryz.checked) own started (by kernel_rfl) Tryz.func3
  (ChangeSpec.witness6 (enc:=enc) (C:=Tryz.checked) false ⟨#[], #[.int .i64 0,.int .i64 0,.slice none 0 0],[]⟩ 8 (by kernel_rfl) (by kernel_rfl) (by kernel_rfl) (by kernel_rfl)) ?_
 intro W base args ds gs before hval0 hW hcnd hsz _
 have hval:∀(j:Nat) t v,Tryz.f3.params[j]? =some t→args[j]? =some v→Value.okWide Tryz.prog W .any base t v:=hval0
 have hW':=hW
 obtain⟨p,q,hA0,hV,rfl,hfz,hnd⟩:=hW
 have hA:DataW.TrodAll enc Tryz.prog W 0 (fun _=>true) true Tryz.f3.params.toList args.toList ds p:=hA0
 have hsz2:(DataW.weightsEach Tryz.prog (Tryz.f3.params.toList++Rows.vaultPlaysSpec.plain.varTypes Tryz.prog) (ds++gs)).all (· ≤reachBytes)=true:=hsz
 rw [Tryz.params3] at hA hval hsz2
 obtain⟨v0,v1,v2,d0,d1,d2,p0,p1,p2,rfl,rfl,rfl,h0,h1,h2⟩:=trodAll_three hA
 obtain⟨rfl,rfl⟩:=trodVars_none hV
 obtain⟨pages,rfl,rfl,rfl,w0⟩:=open_int Tryz.underlying3 (hval 0 3 v0 rfl rfl) h0
 obtain⟨refs,rfl,rfl,rfl,w1⟩:=open_int Tryz.underlying3 (hval 1 3 v1 rfl rfl) h1
 obtain⟨ops,ho,hoi,hos⟩:=open_opsP (hval 2 22 v2 rfl rfl) h2
 have hsmall:Small d2 22:=fun m hm=>by
  have:=List.all_eq_true.1 hsz2 _ (DataW.weights_mem_each (j:=2) rfl rfl m hm)
  simpa using this
 have hn:=hos hsmall
 clear hA0 hval0
 simp only [List.append_nil,List.nil_append] at hW'
 refine(plays_walk pages refs v2 ops W ho (fits_of hoi hn)).mono fun e W' ⟨he,hs,hst⟩=> ?_
 subst he
 have hh:=heap_of_sat hs
 exact⟨_,rfl,_,_,_,[],_,[],hW',trodAll_cons_mk (shut_bool Tryz.underlying4 _) trodAll_mk0,trodAll_mk3 (shut_int Tryz.underlying3 w0) (shut_int Tryz.underlying3 w1) (stays hh (by kernel_rfl) (of_decide_eq_true (by kernel_rfl)) h2 (fun x hx=>hW'.lt x hx)),rfl,kept_of hst hh _,fun h=>by cases h⟩
theorem over:Rows.vaultPlaysRow.holds Tryz.pinned (OpenSpec.ofChange Rows.vaultPlaysSpec):=
 OpenClaim.holds_of_wide 3 Tryz.f3 rfl rfl rfl rfl rfl rfl rfl ⟨rfl,rfl,rfl,rfl,rfl⟩ rfl rfl rfl rfl rfl (by kernel_rfl) Tryz.func3 (by kernel_rfl)
  (of_decide_eq_true (by kernel_rfl)) (by unfold Func.isWrapper;first | (rw [if_pos (by decide+kernel)];kernel_rfl) | (rw [if_neg (by decide+kernel)];exact⟨rfl,rfl⟩))
  (fun os started H enc _=>lifted os started H enc)
theorem proved:Rows.VaultPlaysSaid:=
 over
#print axioms proved
end Go.Proofs.YtbobcmimkonnoaaGreat.vaultPlays
