/- VaultCounts answers true, whatever number and whatever row of calls are handed in. There is no condition. -/
import Derived.Test.YtpfafhklppondaaGreatVaultCountsM50
import Derived.Test.YtpfafhklppondaaGreatRows
import Derived.WalkKit
import Derived.ProofKit
import Derived.OpenShut
set_option maxRecDepth 100000
set_option maxHeartbeats 16000000
namespace Go.Proofs.YtpfafhklppondaaGreat.vaultCounts
open ChangeShapes WideShapes ChangeAt RowKit Sl Cop Q2 X2 X5 Y5 P6 S6 C9 Kx
theorem own:ownKnob Tryz.prog.godebug=none:=by kernel_rfl
theorem lifted(os:Os)(started:os.Started)(H:Type)(enc:TypeId × Value→H):
 ReturnsInHanded {} Tryz.checked os 3 .any (Rows.vaultCountsSpec.pre6 enc Tryz.prog Tryz.f3 Rows.vaultCountsRow.domain false) (Rows.vaultCountsSpec.post enc Tryz.prog Tryz.f3 false true false false):=by
 refine returnsInHanded_of_change_sized (C:=Tryz.checked) own started (by kernel_rfl) Tryz.func3
  (ChangeSpec.witness6 (enc:=enc) (C:=Tryz.checked) false ⟨#[], #[.int .i64 0,.slice none 0 0],[]⟩ 8 (by kernel_rfl) (by kernel_rfl) (by kernel_rfl) (by kernel_rfl)) ?_
 intro W base args ds gs before hval0 hW hcnd hsz _;have hval:∀(j:Nat) t v,Tryz.f3.params[j]? =some t→args[j]? =some v→Value.okWide Tryz.prog W .any base t v:=hval0;have hW':=hW;obtain⟨p,q,hA0,hV,rfl,hfz,hnd⟩:=hW;have hA:DataW.TrodAll enc Tryz.prog W 0 (fun _=>true) true Tryz.f3.params.toList args.toList ds p:=hA0
 have hsz2:(DataW.weightsEach Tryz.prog (Tryz.f3.params.toList++Rows.vaultCountsSpec.plain.varTypes Tryz.prog) (ds++gs)).all (· ≤reachBytes)=true:=hsz;rw [Tryz.params3] at hA hval hsz2;obtain⟨v0,v1,d0,d1,p0,p1,rfl,rfl,rfl,h0,h1⟩:=trodAll_two hA;obtain⟨rfl,rfl⟩:=trodVars_none hV;obtain⟨pages,rfl,rfl,rfl,w0⟩:=open_int Tryz.underlying3 (hval 0 3 v0 rfl rfl) h0
 obtain⟨ops,ho,hoi,hos⟩:=open_opsP (hval 1 22 v1 rfl rfl) h1;clear hA0 hval0;simp only [List.append_nil,List.nil_append] at hW';refine(counts_walk pages v1 ops W ho).mono fun e W' ⟨he,hs,hst⟩=> ?_
 subst he;have hh:=heap_of_sat hs;exact⟨_,rfl,_,_,_,[],_,[],hW',trodAll_cons_mk (shut_bool Tryz.underlying4 _) trodAll_mk0,trodAll_mk2 (shut_int Tryz.underlying3 w0) (stays hh (by kernel_rfl) (of_decide_eq_true (by kernel_rfl)) h1 (fun x hx=>hW'.lt x hx)),rfl,kept_of hst hh _,fun h=>by cases h⟩
theorem over:Rows.vaultCountsRow.holds Tryz.pinned (OpenSpec.ofChange Rows.vaultCountsSpec):=
 OpenClaim.holds_of_wide 3 Tryz.f3 rfl rfl rfl rfl rfl rfl rfl ⟨rfl,rfl,rfl,rfl,rfl⟩ rfl rfl rfl rfl rfl (by kernel_rfl) Tryz.func3 (by kernel_rfl)
  (of_decide_eq_true (by kernel_rfl)) (by unfold Func.isWrapper;first | (rw [if_pos (by decide+kernel)];kernel_rfl) | (rw [if_neg (by decide+kernel)];exact⟨rfl,rfl⟩))
  (fun os started H enc _=>lifted os started H enc)
theorem proved:Rows.VaultCountsSaid:=
 over
#print axioms proved
end Go.Proofs.YtpfafhklppondaaGreat.vaultCounts
