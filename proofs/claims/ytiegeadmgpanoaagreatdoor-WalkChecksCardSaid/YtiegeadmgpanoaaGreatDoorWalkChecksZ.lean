/- WalkChecks answers true, whatever image is handed in. There is no condition; the program's own variable is tied to its text by the card. -/
import Derived.Test.YtiegeadmgpanoaaGreatDoorWalkChecksM28
import Derived.Test.YtiegeadmgpanoaaGreatDoorWalkChecksM33
import Derived.Test.YtiegeadmgpanoaaGreatDoorCards
import Derived.Test.YtiegeadmgpanoaaGreatDoorTie
import Derived.SevenTiedAt
set_option maxRecDepth 100000
set_option maxHeartbeats 16000000
namespace Go.Proofs.YtiegeadmgpanoaaGreatDoor.walkChecks
open ChangeShapes WideShapes ChangeAt RowKit Sl Cop G2 G5 X3 J4 Q4 S4 L5 V6 V7 W7 F8 Y7
theorem lifted(os:Os)(started:os.Started)(H:Type)(enc:TypeId × Value→H):
 ReturnsInHanded {} Tryz.checked os 3 .any (fun w args=>(Rows.walkChecksSpec.pre enc Tryz.prog Tryz.f3 [] false w args∧laidMetH Tryz.prog laidE w)∧sizedMet enc Tryz.prog Tryz.f3 (OpenSpec.ofChange Rows.walkChecksSpec) false w args)
  (Rows.walkChecksSpec.post enc Tryz.prog Tryz.f3 false true false false):=by
 refine returnsInHanded_of_change_and (C:=Tryz.checked) (X:=fun w _=>laidMetH Tryz.prog laidE w) (fun _ _ _ hh h=>h.of_heap hh) own started (by kernel_rfl) Tryz.func3
  (ChangeSpec.witness_shaped (enc:=enc) (C:=Tryz.checked) (os:=os) (X:=fun w _=>laidMetH Tryz.prog laidE w) false (World.doorLaid Tryz.prog 400 os) #[.agg #[.int .i64 0,.slice none 0 0,.slice none 0 0,.slice none 0 0]] 8 rfl (World.shaped_of_RefB (by kernel_rfl) (by kernel_rfl)) (by kernel_rfl) (by kernel_rfl) (by kernel_rfl) (door_met os _)) ?_
 intro W base args ds gs before hval0 hW _ _ hL _;have hval:∀(j:Nat) t v,Tryz.f3.params[j]? =some t→args[j]? =some v→Value.okWide Tryz.prog W .any base t v:=hval0;have hW':=hW;obtain⟨p,q,hA0,hV,rfl,hfz,hnd⟩:=hW;have hA:DataW.TrodAll enc Tryz.prog W 0 (fun _=>true) true Tryz.f3.params.toList args.toList ds p:=hA0;rw [Tryz.params3] at hA hval;obtain⟨v0,d0,rfl,rfl,h0⟩:=trodAll_one hA
 obtain⟨rfl,rfl⟩:=trodVars_none hV;obtain⟨refs,vc,vl,vt,cs,l,ts,rfl,hc,hl,ht,hlf,htf⟩:=open_image (hval 0 26 v0 rfl rfl) h0;have GE:=every_of hL;clear hA0 hval0;simp only [List.append_nil] at hW';have hF:OwnL [Pr.own (heapOf W),Pr.emp] W:=⟨(sat_heap W).perm (by simp only [starL,Pr.star_emp])⟩
 refine(checks_walk refs (heapOf W) GE vc vl vt cs l ts hc hl ht (fun x hx z hz=>((hlf x hx).1 z hz).1) (nums_bound hl) (trees_bound ht) htf Pr.emp W hF).mono fun e W' ⟨he,hst,hs⟩=> ?_
 subst he;have hh:=heap_of_sat (hs.sat.perm (B:=Pr.own (heapOf W)) (by simp only [starL,Pr.star_emp]));exact⟨_,rfl,_,_,_,[],_,[],hW',trodAll_cons_mk (shut_bool Tryz.underlying4 _) trodAll_mk0,trodAll_mk1 (stays hh (by kernel_rfl) (of_decide_eq_true (by kernel_rfl)) h0 (fun x hx=>hW'.lt x hx)),rfl,kept_of hst hh _,fun h=>by cases h⟩
theorem row_holds:Rows.WalkChecksSaid:=
 OpenClaim.holds_of_wide 3 Tryz.f3 rfl rfl rfl rfl rfl rfl rfl ⟨rfl,rfl,rfl,rfl,rfl⟩ rfl rfl rfl rfl rfl (by kernel_rfl) Tryz.func3 (by kernel_rfl)
  (of_decide_eq_true (by kernel_rfl)) (by unfold Func.isWrapper;first | (rw [if_pos (by decide+kernel)];kernel_rfl) | (rw [if_neg (by decide+kernel)];exact⟨rfl,rfl⟩))
  (fun os started H enc _=>lifted os started H enc)
theorem proved:Rows.WalkChecksCardSaid:=
 Claim7.holds_tied_plain_at .later [] [.widerDeep] true (true,"6c11763ae94a30dc6fb86cd9db1ce635d01dd217546c2d5cb1a41eb3bb4747a3") false
  row_holds (fun _ h=>by cases h) (by kernel_rfl) (fun _ h=>by cases h) walkChecks_row_tie rfl ⟨rfl,rfl⟩ (by kernel_rfl) rfl
  (fun f fn hf hfn=>by
    obtain rfl:f=3:=Option.some.inj ((show Tryz.prog.funcNamed "coppice/coppicelaw14.WalkChecks" =some 3 by kernel_rfl).symm.trans hf) |>.symm
    obtain rfl:fn=Tryz.f3:=(Option.some.inj (Tryz.func3.symm.trans hfn)).symm
    exact⟨by kernel_rfl,fun j t ht=>by
     rw [Tryz.params3] at ht
     have h3:t=26:=by
      rcases j with _ | j
      · simpa using ht.symm
      · simp at ht
     subst h3
     exact(show Tryz.prog.wantsStandIn 26=false by kernel_rfl)⟩)
  (by kernel_rfl)
#print axioms proved
end Go.Proofs.YtiegeadmgpanoaaGreatDoor.walkChecks
