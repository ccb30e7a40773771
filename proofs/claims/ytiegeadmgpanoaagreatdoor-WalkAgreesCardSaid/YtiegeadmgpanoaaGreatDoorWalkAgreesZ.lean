/- WalkAgrees answers true, whatever image, number and row are handed in. There is no condition; the program's own variable is tied to its text by the card. -/
import Derived.Test.YtiegeadmgpanoaaGreatDoorWalkAgreesM07
import Derived.Test.YtiegeadmgpanoaaGreatDoorWalkAgreesM14
import Derived.Test.YtiegeadmgpanoaaGreatDoorCards
import Derived.Test.YtiegeadmgpanoaaGreatDoorTie
import Derived.SevenTiedAt
set_option maxRecDepth 100000
set_option maxHeartbeats 16000000
namespace Go.Proofs.YtiegeadmgpanoaaGreatDoor.walkAgrees
open ChangeShapes WideShapes ChangeAt RowKit Sl Cop G2 G5 X3 J4 Q4 S4 L5 V6 V7 W7 E9 Y7 L8
theorem lifted(os:Os)(started:os.Started)(H:Type)(enc:TypeId × Value→H):
 ReturnsInHanded {} Tryz.checked os 5 .any (fun w args=>(Rows.walkAgreesSpec.pre enc Tryz.prog Tryz.f5 [] false w args∧laidMetH Tryz.prog laidE w)∧sizedMet enc Tryz.prog Tryz.f5 (OpenSpec.ofChange Rows.walkAgreesSpec) false w args)
  (Rows.walkAgreesSpec.post enc Tryz.prog Tryz.f5 false true false false):=by
 refine returnsInHanded_of_change_and (C:=Tryz.checked) (X:=fun w _=>laidMetH Tryz.prog laidE w) (fun _ _ _ hh h=>h.of_heap hh) own started (by kernel_rfl) Tryz.func5
  (ChangeSpec.witness_shaped (enc:=enc) (C:=Tryz.checked) (os:=os) (X:=fun w _=>laidMetH Tryz.prog laidE w) false (World.doorLaid Tryz.prog 400 os) #[.agg #[.int .i64 0,.slice none 0 0,.slice none 0 0,.slice none 0 0],.int .i64 0,.slice none 0 0] 8 rfl (World.shaped_of_RefB (by kernel_rfl) (by kernel_rfl)) (by kernel_rfl) (by kernel_rfl) (by kernel_rfl) (door_met os _)) ?_
 intro W base args ds gs before hval0 hW _ hsz hL _;have hval:∀(j:Nat) t v,Tryz.f5.params[j]? =some t→args[j]? =some v→Value.okWide Tryz.prog W .any base t v:=hval0;have hW':=hW;obtain⟨p,q,hA0,hV,rfl,hfz,hnd⟩:=hW;have hA:DataW.TrodAll enc Tryz.prog W 0 (fun _=>true) true Tryz.f5.params.toList args.toList ds p:=hA0
 have hsz2:(DataW.weightsEach Tryz.prog (Tryz.f5.params.toList++Rows.walkAgreesSpec.plain.varTypes Tryz.prog) (ds++gs)).all (· ≤reachBytes)=true:=hsz;rw [Tryz.params5] at hA hval hsz2;obtain⟨v0,v1,v2,d0,d1,d2,p0,p1,p2,rfl,rfl,rfl,h0,h1,h2⟩:=trodAll_three hA;obtain⟨rfl,rfl⟩:=trodVars_none hV;obtain⟨refs,vc,vl,vt,cs,l,ts,rfl,hc,hl,ht,hlf,htf⟩:=open_image (hval 0 26 v0 rfl rfl) h0
 obtain⟨which,rfl,rfl,rfl,w0⟩:=open_int Tryz.underlying3 (hval 1 3 v1 rfl rfl) h1;obtain⟨_,_,_,rfl⟩:=okWide_slice Tryz.underlying42 (hval 2 42 v2 rfl rfl);obtain⟨n2,hn2⟩:=id h2;obtain⟨cut,hb,hu8,hsm⟩:=bytes_sz hn2
 have hsm2:=hsm (fun m hm=>by
  have:=List.all_eq_true.1 hsz2 _ (DataW.weights_mem_each (j:=2) rfl rfl m hm)
  simpa using this)
 have GE:=every_of hL;clear hA0 hval0;simp only [List.append_nil] at hW';have hF:OwnL [Pr.own (heapOf W),Pr.emp] W:=⟨(sat_heap W).perm (by simp only [starL,Pr.star_emp])⟩;refine(agrees_walk refs which (heapOf W) GE vc vl vt _ cs l ts cut hc hl ht ⟨hb,hu8,by unfold reachBytes at hsm2;omega⟩ (fun x hx z hz=>((hlf x hx).1 z hz).1) (nums_bound hl) Pr.emp W hF).mono fun e W' ⟨he,hst,hs⟩=> ?_
 subst he;have hh:=heap_of_sat (hs.sat.perm (B:=Pr.own (heapOf W)) (by simp only [starL,Pr.star_emp]))
 exact⟨_,rfl,_,_,_,[],_,[],hW',trodAll_cons_mk (shut_bool Tryz.underlying4 _) trodAll_mk0,trodAll_mk3 (stays hh (by kernel_rfl) (of_decide_eq_true (by kernel_rfl)) h0 (fun x hx=>hW'.lt x (List.mem_append_left _ hx))) (shut_int Tryz.underlying3 w0) (stays hh (by kernel_rfl) (of_decide_eq_true (by kernel_rfl)) h2 (fun x hx=>hW'.lt x (List.mem_append_right _ hx))),rfl,kept_of hst hh _,fun h=>by cases h⟩
theorem row_holds:Rows.WalkAgreesSaid:=
 OpenClaim.holds_of_wide 5 Tryz.f5 rfl rfl rfl rfl rfl rfl rfl ⟨rfl,rfl,rfl,rfl,rfl⟩ rfl rfl rfl rfl rfl (by kernel_rfl) Tryz.func5 (by kernel_rfl)
  (of_decide_eq_true (by kernel_rfl)) (by unfold Func.isWrapper;first | (rw [if_pos (by decide+kernel)];kernel_rfl) | (rw [if_neg (by decide+kernel)];exact⟨rfl,rfl⟩))
  (fun os started H enc _=>lifted os started H enc)
theorem proved:Rows.WalkAgreesCardSaid:=
 Claim7.holds_tied_plain_at .later [] [.widerDeep] true (true,"6c11763ae94a30dc6fb86cd9db1ce635d01dd217546c2d5cb1a41eb3bb4747a3") false
  row_holds (fun _ h=>by cases h) (by kernel_rfl) (fun _ h=>by cases h) walkAgrees_row_tie rfl ⟨rfl,rfl⟩ (by kernel_rfl) rfl
  (fun f fn hf hfn=>by
    obtain rfl:f=5:=Option.some.inj ((show Tryz.prog.funcNamed "coppice/coppicelaw14.WalkAgrees" =some 5 by kernel_rfl).symm.trans hf) |>.symm
    obtain rfl:fn=Tryz.f5:=(Option.some.inj (Tryz.func5.symm.trans hfn)).symm
    exact⟨by kernel_rfl,fun j t ht=>by
     rw [Tryz.params5] at ht
     have h3:t=26∨t=3∨t=42:=by
      rcases j with _ | _ | _ | j
      · exact .inl (by simpa using ht.symm)
      · exact .inr (.inl (by simpa using ht.symm))
      · exact .inr (.inr (by simpa using ht.symm))
      · simp at ht
     rcases h3 with rfl | rfl | rfl
     · exact(show Tryz.prog.wantsStandIn 26=false by kernel_rfl)
     · exact(show Tryz.prog.wantsStandIn 3=false by kernel_rfl)
     · exact(show Tryz.prog.wantsStandIn 42=false by kernel_rfl)⟩)
  (by kernel_rfl)
#print axioms proved
end Go.Proofs.YtiegeadmgpanoaaGreatDoor.walkAgrees
