/- WalkLists answers true, whatever image, numbers and ranges are handed in. There is no condition; the program's own variable is tied to its text by the card. -/
import Derived.Test.YtiegeadmgpanoaaGreatDoorL49
import Derived.Test.YtiegeadmgpanoaaGreatDoorCards
import Derived.Test.YtiegeadmgpanoaaGreatDoorTie
set_option maxRecDepth 100000
set_option maxHeartbeats 16000000
namespace Go.Proofs.YtiegeadmgpanoaaGreatDoor.walkLists
open ChangeShapes WideShapes ChangeAt RowKit Sl fB D2 V5 M8 Q8 T8
theorem lifted(os:Os)(started:os.Started)(H:Type)(enc:TypeId × Value→H):
 ReturnsInHanded {} Tryz.checked os 6 .any (fun w args=>(Rows.walkListsSpec.pre enc Tryz.prog Tryz.f6 [] false w args∧laidMetH Tryz.prog D4 w)∧sizedMet enc Tryz.prog Tryz.f6 (OpenSpec.ofChange Rows.walkListsSpec) false w args)
  (Rows.walkListsSpec.post enc Tryz.prog Tryz.f6 false true false false):=by
 refine returnsInHanded_of_change_and (C:=Tryz.checked) (X:=fun w _=>laidMetH Tryz.prog D4 w) (fun _ _ _ hh h=>h.of_heap hh) own started (by kernel_rfl) Tryz.func6
  (ChangeSpec.witness_shaped (enc:=enc) (C:=Tryz.checked) (os:=os) (X:=fun w _=>laidMetH Tryz.prog D4 w) false (World.doorLaid Tryz.prog 400 os) #[.agg #[.int .i64 0,.slice none 0 0,.slice none 0 0,.slice none 0 0],.int .i64 0,.slice none 0 0,.int .i64 0] 8 rfl (World.shaped_of_RefB (by kernel_rfl) (by kernel_rfl)) (by kernel_rfl) (by kernel_rfl) (by kernel_rfl) (Mv os _)) ?_
 intro W base args ds gs before Qc hW _ hsz hL _;have hval:∀(j:Nat) t v,Tryz.f6.params[j]? =some t→args[j]? =some v→Value.okWide Tryz.prog W .any base t v:=Qc;have Xc:=hW;obtain⟨p,q,PV,hV,rfl,hfz,hnd⟩:=hW;have hA:DataW.TrodAll enc Tryz.prog W 0 (fun _=>true) true Tryz.f6.params.toList args.toList ds p:=PV
 have V9:(DataW.weightsEach Tryz.prog (Tryz.f6.params.toList++Rows.walkListsSpec.plain.varTypes Tryz.prog) (ds++gs)).all (· ≤reachBytes)=true:=hsz;rw [Tryz.params6] at hA hval V9;obtain⟨v0,v1,v2,v3,d0,d1,d2,d3,p0,p1,p2,p3,rfl,rfl,rfl,h0,h1,h2,h3⟩:=trodAll_four hA;obtain⟨rfl,rfl⟩:=trodVars_none hV;obtain⟨refs,vc,vl,vt,cs,l,ts,rfl,hc,hl,ht,hlf,htf⟩:=Gl (hval 0 26 v0 rfl rfl) h0
 obtain⟨which,rfl,rfl,rfl,w0⟩:=open_int Tryz.underlying3 (hval 1 3 v1 rfl rfl) h1;obtain⟨kk,rfl,rfl,rfl,w3⟩:=open_int Tryz.underlying3 (hval 3 3 v3 rfl rfl) h3;obtain⟨rg,hr,hb,Qh⟩:=J' (hval 2 72 v2 rfl rfl) h2
 have V_:=Qh (fun m hm=>by
  have:=bC.1 V9 _ (DataW.weights_mem_each (j:=2) rfl rfl m hm)
  simpa using this)
 have GE:=Mx hL;clear PV Qc;simp only [aV] at Xc;have hF:dS [Pr.own (ik W),Pr.emp] W:=⟨(xZ W).perm (by simp only [eJ,Pr.ei])⟩
 refine(Gx refs which kk (ik W) GE vc vl vt v2 cs l ts rg hc hl ht hr (fun x hx=>⟨hb x hx,by have:=(V_ x hx).1;unfold reachBytes at this;omega,by have:=(V_ x hx).2;unfold reachBytes at this;omega⟩) (fun x hx z hz=>((hlf x hx).1 z hz).1) (Gm hl) Pr.emp W hF).mono fun e W' ⟨he,hst,hs⟩=> ?_
 subst he;have hh:=Df (hs.sat.perm (B:=Pr.own (ik W)) (by simp only [eJ,Pr.ei]))
 exact⟨_,rfl,_,_,_,[],_,[],Xc,trodAll_cons_mk (shut_bool Tryz.underlying4 _) trodAll_mk0,trodAll_mk4 (stays hh (by kernel_rfl) (of_decide_eq_true (by kernel_rfl)) h0 (fun x hx=>Xc.lt x (by simp [hx]))) (shut_int Tryz.underlying3 w0) (stays hh (by kernel_rfl) (of_decide_eq_true (by kernel_rfl)) h2 (fun x hx=>Xc.lt x (by simp [hx]))) (shut_int Tryz.underlying3 w3),rfl,Oe hst hh _,fun h=>by cases h⟩
theorem Kb:Rows.WalkListsSaid:=
 OpenClaim.holds_of_wide 6 Tryz.f6 rfl rfl rfl rfl rfl rfl rfl ⟨rfl,rfl,rfl,rfl,rfl⟩ rfl rfl rfl rfl rfl (by kernel_rfl) Tryz.func6 (by kernel_rfl)
  (of_decide_eq_true (by kernel_rfl)) (by unfold Func.isWrapper;first | (rw [if_pos (by decide+kernel)];kernel_rfl) | (rw [if_neg (by decide+kernel)];exact⟨rfl,rfl⟩))
  (fun os started H enc _=>lifted os started H enc)
theorem proved:Rows.WalkListsCardSaid:=
 Claim7.holds_tied_plain_at .later [] [.widerDeep] true (true,"6c11763ae94a30dc6fb86cd9db1ce635d01dd217546c2d5cb1a41eb3bb4747a3") false
  Kb (fun _ h=>by cases h) (by kernel_rfl) (fun _ h=>by cases h) walkLists_row_tie rfl ⟨rfl,rfl⟩ (by kernel_rfl) rfl
  (fun f fn hf hfn=>by
    obtain rfl:f=6:=Option.some.inj ((show Tryz.prog.funcNamed "coppice/coppicelaw14.WalkLists" =some 6 by kernel_rfl).symm.trans hf) |>.symm
    obtain rfl:fn=Tryz.f6:=(Option.some.inj (Tryz.func6.symm.trans hfn)).symm
    exact⟨by kernel_rfl,fun j t ht=>by
     rw [Tryz.params6] at ht
     have h3:t=26∨t=3∨t=72:=by
      rcases j with _ | _ | _ | _ | j
      · exact .inl (by simpa using ht.symm)
      · exact .inr (.inl (by simpa using ht.symm))
      · exact .inr (.inr (by simpa using ht.symm))
      · exact .inr (.inl (by simpa using ht.symm))
      · simp at ht
     rcases h3 with rfl | rfl | rfl
     · exact(show Tryz.prog.wantsStandIn 26=false by kernel_rfl)
     · exact(show Tryz.prog.wantsStandIn 3=false by kernel_rfl)
     · exact(show Tryz.prog.wantsStandIn 72=false by kernel_rfl)⟩)
  (by kernel_rfl)
#print axioms proved
end Go.Proofs.YtiegeadmgpanoaaGreatDoor.walkLists
