/- VaultTwo answers true, whatever two vaults, rows of calls and turns are handed in. There is no condition. -/
import Derived.Test.YtbobcmimkonnoaaGreatVaultTwoM01
import Derived.Test.YtbobcmimkonnoaaGreatRows
import Derived.WalkKit
import Derived.ProofKit
import Derived.OpenShut
set_option maxRecDepth 100000
set_option maxHeartbeats 16000000
namespace Go.Proofs.YtbobcmimkonnoaaGreat.vaultTwo
open ChangeShapes WideShapes ChangeAt RowKit Sl Cop Deep G2 M2 P4 Q4 Jz Kz Z9 Lz Nz
theorem own:ownKnob Tryz.prog.godebug=none:=by kernel_rfl
theorem cells_two:Tryz.prog.cellsOf 45=2:=by kernel_rfl
theorem cells_twoS:Tryz.prog.cellsOf 46=2:=by kernel_rfl
theorem cells_opS:Tryz.prog.cellsOf 22=1:=by kernel_rfl
theorem cells_bool:Tryz.prog.cellsOf 4=1:=by kernel_rfl
theorem cells_intT:Tryz.prog.cellsOf 3=1:=by kernel_rfl
theorem bytes_bool:Tryz.prog.bytesOf 4=1:=by kernel_rfl
theorem fits_of {l:List OpP}(hi:∀o∈l,OpPI o)(hz:∀o∈l,PageSized o.g):∀o∈l,OpPFits o:=by
 intro o ho
 obtain⟨⟨_,_,hk⟩,hf⟩:=hi o ho
 obtain⟨h1,h2,h3⟩:=hz o ho
 refine⟨hk,⟨?_,?_,?_⟩,fun x hx=>(hf.1 x hx).1⟩
 · unfold reachBytes at h1;omega
 · intro x hx
   have:=h2 x hx
   unfold ItemSized reachBytes at this
   exact this
 · unfold reachBytes at h3;exact h3
theorem okWide_arr {W:World}{base:Nat}{t e:TypeId}{n:Nat}{v:Value}(ht:Tryz.prog.underlying t=some (.array n e))(h:Value.okWide Tryz.prog W .any base t v):∃cs,v= .agg cs∧cs.size=Tryz.prog.cellsOf t:=by
 simp only [Value.okWide,ht] at h
 obtain⟨cs,h1,h2,_⟩:=h
 exact⟨cs,h1,h2⟩
section
variable {H:Type}{enc:TypeId × Value→H}
theorem open_two {W:World}{base:Nat}{v:Value}{d:DataW H}{p:List MemPlace}(hval:Value.okWide Tryz.prog W .any base 45 v)(h:DataW.Trod enc Tryz.prog W 0 (fun _=>true) true 45 v d p):∃a b:Int,v= .agg #[.int .i64 a,.int .i64 b]:=by
 obtain⟨⟨cs⟩,rfl,hl⟩:=okWide_arr Tryz.underlying45 hval
 rw [cells_two] at hl
 obtain⟨n,hn⟩:=h
 obtain⟨xs,m,_,_,_,hlen,hf⟩:=DataW.trod_array Tryz.underlying45 hn
 rw [cells_intT] at hf
 match cs,hl with
 | [c0,c1],_=>
   match xs,hlen with
   | [x0,x1],_=>
     have f0:=hf 0 (by omega)
     have f1:=hf 1 (by omega)
     simp [Value.cells] at f0 f1
     obtain⟨a,rfl, -⟩:=int_of f0
     obtain⟨b,rfl, -⟩:=int_of f1
     exact⟨a,b,rfl⟩
theorem open_scripts {W:World}{base:Nat}{v:Value}{d:DataW H}{p:List MemPlace}(hval:Value.okWide Tryz.prog W .any base 46 v)(h:DataW.Trod enc Tryz.prog W 0 (fun _=>true) true 46 v d p):
 ∃(vx vy:Value) (xs ys:List OpP),v= .agg #[vx,vy]∧(OpsP (heapOf W) vx xs∧(∀o∈xs,OpPI o))∧(OpsP (heapOf W) vy ys∧(∀o∈ys,OpPI o))∧(Small d 46→(∀o∈xs,PageSized o.g)∧∀o∈ys,PageSized o.g):=by
 obtain⟨⟨cs⟩,rfl,hl⟩:=okWide_arr Tryz.underlying46 hval
 rw [cells_twoS] at hl
 obtain⟨n,hn⟩:=h
 obtain⟨xs,m,_,hx,_,hlen,hf⟩:=DataW.trod_array Tryz.underlying46 hn
 rw [cells_opS] at hf
 match cs,hl with
 | [c0,c1],_=>
   match xs,hlen with
   | [x0,x1],_=>
     have f0:=hf 0 (by omega)
     have f1:=hf 1 (by omega)
     simp [Value.cells] at f0 f1
     obtain⟨l0,h0,i0,s0⟩:=opsP_of f0
     obtain⟨l1,h1,i1,s1⟩:=opsP_of f1
     simp only [Prod.mk.injEq] at hx
     obtain⟨rfl, -⟩:=hx
     refine⟨c0,c1,l0,l1,rfl,⟨h0,i0⟩,⟨h1,i1⟩,fun hw=>⟨s0 fun m hm=>hw m ?_,s1 fun m hm=>hw m ?_⟩⟩
     · simp only [DataW.weights,Tryz.underlying46,List.map_cons,List.map_nil,DataW.weightsAll,List.mem_append]
       exact .inl hm
     · simp only [DataW.weights,Tryz.underlying46,List.map_cons,List.map_nil,DataW.weightsAll,List.mem_append]
       exact .inr (.inl hm)
theorem bool_of {W:World}{base n:Nat}{v:Value}{x:DataW H × List MemPlace}(h:DataW.trod enc Tryz.prog W base (fun _=>true) true n 4 [v]=some x):∃b,v= .bool b:=by
 cases n with
 | zero=>simp [DataW.trod] at h
 | succ n=>
   unfold DataW.trod at h
   rw [Tryz.underlying4] at h
   cases v with
   | bool b=>exact⟨b,rfl⟩
   | _=>simp at h
theorem open_turns {W:World}{base:Nat}{v:Value}{d:DataW H}{p:List MemPlace}(hval:Value.okWide Tryz.prog W .any base 47 v)(h:DataW.Trod enc Tryz.prog W 0 (fun _=>true) true 47 v d p):
 ∃ts:List Bool,RowIn (heapOf W) 1 v ts.length (ts.map Value.bool)∧(Small d 47→ts.length≤140737488351232):=by
 obtain⟨a,len,cap,rfl⟩:=okWide_slice Tryz.underlying47 hval
 obtain⟨n,hn⟩:=h
 obtain⟨len2,n',C,D,Pl,hC,hr,hs⟩:=rows_of Tryz.underlying47 cells_bool (by omega) hn
 obtain⟨Y,hY⟩:=choose_lt (α:=Bool) (n:=len2) (p:=fun i y=>C i= [.bool y]) (fun i hi=>by
  obtain⟨h1,h2⟩:=hC i hi
  match hc:C i,h1 with
  | [c],_=>
    rw [hc] at h2
    obtain⟨b,rfl⟩:=bool_of h2
    exact⟨b,rfl⟩)
 refine⟨(List.range len2).map Y,?_,fun hw=> ?_⟩
 · have e1:(List.range len2).flatMap C=((List.range len2).map Y).map Value.bool:=by
    rw [List.map_map]
    rw [show (List.range len2).flatMap C=(List.range len2).flatMap fun i=> [Value.bool (Y i)] from flatMap_congr_range fun i hi=>hY i hi]
    exact List.map_eq_flatMap.symm
   rw [← e1]
   simpa using hr
 · have:=(hs hw).1
   rw [bytes_bool] at this
   unfold reachBytes at this
   simpa using this
end
theorem lifted(os:Os)(started:os.Started)(H:Type)(enc:TypeId × Value→H):
 ReturnsInHanded {} Tryz.checked os 5 .any (Rows.vaultTwoSpec.pre6 enc Tryz.prog Tryz.f5 Rows.vaultTwoRow.domain false) (Rows.vaultTwoSpec.post enc Tryz.prog Tryz.f5 false true false false):=by
 refine returnsInHanded_of_change_sized (C:=Tryz.checked) own started (by kernel_rfl) Tryz.func5
  (ChangeSpec.witness6 (enc:=enc) (C:=Tryz.checked) false ⟨#[], #[.agg #[.int .i64 0,.int .i64 0],.agg #[.int .i64 0,.int .i64 0],.agg #[.slice none 0 0,.slice none 0 0],.slice none 0 0],[]⟩ 8 (by kernel_rfl) (by kernel_rfl) (by kernel_rfl) (by kernel_rfl)) ?_
 intro W base args ds gs before hval0 hW hcnd hsz _
 have hval:∀(j:Nat) t v,Tryz.f5.params[j]? =some t→args[j]? =some v→Value.okWide Tryz.prog W .any base t v:=hval0
 have hW':=hW
 obtain⟨p,q,hA0,hV,rfl,hfz,hnd⟩:=hW
 have hA:DataW.TrodAll enc Tryz.prog W 0 (fun _=>true) true Tryz.f5.params.toList args.toList ds p:=hA0
 have hsz2:(DataW.weightsEach Tryz.prog (Tryz.f5.params.toList++Rows.vaultTwoSpec.plain.varTypes Tryz.prog) (ds++gs)).all (· ≤reachBytes)=true:=hsz
 rw [Tryz.params5] at hA hval hsz2
 obtain⟨v0,v1,v2,v3,d0,d1,d2,d3,q0,q1,q2,q3,rfl,rfl,rfl,h0,h1,h2,h3⟩:=trodAll_four hA
 obtain⟨rfl,rfl⟩:=trodVars_none hV
 obtain⟨p0,p1,rfl⟩:=open_two (hval 0 45 v0 rfl rfl) h0
 obtain⟨r0,r1,rfl⟩:=open_two (hval 1 45 v1 rfl rfl) h1
 obtain⟨vx,vy,xs,ys,rfl,⟨hx,hxi⟩,⟨hy,hyi⟩,hxy⟩:=open_scripts (hval 2 46 v2 rfl rfl) h2
 obtain⟨ts,ht,hts⟩:=open_turns (hval 3 47 v3 rfl rfl) h3
 have small2:Small d2 46:=fun m hm=>by
  have:=List.all_eq_true.1 hsz2 _ (DataW.weights_mem_each (j:=2) rfl rfl m hm)
  simpa using this
 have small3:Small d3 47:=fun m hm=>by
  have:=List.all_eq_true.1 hsz2 _ (DataW.weights_mem_each (j:=3) rfl rfl m hm)
  simpa using this
 obtain⟨z1,z2⟩:=hxy small2
 have z3:=hts small3
 clear hA0 hval0
 simp only [List.append_nil] at hW'
 refine(two_walk p0 p1 r0 r1 vx vy v3 xs ys ts W hx hy (fits_of hxi z1) (fits_of hyi z2) ht z3).mono fun e W' ⟨he,hs,hst⟩=> ?_
 subst he
 have hh:=heap_of_sat hs
 exact⟨_,rfl,_,_,_,[],_,[],hW',trodAll_cons_mk (shut_bool Tryz.underlying4 _) trodAll_mk0,trodAll_mk4 (stays hh (by kernel_rfl) (of_decide_eq_true (by kernel_rfl)) h0 (fun x hx=>hW'.lt x (by simp [hx]))) (stays hh (by kernel_rfl) (of_decide_eq_true (by kernel_rfl)) h1 (fun x hx=>hW'.lt x (by simp [hx]))) (stays hh (by kernel_rfl) (of_decide_eq_true (by kernel_rfl)) h2 (fun x hx=>hW'.lt x (by simp [hx]))) (stays hh (by kernel_rfl) (of_decide_eq_true (by kernel_rfl)) h3 (fun x hx=>hW'.lt x (by simp [hx]))),rfl,kept_of hst hh _,fun h=>by cases h⟩
theorem over:Rows.vaultTwoRow.holds Tryz.pinned (OpenSpec.ofChange Rows.vaultTwoSpec):=
 OpenClaim.holds_of_wide 5 Tryz.f5 rfl rfl rfl rfl rfl rfl rfl ⟨rfl,rfl,rfl,rfl,rfl⟩ rfl rfl rfl rfl rfl (by kernel_rfl) Tryz.func5 (by kernel_rfl)
  (of_decide_eq_true (by kernel_rfl)) (by unfold Func.isWrapper;first | (rw [if_pos (by decide+kernel)];kernel_rfl) | (rw [if_neg (by decide+kernel)];exact⟨rfl,rfl⟩))
  (fun os started H enc _=>lifted os started H enc)
theorem proved:Rows.VaultTwoSaid:=
 over
#print axioms proved
end Go.Proofs.YtbobcmimkonnoaaGreat.vaultTwo
