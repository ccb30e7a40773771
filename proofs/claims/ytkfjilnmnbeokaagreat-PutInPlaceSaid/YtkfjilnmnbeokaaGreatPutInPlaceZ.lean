/- PutInPlace answers true, whatever length, whatever row of steps and whatever last step are handed in. There is no condition. -/
import Derived.Test.YtkfjilnmnbeokaaGreatPutInPlaceM45
import Derived.Test.YtkfjilnmnbeokaaGreatPutInPlaceM20
import Derived.Test.YtkfjilnmnbeokaaGreatRows
import Derived.WalkKit
import Derived.ProofKit
import Derived.OpenShut
set_option maxRecDepth 100000
set_option maxHeartbeats 16000000
namespace Go.Proofs.YtkfjilnmnbeokaaGreat.putInPlace
open ChangeShapes WideShapes ChangeAt RowKit Sl Cop Deep G2 J2 D5 E5 X5 Dy
theorem own:ownKnob Tryz.prog.godebug=none:=by kernel_rfl
theorem cells_op:Tryz.prog.cellsOf 53=4:=by kernel_rfl
instance:Inhabited OpV:=⟨⟨0,0,[],[]⟩⟩
section
variable {H:Type}{enc:TypeId × Value→H}
def OpFits(o:OpV):Prop:=U8 o.key∧U8 o.value
def OpSized(o:OpV):Prop:=o.key.length≤reachBytes∧o.value.length≤reachBytes
theorem op_of {W:World}{base n:Nat}{cs:List Value}{x:DataW H × List MemPlace}(h:DataW.trod enc Tryz.prog W base (fun _=>true) true n 53 cs=some x):
 ∃(y:OpV) (kv vv:Value),cs= [.int .i64 y.kind,.int .i64 y.t,kv,vv]∧(Bytes (heapOf W) kv y.key∧Bytes (heapOf W) vv y.value)∧OpFits y∧(Small x.1 53→OpSized y):=by
 obtain⟨xs,m,rfl,rfl,hl,hlen,hf⟩:=DataW.trod_struct Tryz.underlying53 h;rw [cells_op] at hl;match cs,hl with
 | [c0,c1,c2,c3],_=>
   match xs,hlen with
   | [x0,x1,x2,x3],_=>
     have f0:=hf 0 _ rfl;have f1:=hf 1 _ rfl;have f2:=hf 2 _ rfl;have f3:=hf 3 _ rfl;simp only [List.getElem?_cons_zero,List.getElem?_cons_succ] at f0 f1 f2 f3;obtain⟨c,rfl,hc⟩:=int_of f0;obtain⟨s,rfl,hs⟩:=int_of f1;obtain⟨K,hk,uk,sk⟩:=bytes_sz f2;obtain⟨V,hv,uv,sv⟩:=bytes_sz f3;refine⟨⟨c,s,K,V⟩,c2,c3,rfl,⟨hk,hv⟩,⟨uk,uv⟩,fun hw=>⟨sk fun m hm=>hw m ?_,sv fun m hm=>hw m ?_⟩⟩
     · simp only [DataW.weights,Tryz.underlying53,List.map_cons,List.map_nil,DataW.weightsEach,List.mem_append]
       exact .inr (.inr (.inl hm))
     · simp only [DataW.weights,Tryz.underlying53,List.map_cons,List.map_nil,DataW.weightsEach,List.mem_append]
       exact .inr (.inr (.inr (.inl hm)))
theorem open_op {W:World}{base:Nat}{v:Value}{d:DataW H}{p:List MemPlace}(hval:Value.okWide Tryz.prog W .any base 53 v)(h:DataW.Trod enc Tryz.prog W 0 (fun _=>true) true 53 v d p):
 ∃(y:OpV) (kv vv:Value),v= .agg #[.int .i64 y.kind,.int .i64 y.t,kv,vv]∧(Bytes (heapOf W) kv y.key∧Bytes (heapOf W) vv y.value)∧OpFits y∧(Small d 53→OpSized y):=by
 obtain⟨a,rfl,_⟩:=okWide_struct Tryz.underlying53 hval;obtain⟨n,hn⟩:=h;obtain⟨y,kv,vv,e,h1,h3,h4⟩:=op_of hn;obtain⟨cs⟩:=a;simp only [Value.cells] at e;subst e;exact⟨y,kv,vv,rfl,h1,h3,h4⟩
theorem ops_of {W:World}{base n:Nat}{v:Value}{x:DataW H × List MemPlace}(h:DataW.trod enc Tryz.prog W base (fun _=>true) true n 51 [v]=some x):
 ∃l:List OpV,OpsIn (heapOf W) v l∧(∀y∈l,OpFits y)∧(Small x.1 51→∀y∈l,OpSized y):=by
 obtain⟨len,n',C,D,Pl,hC,hr,hs⟩:=rows_of Tryz.underlying51 cells_op (by omega) h
 obtain⟨Y,hY⟩:=choose_lt (α:=OpV × Value × Value) (n:=len) (p:=fun i y=>C i= [.int .i64 y.1.kind,.int .i64 y.1.t,y.2.1,y.2.2]∧(Bytes (heapOf W) y.2.1 y.1.key∧Bytes (heapOf W) y.2.2 y.1.value)∧OpFits y.1∧(Small (D i) 53→OpSized y.1)) (fun i hi=>by
  obtain⟨y,kv,vv,e,h1,h3,h4⟩:=op_of (hC i hi).2
  exact⟨(y,kv,vv),e,h1,h3,h4⟩)
 refine⟨(List.range len).map fun i=>(Y i).1,⟨(List.range len).map fun i=>(Y i).2,by simp,?_,?_⟩,?_,fun hw=> ?_⟩
 · rw [zip_range]
   have e1:(List.range len).flatMap C=((List.range len).map fun i=>((Y i).2,(Y i).1)).flatMap opCells:=by
    rw [List.flatMap_map];exact flatMap_congr_range fun i hi=>(hY i hi).1
   rw [← e1];simpa using hr
 · intro i hx hl
   simp at hl
   simp only [List.getElem_map,List.getElem_range];exact(hY i hl).2.1
 · intro y hy
   obtain⟨i,hi,rfl⟩:=List.mem_map.1 hy;exact(hY i (List.mem_range.1 hi)).2.2.1
 · intro y hy
   obtain⟨i,hi,rfl⟩:=List.mem_map.1 hy;exact(hY i (List.mem_range.1 hi)).2.2.2 ((hs hw).2 i (List.mem_range.1 hi))
theorem open_ops {W:World}{base:Nat}{v:Value}{d:DataW H}{p:List MemPlace}(hval:Value.okWide Tryz.prog W .any base 51 v)(h:DataW.Trod enc Tryz.prog W 0 (fun _=>true) true 51 v d p):
 ∃l:List OpV,OpsIn (heapOf W) v l∧(∀y∈l,OpFits y)∧(Small d 51→∀y∈l,OpSized y):=by
 obtain⟨a,len,cap,rfl⟩:=okWide_slice Tryz.underlying51 hval;obtain⟨n,hn⟩:=h;exact ops_of hn
end
theorem lifted(os:Os)(started:os.Started)(H:Type)(enc:TypeId × Value→H):
 ReturnsInHanded {} Tryz.checked os 4 .any (Rows.putInPlaceSpec.pre6 enc Tryz.prog Tryz.f4 Rows.putInPlaceRow.domain false) (Rows.putInPlaceSpec.post enc Tryz.prog Tryz.f4 false true false false):=by
 refine returnsInHanded_of_change_sized (C:=Tryz.checked) own started (by kernel_rfl) Tryz.func4
  (ChangeSpec.witness6 (enc:=enc) (C:=Tryz.checked) false ⟨#[], #[.int .i64 0,.slice none 0 0,.agg #[.int .i64 0,.int .i64 0,.slice none 0 0,.slice none 0 0]],[]⟩ 8 (by kernel_rfl) (by kernel_rfl) (by kernel_rfl) (by kernel_rfl)) ?_
 intro W base args ds gs before hval0 hW hcnd hsz _;have hval:∀(j:Nat) t v,Tryz.f4.params[j]? =some t→args[j]? =some v→Value.okWide Tryz.prog W .any base t v:=hval0;have hW':=hW;obtain⟨p,q,hA0,hV,rfl,hfz,hnd⟩:=hW;have hA:DataW.TrodAll enc Tryz.prog W 0 (fun _=>true) true Tryz.f4.params.toList args.toList ds p:=hA0
 have hsz2:(DataW.weightsEach Tryz.prog (Tryz.f4.params.toList++Rows.putInPlaceSpec.plain.varTypes Tryz.prog) (ds++gs)).all (· ≤reachBytes)=true:=hsz;rw [Tryz.params4] at hA hval hsz2;obtain⟨v0,v1,v2,d0,d1,d2,p0,p1,p2,rfl,rfl,rfl,h0,h1,h2⟩:=trodAll_three hA;obtain⟨rfl,rfl⟩:=trodVars_none hV;obtain⟨len,rfl,rfl,rfl,w0⟩:=open_int Tryz.underlying3 (hval 0 3 v0 rfl rfl) h0
 obtain⟨l,ho,hof,hos⟩:=open_ops (hval 1 51 v1 rfl rfl) h1;obtain⟨y,kv,vv,rfl,⟨hk,hv⟩,hyf,hys⟩:=open_op (hval 2 53 v2 rfl rfl) h2
 have hsmall1:Small d1 51:=fun m hm=>by
  have:=List.all_eq_true.1 hsz2 _ (DataW.weights_mem_each (j:=1) rfl rfl m hm)
  simpa using this
 have hsmall2:Small d2 53:=fun m hm=>by
  have:=List.all_eq_true.1 hsz2 _ (DataW.weights_mem_each (j:=2) rfl rfl m hm)
  simpa using this
 have hn1:=hos hsmall1;have hn2:=hys hsmall2;clear hA0 hval0;simp only [List.append_nil,List.nil_append] at hW';have hF:OwnL [Pr.own (heapOf W),Pr.emp] W:=⟨(sat_heap W).perm (by simp only [starL,Pr.star_emp])⟩
 refine(inplace_walk len (heapOf W) v1 l ho (fun x hx=>⟨(hof x hx).1,by have:=(hn1 x hx).1;unfold reachBytes at this;omega,by have:=(hn1 x hx).2;unfold reachBytes at this;omega⟩) y kv vv hk hv ⟨hyf.1,by have:=hn2.1;unfold reachBytes at this;omega,by have:=hn2.2;unfold reachBytes at this;omega⟩ Pr.emp W hF).mono fun e W' ⟨he,hst,hs⟩=> ?_
 subst he;have hh:=heap_of_sat (hs.sat.perm (B:=Pr.own (heapOf W)) (by simp only [starL,Pr.star_emp]))
 exact⟨_,rfl,_,_,_,[],_,[],hW',trodAll_cons_mk (shut_bool Tryz.underlying4 _) trodAll_mk0,trodAll_mk3 (shut_int Tryz.underlying3 w0) (stays hh (by kernel_rfl) (of_decide_eq_true (by kernel_rfl)) h1 (fun x hx=>hW'.lt x (List.mem_append_left _ hx))) (stays hh (by kernel_rfl) (of_decide_eq_true (by kernel_rfl)) h2 (fun x hx=>hW'.lt x (List.mem_append_right _ hx))),rfl,kept_of hst hh _,fun h=>by cases h⟩
theorem over:Rows.putInPlaceRow.holds Tryz.pinned (OpenSpec.ofChange Rows.putInPlaceSpec):=
 OpenClaim.holds_of_wide 4 Tryz.f4 rfl rfl rfl rfl rfl rfl rfl ⟨rfl,rfl,rfl,rfl,rfl⟩ rfl rfl rfl rfl rfl (by kernel_rfl) Tryz.func4 (by kernel_rfl)
  (of_decide_eq_true (by kernel_rfl)) (by unfold Func.isWrapper;first | (rw [if_pos (by decide+kernel)];kernel_rfl) | (rw [if_neg (by decide+kernel)];exact⟨rfl,rfl⟩))
  (fun os started H enc _=>lifted os started H enc)
theorem proved:Rows.PutInPlaceSaid:=
 over
#print axioms proved
end Go.Proofs.YtkfjilnmnbeokaaGreat.putInPlace
