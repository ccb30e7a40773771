/- How many pages a value takes; the calls whose answers are fixed. -/
import Derived.Test.YtkfjilnmnbeokaaGreatPutInPlaceM15
import Derived.Lib.SmallJoins
import Derived.Deep.Slices
import Derived.WideKeyArgs
set_option maxRecDepth 100000
set_option maxHeartbeats 16000000
namespace Go.Proofs.YtkfjilnmnbeokaaGreat.Z4
open ChangeShapes WideShapes ChangeAt RowKit Sl Cop D2 D3 J3 V3 G2 J2 X3 Y3 E4 G4 L4 M4 N4 U4
def pagesOf(n:Int):Int:=if n≤32 then 0 else(n-1) / 480+1
def longV:List Int:=(List.replicate 500 0).set 499 7
end Go.Proofs.YtkfjilnmnbeokaaGreat.Z4
namespace Go.Proofs.YtkfjilnmnbeokaaGreat.D5
open ChangeShapes WideShapes ChangeAt RowKit Sl
def heapOf(w:World):Hp:=fun k=>w.heap[k]?
theorem sat_heap(w:World):Sat (Pr.own (heapOf w)) w:=⟨heapOf w,rfl,fun _ _ e=>e⟩
theorem heap_of_sat {w w':World}(h:Sat (Pr.own (heapOf w)) w'):∀k,k<w.heap.size→w'.heap[k]? =w.heap[k]? :=by
 obtain⟨x,rfl,hl⟩:=h;intro k hk;have e:heapOf w k=some w.heap[k]:=Array.getElem?_eq_getElem hk;rw [hl k _ e];exact e.symm
theorem kept_of {w w':World}(hs:Stays w w')(h:∀k,k<w.heap.size→w'.heap[k]? =w.heap[k]?)(may:MemPlace→Prop):w.keptBut w' may:=by
 refine⟨hs.os,hs.output,fun i hi=> ?_⟩;rw [h i hi];cases w.heap[i]? with
 | none=>rfl
 | some o=>cases o<;>simp
end Go.Proofs.YtkfjilnmnbeokaaGreat.D5
namespace Go.Proofs.YtkfjilnmnbeokaaGreat.E5
open ChangeShapes WideShapes ChangeAt RowKit Sl Cop Deep G2 D5
theorem laidOut:laidOutB Tryz.prog=true:=by kernel_rfl
theorem heap_cell {w:World}{b i:Nat}{v:Value}(h:w.cell? ⟨b,i,none⟩=some v):(heapOf w).cell b i=some v:=by
 unfold World.cell? at h;unfold Hp.cell heapOf;simp only at h;cases hb:w.heap[b]? with
 | none=>rw [hb] at h;simp at h
 | some o=>
   rw [hb] at h;cases o<;>simp_all
section
variable {H:Type}{enc:TypeId × Value→H}
theorem cells_u8:Tryz.prog.cellsOf 5=1:=by kernel_rfl
theorem stays {W W':World}(hh:∀k,k<W.heap.size→W'.heap[k]? =W.heap[k]?){t:TypeId}(hr:Tryz.prog.readableRec t=true)(ht:t<Tryz.prog.types.size){v:Value}{d:DataW H}{p:List MemPlace}
 (h:DataW.Trod enc Tryz.prog W 0 (fun _=>true) true t v d p) (hp:∀x∈p,x.block<W.heap.size):DataW.Trod enc Tryz.prog W' 0 (fun x=>decide (x<W.heap.size)) true t v d p:=
 WideElems.Trod_stays (P:=Tryz.prog) laidOut hr ht h
  (fun x hx=>by
    have hlt:=hp x hx
    cases x with
    | cell b o=>
      show W'.cell? ⟨b,o,none⟩=W.cell? ⟨b,o,none⟩
      unfold World.cell?
      rw [hh b hlt]
    | map b=>exact hh b hlt)
  (fun x hx=>by simpa using hp x hx)
end
end Go.Proofs.YtkfjilnmnbeokaaGreat.E5
