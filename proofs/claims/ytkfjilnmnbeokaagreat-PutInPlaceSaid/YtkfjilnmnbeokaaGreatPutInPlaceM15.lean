/- blob.Load at a value that stands on pages; the conditions stand as hypotheses. -/
import Derived.Test.YtkfjilnmnbeokaaGreatPutInPlaceM12
set_option maxRecDepth 100000
set_option maxHeartbeats 16000000
namespace Go.Proofs.YtkfjilnmnbeokaaGreat.U4
open ChangeShapes WideShapes ChangeAt RowKit Sl Cop D2 D3 J3 V3 G2 J2 X3 Y3 E4 G4 L4 M4 N4
theorem row_room {F:Pr}{w:World}(T:Nat)(z:Value)(n:Nat)(hn:n≤maxLen)(h:Sat F w):
 Sat ((Row T 1 (.slice (some ⟨w.heap.size,0,none⟩) 0 n) 0 []).star F) (w.alloc (.cells (madeCells #[z] n) T)):=by
 have h1:=h.alloc (.cells (madeCells #[z] n) T);refine Row.mk' (xs:= []) (sp:=List.replicate n z) (by simp) (by simp) (Nat.zero_le _) hn ?_;rw [List.nil_append, ← made_rep];exact h1
end Go.Proofs.YtkfjilnmnbeokaaGreat.U4
