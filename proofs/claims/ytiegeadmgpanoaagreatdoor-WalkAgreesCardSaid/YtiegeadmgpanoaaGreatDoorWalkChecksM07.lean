/- The pool: Undo; the conditions stand as hypotheses. -/
import Derived.Test.YtiegeadmgpanoaaGreatDoorWalkChecksM06
set_option maxRecDepth 100000
set_option maxHeartbeats 16000000
namespace Go.Cop
def Trail(s:PoolS):List Int→List (Int × Int)→List Int→Prop
 | c0,[],c1=>c0=c1
 | c0,a :: l,c1=>({ s with counts:=c0 }:PoolS).there a.1∧0≤({ s with counts:=c0 }:PoolS).count a.1∧({ s with counts:=c0 }:PoolS).count a.1≤65536∧(-65536≤a.2∧a.2≤65536)∧
     Trail s (({ s with counts:=c0 }:PoolS).turn a.1 a.2).counts l c1
end Go.Cop
namespace Go.Proofs.YtiegeadmgpanoaaGreatDoor.M3
open ChangeShapes WideShapes ChangeAt RowKit Sl Cop D2 F3 G3 J3 K3
end Go.Proofs.YtiegeadmgpanoaaGreatDoor.M3
namespace Go.Proofs.YtiegeadmgpanoaaGreatDoor.N3
open ChangeShapes WideShapes ChangeAt RowKit Sl Cop D2 F3 G3 J3 K3 M3
theorem row_cut {T n c m:Nat}{a:Option Addr}{xs:List Value}{F:Pr}{w:World}(h:Sat ((Row T 1 (.slice a n c) n xs).star F) w)(hm:m≤n):Sat ((Row T 1 (.slice a m c) m (xs.take m)).star F) w:=by
 refine h.mono fun x hx=> ?_
 obtain⟨hl,(⟨e,hn,hx⟩ | ⟨b,cap,sp,e,h1,h2,h3,h4⟩)⟩:=hx
 · cases e
   have:m=0:=by omega
   subst this;exact⟨by simp,.inl ⟨rfl,rfl,hx⟩⟩
 · cases e
   refine⟨by simp;omega,.inr ⟨b,c,xs.drop m++sp,rfl,by simp;omega,by omega,h3,?_⟩⟩;rw [← List.append_assoc,List.take_append_drop];exact h4
end Go.Proofs.YtiegeadmgpanoaaGreatDoor.N3
