/- Plain notions: the state of a pool of pages, and its laws. No program in sight, no condition. -/
namespace Go.Cop

/-- The number of a page's state. -/
def stateOf (c : Int) (l : Bool) : Int := if 0 < c then (if l then 4 else 3) else (if l then 2 else 1)

/-- A pool. -/
structure PoolS where
  refs : Int
  counts : List Int
  last : List Bool
  acts : List (Int × Int)
  floor : Int

def PoolS.there (s : PoolS) (n : Int) : Prop := 1 ≤ n ∧ n ≤ s.counts.length
instance (s : PoolS) (n : Int) : Decidable (s.there n) := by unfold PoolS.there; infer_instance
def PoolS.count (s : PoolS) (n : Int) : Int := if s.there n then s.counts.getD (n.toNat - 1) 0 else 0
def PoolS.lasts (s : PoolS) (n : Int) : Bool := s.last.getD (n.toNat - 1) false
def PoolS.state (s : PoolS) (n : Int) : Int := if s.there n then stateOf (s.count n) (s.lasts n) else 0
/-- How many pages are in a state. -/
def PoolS.many (s : PoolS) (k : Int) : Nat := ((s.counts.zip s.last).filter fun x => stateOf x.1 x.2 == k).length
def PoolS.tally (s : PoolS) (k : Int) : Int := if k < 1 ∨ 4 < k then 0 else s.many k
def PoolS.mark (s : PoolS) : Int := s.floor + s.acts.length

theorem stateOf_bounds (c : Int) (l : Bool) : 1 ≤ stateOf c l ∧ stateOf c l ≤ 4 := by
  unfold stateOf; split <;> split <;> omega
end Go.Cop
