/- impl's in, as a plain test. -/
import Derived.Test.YtbppeepihlajoaaDoorL13
namespace Go.Proofs.YtbppeepihlajoaaDoor.P
theorem in_dec (p a b : Int) : zaq.f p a b = some (decide (a ≤ p ∧ p ≤ b)) := by
 unfold zaq.f
 by_cases h1 : p ≥ a
 ·rw [if_pos h1]
  congr 1
  rw [decide_eq_decide]
  omega
 rw [if_neg h1]
 congr 1
 symm
 rw [decide_eq_false_iff_not]
 omega
end Go.Proofs.YtbppeepihlajoaaDoor.P
