/- The plain functions that impl's lines is told by. -/
import Derived.Test.YtbppeepihlajoaaDoorL18
import Derived.Test.YtbppeepihlajoaaDoorL19
import Derived.Test.YtbppeepihlajoaaDoorXCh
import Derived.Test.YtbppeepihlajoaaDoorXLc
import Derived.Test.YtbppeepihlajoaaDoorXOne
namespace Go.Proofs.YtbppeepihlajoaaDoor.P
open Go.RowKit Go.Proofs.YtbppeepihlajoaaDoorW.PrintWords
set_option linter.unusedVariables false
def lnC (prev : Option Int) (c : Int) (x : Bool) : Int × Bool :=
 if x = true then (match prev with | some d => if d = 1 ∨ d = 2 ∨ d = 4 then (0, false) else (d, true) | none => (0, false)) else (c, false)
def ln1 (k : Nat) : List Int → Option Int → Option (List (Int × Bool))
 | [], _ => some []
 | p :: r, prev => (zax.f k p).bind fun c => (impl_isMark.f k p).bind fun m => (ln1 k r (some (lnC prev c (m || (p == 7936))).1)).bind fun t => some (lnC prev c (m || (p == 7936)) :: t)
def lastC (pre : List (Int × Bool)) : Option Int := pre.getLast?.map (·.1)
theorem lastC_snoc (pre : List (Int × Bool)) (x : Int × Bool) : lastC (pre ++ [x]) = some x.1 := by simp [lastC]
theorem lastC_some (pre : List (Int × Bool)) (i : Nat) (h : pre.length = i + 1) : lastC pre = some ((pre.map (·.1)).getD i 0) := by
 unfold lastC
 rw [List.getLast?_eq_getElem?, h]
 simp [List.getD_eq_getElem?_getD, List.getElem?_eq_getElem (l := pre) (i := i) (by omega)]
def digP (l cl bs : List Int) : Bool := (decide (1 < bs.length) && oneB (rd l (rd bs ((bs.length : Int) - 1))) [44, 46]) && (rd cl (rd bs ((bs.length : Int) - 2)) == 9)
def ln2 (l cl : List Int) (tk ch : List Bool) : Nat → Nat → List Int → Int → Bool → Bool → List (Bool × Bool)
 | 0, _, _, _, _, _ => []
 | m + 1, i, bs, flags, opn, gap =>
  (if i = 0 then (false, false) else lnB (rdOf false tk i) (rdOf false ch i) (rd l ((i : Int) - 1)) (rd l i) (rd cl i) (rd cl ((i : Int) - 1)) gap opn (digP l cl bs) flags) ::
  (if rdOf false tk i = true then ln2 l cl tk ch m (i + 1) bs flags opn gap
   else ln2 l cl tk ch m (i + 1) (bs ++ [(i : Int)]) (if rd cl i = 12 then wrap64 (flags + 1) else 0) (if rd cl i = 2 then opn else (rd cl i == 6)) (if rd cl i = 2 then gap else (rd cl i == 4)))
end Go.Proofs.YtbppeepihlajoaaDoor.P
