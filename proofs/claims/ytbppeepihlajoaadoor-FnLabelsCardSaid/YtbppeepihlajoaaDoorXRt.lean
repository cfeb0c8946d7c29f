/- Labels come back, 2: the points are put in as they were told. -/
import Derived.Test.YtbppeepihlajoaaDoorXRtD
import Derived.Test.YtbppeepihlajoaaDoorXLbR
import Derived.Test.YtbppeepihlajoaaDoorXWr
namespace Go.Proofs.YtbppeepihlajoaaDoor.P
open Go.RowKit Go.Proofs.YtbppeepihlajoaaDoorW.PrintWords Go.Proofs.YtbppeepihlajoaaDoorW.PrintMore
set_option linter.unusedVariables false
def putS (n : Int) (pre rest : List Int) : List Int := pre.filter (fun p => decide (p ≤ n)) ++ rest.filter (fun p => decide (p < n))
def putP (n : Int) (pre : List Int) : Int := ((pre.filter (fun p => decide (p ≤ n))).length : Int)
theorem putS_len (n : Int) (pre rest : List Int) : (putS n pre rest).length ≤ pre.length + rest.length := by
 unfold putS
 rw [List.length_append]
 exact Nat.add_le_add (List.length_filter_le _ _) (List.length_filter_le _ _)
theorem putS_snoc_lt (n c : Int) (pre r : List Int) (h : c < n) : putS n (pre ++ [c]) r = putS n pre (c :: r) := by
 unfold putS
 rw [List.filter_append, List.filter_cons, List.filter_nil, if_pos (decide_eq_true (by omega)), List.filter_cons, if_pos (decide_eq_true h), List.append_assoc]
 rfl
theorem putS_snoc_gt (n c : Int) (pre r : List Int) (h : n < c) : putS n (pre ++ [c]) r = putS n pre (c :: r) := by
 unfold putS
 rw [List.filter_append, List.filter_cons, List.filter_nil, if_neg (by simpa using h), List.filter_cons, if_neg (by simp; omega), List.append_nil]
theorem putP_snoc_le (n c : Int) (pre : List Int) (h : c ≤ n) : putP n (pre ++ [c]) = putP n pre + 1 := by
 unfold putP
 rw [List.filter_append, List.filter_cons, List.filter_nil, if_pos (decide_eq_true h), List.length_append]
 simp
theorem putP_snoc_gt (n c : Int) (pre : List Int) (h : n < c) : putP n (pre ++ [c]) = putP n pre := by
 unfold putP
 rw [List.filter_append, List.filter_cons, List.filter_nil, if_neg (by simpa using h), List.append_nil]
theorem putS_ins (n : Int) (pre r : List Int) : insAt (putS n pre (n :: r)) (putP n pre).toNat n = putS n (pre ++ [n]) r := by
 unfold putS putP insAt
 rw [List.filter_append, List.filter_cons (x := n) (xs := []), List.filter_nil, if_pos (decide_eq_true (Int.le_refl n)), List.filter_cons, if_neg (by simp), Int.toNat_natCast, List.take_left, List.drop_left, List.append_assoc]
 rfl
theorem putS_one (n : Int) (pre r : List Int) : (putS n pre (n :: r)).length ≤ pre.length + r.length := by
 unfold putS
 rw [List.filter_cons, if_neg (by simp), List.length_append]
 exact Nat.add_le_add (List.length_filter_le _ _) (List.length_filter_le _ _)
theorem putP_le (n : Int) (pre rest : List Int) : putP n pre ≤ ((putS n pre rest).length : Int) := by
 unfold putP putS
 rw [List.length_append]
 omega
theorem putP_nonneg (n : Int) (pre : List Int) : 0 ≤ putP n pre := by unfold putP; omega
theorem decOut_step (a0 : ByteArray) (j j' : Nat) (hj : j < a0.size) (L : List Int) (hL : L.length < 1000) (n0 at0 b d n P b' : Int) (first : Bool)
  (hin : Ev (fun k => decIn b k (a0.extract j a0.size) at0 1 36) (some (a0.extract j' a0.size, at0 + d)))
  (hb : Ev (fun k => impl_bias_adapt.f k b d ((L.length : Int) + 1) first) b')
  (d0 : 0 ≤ d) (d1 : d ≤ 2000000000) (at1 : 0 ≤ at0) (at2 : at0 ≤ 2000) (n1 : 0 ≤ n0) (n2 : n0 ≤ n) (hn : isPt n = true) (hP0 : 0 ≤ P) (hP1 : P ≤ (L.length : Int))
  (hinv : at0 + d = P + ((L.length : Int) + 1) * (n - n0)) {R : ByteArray × Bool}
  (hgo : Ev (fun k => decOut a0 k (a0.extract j' a0.size) (insAt L P.toNat n) n (P + 1) b' false) R) :
  Ev (fun k => decOut a0 k (a0.extract j a0.size) L n0 at0 b first) R := by
 have hn' := isPt_iff.1 hn
 have e1 : wrap64 (at0 + d - at0) = d := by rw [w64 (by omega) (by omega)]; omega
 have e2 : Int.tdiv (at0 + d) ((L.length : Int) + 1) = n - n0 := by
  rw [Int.tdiv_eq_ediv_of_nonneg (by omega), hinv, Int.add_mul_ediv_left _ _ (by omega), Int.ediv_eq_zero_of_lt hP0 (by omega), Int.zero_add]
 have e3 : Int.tmod (at0 + d) ((L.length : Int) + 1) = P := by
  rw [Int.tmod_eq_emod_of_nonneg (by omega), hinv, Int.add_mul_emod_self_left, Int.emod_eq_of_lt hP0 (by omega)]
 have e4 : wrap64 (n - n0) = n - n0 := w64 (by omega) (by omega)
 have e5 : wrap64 (n0 + (n - n0)) = n := by rw [w64 (by omega) (by omega)]; omega
 refine Ev.step (fun k => by rw [decOut]) (Ev.pos (by omega) (Ev.neg (by rw [cutB_size]; omega) (Ev.bind hin ?_)))
 simp only [e1, e2, e3, e4, e5]
 refine Ev.bind hb (Ev.bind (Ev.done (iPoint_eq n)) ?_)
 rw [hn]
 exact Ev.neg (by simp) (Ev.neg (by omega) (Ev.pos hP0 hgo))
end Go.Proofs.YtbppeepihlajoaaDoor.P
