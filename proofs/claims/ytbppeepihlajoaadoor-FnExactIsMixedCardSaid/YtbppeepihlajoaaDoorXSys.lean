/- The program's systemOf: a digit's system, and how much it counts. -/
import Derived.Test.YtbppeepihlajoaaDoorM7
import Derived.Test.YtbppeepihlajoaaDoorXG
namespace Go.Proofs.YtbppeepihlajoaaDoor.P
open Go.RowKit Go.Proofs.YtbppeepihlajoaaDoorW.PrintWords Go.Proofs.YtbppeepihlajoaaDoorW.PrintLast Go.Proofs.YtbppeepihlajoaaDoorW.PrintMore
set_option linter.unusedVariables false
set_option linter.unusedSimpArgs false
theorem in_dec (p a b : Int) : impl_in.f p a b = some (decide (a ≤ p ∧ p ≤ b)) := by
  unfold impl_in.f
  by_cases h1 : p ≥ a
  · rw [if_pos h1]
    congr 1
    rw [decide_eq_decide]
    omega
  · rw [if_neg h1]
    congr 1
    symm
    rw [decide_eq_false_iff_not]
    omega
/-- The first row that a point is in, and its place there. -/
def sysIn (p : Int) : Nat → List Int → Int × Int
  | _, [] => (-1, -1)
  | i, r :: t => if r ≤ p ∧ p ≤ r + 9 then ((i : Int), p - r) else sysIn p (i + 1) t
def impl_systemOf.f (a0 : Int) : Option (Int × Int) := some (sysIn a0 0 rowsL)
set_option maxHeartbeats 2000000 in
theorem impl_systemOf.calls (a0 : Int) (r1 r2 : Int) (w : World) (hG : GT w) (h : impl_systemOf.f a0 = some (r1, r2)) :
    Calls Tryd.prog 59 #[.int .i64 a0] w fun e w' => e = .returned (.tuple #[.int .i64 r1, .int .i64 r2]) ∧ Drawn0 w w' := by
  have h' : sysIn a0 0 rowsL = (r1, r2) := Option.some.inj h
  obtain ⟨⟨ab, ao, asp⟩, cap, hcap, hv, hc⟩ := hG.2
  have HC := Aside0.mk hc
  have HS := Aside0.mk h'
  clear h h' hc hG
  go_enter Tryd.func59, Tryd.ntmps59
  go_wp2
  go_loopw [8] (fun v8 w' => ∃ (i : Nat), v8 = .int .i64 i ∧ i ≤ 7 ∧ Aside0 (sysIn a0 i (rowsL.drop i) = (r1, r2)) ∧ Drawn0 w w') (fun v _ => 7 - (intOf v).toNat)
  case atStart => exact ⟨0, rfl, by omega, ⟨by rw [List.drop_zero]; exact HS.out⟩, by repeat (first | exact Drawn0.refl _ | apply Drawn0.step)⟩
  case round =>
    obtain ⟨i, rfl, hi, HE, ⟨m, rfl⟩⟩ := hrel
    by_cases hlt : i < 7
    · have hx := HC.out i hlt
      have hl7 : i < rowsL.length := hlt
      have hE := HE.out
      rw [List.drop_eq_getElem_cons hl7] at hE
      have er : rowsL.getD i 0 = rowsL[i] := by simp [hl7]
      have hbd : 0 ≤ rowsL[i] ∧ rowsL[i] ≤ 10016 := by
        have : ∀ x ∈ rowsL, 0 ≤ x ∧ x ≤ 10016 := by decide
        exact this _ (List.getElem_mem hl7)
      rw [er] at hx
      unfold sysIn at hE
      generalize rowsL[i] = r at *
      clear HE er hl7
      by_cases hin : r ≤ a0 ∧ a0 ≤ r + 9
      · rw [if_pos hin] at hE
        injection hE with e1 e2
        subst e1 e2
        go_wp2_with (fail)
        refine (impl_in.calls a0 r (r + 9) true _ (by rw [in_dec, decide_eq_true hin])).mono ?_
        rintro e w4 ⟨rfl, ⟨m4, rfl⟩⟩
        go_wp2
        go_ret2
        exact ⟨rfl, by repeat (first | exact Drawn0.refl _ | apply Drawn0.step)⟩
      · rw [if_neg hin] at hE
        have HE := Aside0.mk hE
        clear hE
        go_wp2_with (fail)
        refine (impl_in.calls a0 r (r + 9) false _ (by rw [in_dec, decide_eq_false hin])).mono ?_
        rintro e w4 ⟨rfl, ⟨m4, rfl⟩⟩
        go_wp2
        go_roundw
        case rel => exact ⟨i + 1, by go_num, by omega, HE, by repeat (first | exact Drawn0.refl _ | apply Drawn0.step)⟩
        case measure => simp [intOf]; omega
    · obtain rfl : i = 7 := by omega
      have hE := HE.out
      have e7 : sysIn a0 7 (rowsL.drop 7) = (-1, -1) := rfl
      rw [e7] at hE
      injection hE with e1 e2
      subst e1 e2
      clear HE
      go_wp2
      go_ret2
      exact ⟨rfl, by repeat (first | exact Drawn0.refl _ | apply Drawn0.step)⟩
end Go.Proofs.YtbppeepihlajoaaDoor.P
