/- Written by a program of this session: plain Lean functions for Go functions, and for each the proof that the call comes to what the function says. -/
import Derived.Test.YtbppeepihlajoaaDoorB0
namespace Go.Proofs.YtbppeepihlajoaaDoor.P
open Go.RowKit Go.Proofs.YtbppeepihlajoaaDoorW.PrintWords Go.Proofs.YtbppeepihlajoaaDoorW.PrintLast Go.Proofs.YtbppeepihlajoaaDoorW.PrintMore
attribute [local go_sem] max2_int min2_int max_two min_two max_three min_three max_four min_four
set_option linter.unusedVariables false
set_option linter.unusedSimpArgs false
mutual
def zas.j0 : Nat → Int → Int → Option (Int)
 | 0, _, _ => none
 | k + 1, x0, x1 => if x1 = 0 then (none) else (zas.l0 k (wrap64 (x0 + (wrap64 (Int.tdiv x0 x1)))) 0)
def zas.l0 : Nat → Int → Int → Option (Int)
 | 0, _, _ => none
 | k + 1, x0, x7 => if x0 > 455 then (zas.l0 k (wrap64 (Int.tdiv x0 35)) (wrap64 (x7 + 36))) else (if (wrap64 (x0 + 38)) = 0 then (none) else (some (wrap64 (x7 + (wrap64 (Int.tdiv (wrap64 (36 * x0)) (wrap64 (x0 + 38))))))))
end
def zas.f (k : Nat) (a0 : Int) (a1 : Int) (a2 : Bool) : Option (Int) := if a2 = true then (zas.j0 k (wrap64 (Int.tdiv a0 700)) a1) else (zas.j0 k (wrap64 (Int.tdiv a0 2)) a1)
theorem zas.mono_l : ∀ k, (∀ y0 y1, LeO (zas.j0 k y0 y1) (zas.j0 (k + 1) y0 y1)) ∧ (∀ y0 y1, LeO (zas.l0 k y0 y1) (zas.l0 (k + 1) y0 y1))
 | 0 => ⟨fun _ _ r h => by simp [zas.j0] at h, fun _ _ r h => by simp [zas.l0] at h⟩
 | k + 1 => by
  obtain ⟨ih0, ih1⟩ := zas.mono_l k
  refine ⟨?_, ?_⟩
  ·intro y0 y1
   unfold zas.j0
   repeat' first
   | (with_reducible exact ih0 _ _)
   | (with_reducible exact ih1 _ _)
   | (with_reducible exact LeO.refl _)
   | (with_reducible exact LeO.none _)
   | (with_reducible refine LeO.ite ?_ ?_)
   | (with_reducible refine LeO.bind ?_ (fun _ => ?_))
   | exact ih0 _ _
   | exact ih1 _ _
   | exact LeO.none _
   | refine LeO.ite ?_ ?_
   | refine LeO.bind ?_ (fun _ => ?_)
  intro y0 y1
  unfold zas.l0
  repeat' first
  | (with_reducible exact ih0 _ _)
  | (with_reducible exact ih1 _ _)
  | (with_reducible exact LeO.refl _)
  | (with_reducible exact LeO.none _)
  | (with_reducible refine LeO.ite ?_ ?_)
  | (with_reducible refine LeO.bind ?_ (fun _ => ?_))
  | exact ih0 _ _
  | exact ih1 _ _
  | exact LeO.none _
  | refine LeO.ite ?_ ?_
  | refine LeO.bind ?_ (fun _ => ?_)
theorem zas.mono : ∀ a0 a1 a2 k, LeO (zas.f k a0 a1 a2) (zas.f (k + 1) a0 a1 a2) := by
 intro a0 a1 a2 k
 obtain ⟨ih0, ih1⟩ := zas.mono_l k
 unfold zas.f
 repeat' first
   | (with_reducible exact ih0 _ _)
   | (with_reducible exact ih1 _ _)
   | (with_reducible exact LeO.refl _)
   | (with_reducible exact LeO.none _)
   | (with_reducible refine LeO.ite ?_ ?_)
   | (with_reducible refine LeO.bind ?_ (fun _ => ?_))
   | exact ih0 _ _
   | exact ih1 _ _
   | exact LeO.none _
   | refine LeO.ite ?_ ?_
   | refine LeO.bind ?_ (fun _ => ?_)
set_option maxHeartbeats 8000000 in
set_option maxRecDepth 100000 in
theorem zas.calls (k : Nat) (a0 : Int) (a1 : Int) (a2 : Bool) (r : Int) (w : World) (h : zas.f k a0 a1 a2 = some r) :
  Calls Tryd.prog 100 #[.int .i64 a0, .int .i64 a1, .bool a2] w fun e w' => e = .returned (.int .i64 r) ∧ zaQ w w' := by
 have H : (if a2 = true then (zas.j0 k (wrap64 (Int.tdiv a0 700)) a1) else (zas.j0 k (wrap64 (Int.tdiv a0 2)) a1)) = some r := h
 clear h; have HC4 := zac.mk H; clear H
 go_enter Tryd.func100, Tryd.ntmps100
 go_upto_if 8 with (fail)
 go_cut [0] (fun v0 wc => ∃ (kq : Nat) (x0_3 : Int), v0 = .int .i64 x0_3 ∧ zac (zas.j0 kq x0_3 a1 = some r) ∧ zac (kq ≤ k) ∧ zaQ w wc)
 case first =>
  have H := HC4.out; clear HC4
  by_cases c5 : a2 = true
  ·subst c5
   replace H : (zas.j0 k (wrap64 (Int.tdiv a0 700)) a1) = some r := by rw [if_pos rfl] at H; exact H
   have H' := zac.mk H; clear H
   go_wp2
   go_meet
   case rel => exact ⟨_, (wrap64 (Int.tdiv a0 700)), (by first | rfl | (simp; done) | (simp [*]; done)), H', ⟨by first | omega | exact Nat.le_refl _⟩, by repeat (first | exact zaQ.refl _ | apply zaQ.step)⟩
  replace c5 := Bool.eq_false_iff.mpr c5
  subst c5
  replace H : (zas.j0 k (wrap64 (Int.tdiv a0 2)) a1) = some r := by rw [if_neg (show ¬ (false = true) by decide)] at H; exact H
  have H' := zac.mk H; clear H
  go_wp2
  go_meet
  case rel => exact ⟨_, (wrap64 (Int.tdiv a0 2)), (by first | rfl | (simp; done) | (simp [*]; done)), H', ⟨by first | omega | exact Nat.le_refl _⟩, by repeat (first | exact zaQ.refl _ | apply zaQ.step)⟩
 case rest =>
  clear HC4
  obtain ⟨kq, x0_3, rfl, HA, HJ3, ⟨mc3, rfl⟩⟩ := hcut
  cases kq with
  | zero => exact absurd HA.out (by simp [zas.j0])
  | succ kj3 =>
   have H := HA.out; clear HA
   simp only [zas.j0] at H
   by_cases c6 : a1 = 0
   ·rw [if_pos c6] at H
    exact absurd H (by simp)
   rw [if_neg c6] at H
   have c6b0 : (a1 == 0) = false := beq_eq_false_iff_ne.mpr c6
   have c6b1 : (a1 != 0) = true := bne_iff_ne.mpr c6
   have H' := zac.mk H; clear H
   go_wp2
   go_loopg [0, 7] kj3 (fun kq v0 v7 w' => ∃ (x0_2 : Int) (x7_2 : Int), v0 = .int .i64 x0_2 ∧ v7 = .int .i64 x7_2 ∧ zac (zas.l0 kq x0_2 x7_2 = some r) ∧ zac (kq ≤ kj3) ∧ zaQ w w')
   case atStart => exact ⟨(wrap64 (x0_3 + (wrap64 (Int.tdiv x0_3 a1)))), (0), (by first | rfl | (simp; done) | (simp [*]; done)), (by first | rfl | (simp; done) | (simp [*]; done)), H', ⟨Nat.le_refl _⟩, by repeat (first | exact zaQ.refl _ | apply zaQ.step)⟩
   case round =>
    clear H'
    try clear c6
    try clear c6b0
    try clear c6b1
    obtain ⟨x0_2, x7_2, rfl, rfl, HA, HK2, ⟨m2, rfl⟩⟩ := hrel
    cases gk with
    | zero => exact absurd HA.out (by simp [zas.l0])
    | succ k2 =>
     have H := HA.out; clear HA
     simp only [zas.l0] at H
     by_cases c7 : x0_2 > 455
     ·rw [if_pos c7] at H
      have c7b0 : decide (455 < x0_2) = true := decide_eq_true c7
      clear c7; have H' := zac.mk H; clear H
      go_wp2
      go_roundg k2
      case measure => have := HJ3.out; have := HK2.out; omega
      case rel => exact ⟨(wrap64 (Int.tdiv x0_2 35)), (wrap64 (x7_2 + 36)), (by first | rfl | (simp; done) | (simp [*]; done)), (by first | rfl | (simp; done) | (simp [*]; done)), H', ⟨by have := HJ3.out; have := HK2.out; omega⟩, by repeat (first | exact zaQ.refl _ | apply zaQ.step)⟩
     rw [if_neg c7] at H
     have c7b0 : decide (455 < x0_2) = false := decide_eq_false c7
     clear c7
     by_cases c8 : (wrap64 (x0_2 + 38)) = 0
     ·rw [if_pos c8] at H
      exact absurd H (by simp)
     rw [if_neg c8] at H
     have c8b0 : ((wrap64 (x0_2 + 38)) == 0) = false := beq_eq_false_iff_ne.mpr c8
     have c8b1 : ((wrap64 (x0_2 + 38)) != 0) = true := bne_iff_ne.mpr c8
     obtain rfl := Option.some.inj H
     go_wp2
     go_ret
     exact ⟨by first | rfl | (simp; done) | (simp [*]; done), by repeat (first | exact zaQ.refl _ | apply zaQ.step)⟩
end Go.Proofs.YtbppeepihlajoaaDoor.P
