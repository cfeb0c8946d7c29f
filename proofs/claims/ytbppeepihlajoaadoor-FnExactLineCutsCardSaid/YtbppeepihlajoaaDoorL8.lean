/- Written by a program of this session: plain Lean functions for Go functions, and for each the proof that the call comes to what the function says. -/
import Derived.Test.YtbppeepihlajoaaDoorL0
import Derived.Test.YtbppeepihlajoaaDoorL1
import Derived.Test.YtbppeepihlajoaaDoorL4
import Derived.Test.YtbppeepihlajoaaDoorL7
namespace Go.Proofs.YtbppeepihlajoaaDoor.P
open Go.RowKit Go.Proofs.YtbppeepihlajoaaDoorW.PrintWords Go.Proofs.YtbppeepihlajoaaDoorW.PrintLast Go.Proofs.YtbppeepihlajoaaDoorW.PrintMore
attribute [local go_sem] max2_int min2_int max_two min_two max_three min_three max_four min_four
set_option linter.unusedVariables false
set_option linter.unusedSimpArgs false
def zbd.j0 : Nat → Int → Int → Bool → Option (Bool)
 | 0, _, _, _ => none
 | k + 1, x6, x11, x28 => if x28 = true then (if x6 = 2 then (some true) else (some (x6 == 3))) else (if x11 = 3 then (some (x6 == 3)) else (if x11 = 5 then (some (x6 == 3)) else (some false)))
def zbd.f (k : Nat) (a0 : Int) (a1 : Int) : Option (Bool) := (zaJ.f k a0).bind fun t220 => ((zaJ.f k a1).bind fun t221 => (if t220 = 1 then (if t221 = 1 then (some true) else (if t221 = 2 then (some true) else (if t221 = 4 then (some true) else (some (t221 == 5))))) else (if t220 = 2 then (zbd.j0 k t221 t220 (t220 == 2)) else (zbd.j0 k t221 t220 (t220 == 4)))))
set_option maxHeartbeats 8000000 in
set_option maxRecDepth 100000 in
theorem zbd.calls (k : Nat) (a0 : Int) (a1 : Int) (r : Bool) (w : World) (h : zbd.f k a0 a1 = some r) :
  Calls Tryd.prog 155 #[.int .i64 a0, .int .i64 a1] w fun e w' => e = .returned (.bool r) ∧ zau w w' := by
 have H : ((zaJ.f k a0).bind fun t220 => ((zaJ.f k a1).bind fun t221 => (if t220 = 1 then (if t221 = 1 then (some true) else (if t221 = 2 then (some true) else (if t221 = 4 then (some true) else (some (t221 == 5))))) else (if t220 = 2 then (zbd.j0 k t221 t220 (t220 == 2)) else (zbd.j0 k t221 t220 (t220 == 4)))))) = some r := h
 clear h; replace H := Option.bind_eq_some_iff.mp H
 obtain ⟨t220, A30, H⟩ := H
 replace H : ((zaJ.f k a1).bind fun t221 => (if t220 = 1 then (if t221 = 1 then (some true) else (if t221 = 2 then (some true) else (if t221 = 4 then (some true) else (some (t221 == 5))))) else (if t220 = 2 then (zbd.j0 k t221 t220 (t220 == 2)) else (zbd.j0 k t221 t220 (t220 == 4))))) = some r := H
 have A3 := zab.mk A30; clear A30; replace H := Option.bind_eq_some_iff.mp H
 obtain ⟨t221, A40, H⟩ := H
 replace H : (if t220 = 1 then (if t221 = 1 then (some true) else (if t221 = 2 then (some true) else (if t221 = 4 then (some true) else (some (t221 == 5))))) else (if t220 = 2 then (zbd.j0 k t221 t220 (t220 == 2)) else (zbd.j0 k t221 t220 (t220 == 4)))) = some r := H
 have A4 := zab.mk A40; clear A40
 by_cases c5 : t220 = 1
 ·rw [if_pos c5] at H
  have c5b0 : (t220 == 1) = true := beq_iff_eq.mpr c5
  have c5b1 : (t220 != 1) = false := bne_eq_false_iff_eq.mpr c5
  clear c5
  by_cases c6 : t221 = 1
  ·rw [if_pos c6] at H
   have c6b0 : (t221 == 1) = true := beq_iff_eq.mpr c6
   have c6b1 : (t221 != 1) = false := bne_eq_false_iff_eq.mpr c6
   clear c6; obtain rfl := Option.some.inj H
   go_enter Tryd.func155, Tryd.ntmps155
   go_wp2_with (first | ((with_reducible refine zae (f := 196) rfl ?_); refine zaB (some 8) rfl rfl Tryd.func196 (by kernel_rfl) rfl #[.int .i64 a0] rfl (by (try simp only [List.map_toArray, List.map_cons, List.map_nil]); first | done | rfl | (simp only [List.length_drop, List.length_take]; rfl)) ?_; (with_reducible refine (zaJ.calls k a0 t220 _ A3.out).mono ?_); rintro e w' ⟨rfl, ⟨nd, rfl⟩⟩; refine ⟨_, rfl, ?_⟩) | ((with_reducible refine zae (f := 196) rfl ?_); refine zaB (some 10) rfl rfl Tryd.func196 (by kernel_rfl) rfl #[.int .i64 a1] rfl (by (try simp only [List.map_toArray, List.map_cons, List.map_nil]); first | done | rfl | (simp only [List.length_drop, List.length_take]; rfl)) ?_; (with_reducible refine (zaJ.calls k a1 t221 _ A4.out).mono ?_); rintro e w' ⟨rfl, ⟨nd, rfl⟩⟩; refine ⟨_, rfl, ?_⟩))
   go_ret
   exact ⟨by first | rfl | (simp; done) | (simp [*]; done), by repeat (first | exact zau.refl _ | apply zau.step)⟩
  rw [if_neg c6] at H
  have c6b0 : (t221 == 1) = false := beq_eq_false_iff_ne.mpr c6
  have c6b1 : (t221 != 1) = true := bne_iff_ne.mpr c6
  by_cases c7 : t221 = 2
  ·rw [if_pos c7] at H
   have c7b0 : (t221 == 2) = true := beq_iff_eq.mpr c7
   have c7b1 : (t221 != 2) = false := bne_eq_false_iff_eq.mpr c7
   clear c7; obtain rfl := Option.some.inj H
   go_enter Tryd.func155, Tryd.ntmps155
   go_wp2_with (first | ((with_reducible refine zae (f := 196) rfl ?_); refine zaB (some 8) rfl rfl Tryd.func196 (by kernel_rfl) rfl #[.int .i64 a0] rfl (by (try simp only [List.map_toArray, List.map_cons, List.map_nil]); first | done | rfl | (simp only [List.length_drop, List.length_take]; rfl)) ?_; (with_reducible refine (zaJ.calls k a0 t220 _ A3.out).mono ?_); rintro e w' ⟨rfl, ⟨nd, rfl⟩⟩; refine ⟨_, rfl, ?_⟩) | ((with_reducible refine zae (f := 196) rfl ?_); refine zaB (some 10) rfl rfl Tryd.func196 (by kernel_rfl) rfl #[.int .i64 a1] rfl (by (try simp only [List.map_toArray, List.map_cons, List.map_nil]); first | done | rfl | (simp only [List.length_drop, List.length_take]; rfl)) ?_; (with_reducible refine (zaJ.calls k a1 t221 _ A4.out).mono ?_); rintro e w' ⟨rfl, ⟨nd, rfl⟩⟩; refine ⟨_, rfl, ?_⟩))
   go_ret
   exact ⟨by first | rfl | (simp; done) | (simp [*]; done), by repeat (first | exact zau.refl _ | apply zau.step)⟩
  rw [if_neg c7] at H
  have c7b0 : (t221 == 2) = false := beq_eq_false_iff_ne.mpr c7
  have c7b1 : (t221 != 2) = true := bne_iff_ne.mpr c7
  by_cases c8 : t221 = 4
  ·rw [if_pos c8] at H
   have c8b0 : (t221 == 4) = true := beq_iff_eq.mpr c8
   have c8b1 : (t221 != 4) = false := bne_eq_false_iff_eq.mpr c8
   clear c8; obtain rfl := Option.some.inj H
   go_enter Tryd.func155, Tryd.ntmps155
   go_wp2_with (first | ((with_reducible refine zae (f := 196) rfl ?_); refine zaB (some 8) rfl rfl Tryd.func196 (by kernel_rfl) rfl #[.int .i64 a0] rfl (by (try simp only [List.map_toArray, List.map_cons, List.map_nil]); first | done | rfl | (simp only [List.length_drop, List.length_take]; rfl)) ?_; (with_reducible refine (zaJ.calls k a0 t220 _ A3.out).mono ?_); rintro e w' ⟨rfl, ⟨nd, rfl⟩⟩; refine ⟨_, rfl, ?_⟩) | ((with_reducible refine zae (f := 196) rfl ?_); refine zaB (some 10) rfl rfl Tryd.func196 (by kernel_rfl) rfl #[.int .i64 a1] rfl (by (try simp only [List.map_toArray, List.map_cons, List.map_nil]); first | done | rfl | (simp only [List.length_drop, List.length_take]; rfl)) ?_; (with_reducible refine (zaJ.calls k a1 t221 _ A4.out).mono ?_); rintro e w' ⟨rfl, ⟨nd, rfl⟩⟩; refine ⟨_, rfl, ?_⟩))
   go_ret
   exact ⟨by first | rfl | (simp; done) | (simp [*]; done), by repeat (first | exact zau.refl _ | apply zau.step)⟩
  rw [if_neg c8] at H
  have c8b0 : (t221 == 4) = false := beq_eq_false_iff_ne.mpr c8
  have c8b1 : (t221 != 4) = true := bne_iff_ne.mpr c8
  obtain rfl := Option.some.inj H
  go_enter Tryd.func155, Tryd.ntmps155
  go_wp2_with (first | ((with_reducible refine zae (f := 196) rfl ?_); refine zaB (some 8) rfl rfl Tryd.func196 (by kernel_rfl) rfl #[.int .i64 a0] rfl (by (try simp only [List.map_toArray, List.map_cons, List.map_nil]); first | done | rfl | (simp only [List.length_drop, List.length_take]; rfl)) ?_; (with_reducible refine (zaJ.calls k a0 t220 _ A3.out).mono ?_); rintro e w' ⟨rfl, ⟨nd, rfl⟩⟩; refine ⟨_, rfl, ?_⟩) | ((with_reducible refine zae (f := 196) rfl ?_); refine zaB (some 10) rfl rfl Tryd.func196 (by kernel_rfl) rfl #[.int .i64 a1] rfl (by (try simp only [List.map_toArray, List.map_cons, List.map_nil]); first | done | rfl | (simp only [List.length_drop, List.length_take]; rfl)) ?_; (with_reducible refine (zaJ.calls k a1 t221 _ A4.out).mono ?_); rintro e w' ⟨rfl, ⟨nd, rfl⟩⟩; refine ⟨_, rfl, ?_⟩))
  go_ret
  exact ⟨by first | rfl | (simp; done) | (simp [*]; done), by repeat (first | exact zau.refl _ | apply zau.step)⟩
 rw [if_neg c5] at H
 have c5b0 : (t220 == 1) = false := beq_eq_false_iff_ne.mpr c5
 have c5b1 : (t220 != 1) = true := bne_iff_ne.mpr c5
 have HC9 := zab.mk H; clear H
 go_enter Tryd.func155, Tryd.ntmps155
 go_upto_if 28 with (first | ((with_reducible refine zae (f := 196) rfl ?_); refine zaB (some 8) rfl rfl Tryd.func196 (by kernel_rfl) rfl #[.int .i64 a0] rfl (by (try simp only [List.map_toArray, List.map_cons, List.map_nil]); first | done | rfl | (simp only [List.length_drop, List.length_take]; rfl)) ?_; (with_reducible refine (zaJ.calls k a0 t220 _ A3.out).mono ?_); rintro e w' ⟨rfl, ⟨nd, rfl⟩⟩; refine ⟨_, rfl, ?_⟩) | ((with_reducible refine zae (f := 196) rfl ?_); refine zaB (some 10) rfl rfl Tryd.func196 (by kernel_rfl) rfl #[.int .i64 a1] rfl (by (try simp only [List.map_toArray, List.map_cons, List.map_nil]); first | done | rfl | (simp only [List.length_drop, List.length_take]; rfl)) ?_; (with_reducible refine (zaJ.calls k a1 t221 _ A4.out).mono ?_); rintro e w' ⟨rfl, ⟨nd, rfl⟩⟩; refine ⟨_, rfl, ?_⟩))
 (try simp only [Act.put, List.setIfInBounds_toArray, List.set_cons_zero, List.set_cons_succ])
 go_cut [28] (fun v28 wc => ∃ (kq : Nat) (x28_8 : Bool), v28 = .bool x28_8 ∧ zab (zbd.j0 kq t221 t220 x28_8 = some r) ∧ zab (kq ≤ k) ∧ zau w wc)
 case first =>
  have H := HC9.out; clear HC9
  by_cases c10 : t220 = 2
  ·rw [if_pos c10] at H
   have c10b0 : (t220 == 2) = true := beq_iff_eq.mpr c10
   have c10b1 : (t220 != 2) = false := bne_eq_false_iff_eq.mpr c10
   clear c10
   (first | rw [c10b0] | rw [c10b1] | (simp only [zbo, i32_w]; rw [c10b0]) | skip)
   have H' := zab.mk H; clear H
   go_wp2
   go_meet
   case rel => exact ⟨_, ((t220 == 2)), (by first | rfl | (simp; done) | (simp [*]; done)), H', ⟨by first | omega | exact Nat.le_refl _⟩, by repeat (first | exact zau.refl _ | apply zau.step)⟩
  rw [if_neg c10] at H
  have c10b0 : (t220 == 2) = false := beq_eq_false_iff_ne.mpr c10
  have c10b1 : (t220 != 2) = true := bne_iff_ne.mpr c10
  (first | rw [c10b0] | rw [c10b1] | (simp only [zbo, i32_w]; rw [c10b0]) | skip)
  have H' := zab.mk H; clear H
  go_wp2
  go_meet
  case rel => exact ⟨_, ((t220 == 4)), (by first | rfl | (simp; done) | (simp [*]; done)), H', ⟨by first | omega | exact Nat.le_refl _⟩, by repeat (first | exact zau.refl _ | apply zau.step)⟩
 case rest =>
  clear HC9
  try clear c5
  try clear c5b0
  try clear c5b1
  obtain ⟨kq, x28_8, rfl, HA, HJ8, ⟨mc8, rfl⟩⟩ := hcut
  cases kq with
  | zero => exact absurd HA.out (by simp [zbd.j0])
  | succ kj8 =>
   have H := HA.out; clear HA
   simp only [zbd.j0] at H
   by_cases c11 : x28_8 = true
   ·subst c11
    replace H : (if t221 = 2 then (some true) else (some (t221 == 3))) = some r := by rw [if_pos rfl] at H; exact H
    by_cases c12 : t221 = 2
    ·rw [if_pos c12] at H
     have c12b0 : (t221 == 2) = true := beq_iff_eq.mpr c12
     have c12b1 : (t221 != 2) = false := bne_eq_false_iff_eq.mpr c12
     clear c12; obtain rfl := Option.some.inj H
     go_wp2
     go_ret
     exact ⟨by first | rfl | (simp; done) | (simp [*]; done), by repeat (first | exact zau.refl _ | apply zau.step)⟩
    rw [if_neg c12] at H
    have c12b0 : (t221 == 2) = false := beq_eq_false_iff_ne.mpr c12
    have c12b1 : (t221 != 2) = true := bne_iff_ne.mpr c12
    obtain rfl := Option.some.inj H
    go_wp2
    go_ret
    exact ⟨by first | rfl | (simp; done) | (simp [*]; done), by repeat (first | exact zau.refl _ | apply zau.step)⟩
   replace c11 := Bool.eq_false_iff.mpr c11
   subst c11
   replace H : (if t220 = 3 then (some (t221 == 3)) else (if t220 = 5 then (some (t221 == 3)) else (some false))) = some r := by rw [if_neg (show ¬ (false = true) by decide)] at H; exact H
   by_cases c13 : t220 = 3
   ·rw [if_pos c13] at H
    have c13b0 : (t220 == 3) = true := beq_iff_eq.mpr c13
    have c13b1 : (t220 != 3) = false := bne_eq_false_iff_eq.mpr c13
    clear c13; obtain rfl := Option.some.inj H
    go_wp2
    go_ret
    exact ⟨by first | rfl | (simp; done) | (simp [*]; done), by repeat (first | exact zau.refl _ | apply zau.step)⟩
   rw [if_neg c13] at H
   have c13b0 : (t220 == 3) = false := beq_eq_false_iff_ne.mpr c13
   have c13b1 : (t220 != 3) = true := bne_iff_ne.mpr c13
   by_cases c14 : t220 = 5
   ·rw [if_pos c14] at H
    have c14b0 : (t220 == 5) = true := beq_iff_eq.mpr c14
    have c14b1 : (t220 != 5) = false := bne_eq_false_iff_eq.mpr c14
    clear c14; obtain rfl := Option.some.inj H
    go_wp2
    go_ret
    exact ⟨by first | rfl | (simp; done) | (simp [*]; done), by repeat (first | exact zau.refl _ | apply zau.step)⟩
   rw [if_neg c14] at H
   have c14b0 : (t220 == 5) = false := beq_eq_false_iff_ne.mpr c14
   have c14b1 : (t220 != 5) = true := bne_iff_ne.mpr c14
   obtain rfl := Option.some.inj H
   go_wp2
   go_ret
   exact ⟨by first | rfl | (simp; done) | (simp [*]; done), by repeat (first | exact zau.refl _ | apply zau.step)⟩
def spec_l07Mark.f (k : Nat) (a0 : Int) : Option (Bool) := (zbn.f k a0).bind fun t222 => (if t222 = 3 then (some true) else (if a0 = 7936 then (some true) else (if a0 ≥ 7744 then (some (decide (a0 ≤ 7748))) else (some false))))
set_option maxHeartbeats 8000000 in
set_option maxRecDepth 100000 in
theorem spec_l07Mark.calls (k : Nat) (a0 : Int) (r : Bool) (w : World) (h : spec_l07Mark.f k a0 = some r) :
  Calls Tryd.prog 156 #[.int .i64 a0] w fun e w' => e = .returned (.bool r) ∧ Below w.heap.size w w' := by
 have HB := zab.mk (Below.refl w.heap.size w)
 have H : ((zbn.f k a0).bind fun t222 => (if t222 = 3 then (some true) else (if a0 = 7936 then (some true) else (if a0 ≥ 7744 then (some (decide (a0 ≤ 7748))) else (some false))))) = some r := h
 clear h; replace H := Option.bind_eq_some_iff.mp H
 obtain ⟨t222, A20, H⟩ := H
 replace H : (if t222 = 3 then (some true) else (if a0 = 7936 then (some true) else (if a0 ≥ 7744 then (some (decide (a0 ≤ 7748))) else (some false)))) = some r := H
 have A2 := zab.mk A20; clear A20
 by_cases c3 : t222 = 3
 ·rw [if_pos c3] at H
  have c3b0 : (t222 == 3) = true := beq_iff_eq.mpr c3
  have c3b1 : (t222 != 3) = false := bne_eq_false_iff_eq.mpr c3
  clear c3; obtain rfl := Option.some.inj H
  go_enter Tryd.func156, Tryd.ntmps156
  go_wp2_with (first | ((with_reducible refine zae (f := 105) rfl ?_); refine zaB (some 4) rfl rfl Tryd.func105 (by kernel_rfl) rfl #[.int .i64 a0] rfl (by (try simp only [List.map_toArray, List.map_cons, List.map_nil]); first | done | rfl | (simp only [List.length_drop, List.length_take]; rfl)) ?_; (with_reducible refine (zbn.calls k a0 t222 _ A2.out).mono ?_); rintro e w4 ⟨rfl, hb⟩; refine ⟨_, rfl, ?_⟩; have n0_ := zab.mk (zaw (by repeat (first | (with_reducible first | exact HB.out | apply zac | apply zaa | apply zad) | exact HB.out)) hb); clear HB; have HB := n0_; clear n0_; (try clear hb); (try clear hb2); (try clear hk); (try clear hi)))
  go_ret
  exact ⟨by first | rfl | (simp [zam, zal] <;> rfl) | (simp [*, zam, zal] <;> rfl), by repeat (first | (with_reducible first | exact HB.out | apply zac | apply zaa | apply zad) | exact HB.out)⟩
 rw [if_neg c3] at H
 have c3b0 : (t222 == 3) = false := beq_eq_false_iff_ne.mpr c3
 have c3b1 : (t222 != 3) = true := bne_iff_ne.mpr c3
 by_cases c5 : a0 = 7936
 ·rw [if_pos c5] at H
  have c5b0 : (a0 == 7936) = true := beq_iff_eq.mpr c5
  have c5b1 : (a0 != 7936) = false := bne_eq_false_iff_eq.mpr c5
  clear c5; obtain rfl := Option.some.inj H
  go_enter Tryd.func156, Tryd.ntmps156
  go_wp2_with (first | ((with_reducible refine zae (f := 105) rfl ?_); refine zaB (some 4) rfl rfl Tryd.func105 (by kernel_rfl) rfl #[.int .i64 a0] rfl (by (try simp only [List.map_toArray, List.map_cons, List.map_nil]); first | done | rfl | (simp only [List.length_drop, List.length_take]; rfl)) ?_; (with_reducible refine (zbn.calls k a0 t222 _ A2.out).mono ?_); rintro e w6 ⟨rfl, hb⟩; refine ⟨_, rfl, ?_⟩; have n0_ := zab.mk (zaw (by repeat (first | (with_reducible first | exact HB.out | apply zac | apply zaa | apply zad) | exact HB.out)) hb); clear HB; have HB := n0_; clear n0_; (try clear hb); (try clear hb2); (try clear hk); (try clear hi)))
  go_ret
  exact ⟨by first | rfl | (simp [zam, zal] <;> rfl) | (simp [*, zam, zal] <;> rfl), by repeat (first | (with_reducible first | exact HB.out | apply zac | apply zaa | apply zad) | exact HB.out)⟩
 rw [if_neg c5] at H
 have c5b0 : (a0 == 7936) = false := beq_eq_false_iff_ne.mpr c5
 have c5b1 : (a0 != 7936) = true := bne_iff_ne.mpr c5
 by_cases c7 : a0 ≥ 7744
 ·rw [if_pos c7] at H
  have c7b0 : decide (7744 ≤ a0) = true := decide_eq_true c7
  clear c7; obtain rfl := Option.some.inj H
  go_enter Tryd.func156, Tryd.ntmps156
  go_wp2_with (first | ((with_reducible refine zae (f := 105) rfl ?_); refine zaB (some 4) rfl rfl Tryd.func105 (by kernel_rfl) rfl #[.int .i64 a0] rfl (by (try simp only [List.map_toArray, List.map_cons, List.map_nil]); first | done | rfl | (simp only [List.length_drop, List.length_take]; rfl)) ?_; (with_reducible refine (zbn.calls k a0 t222 _ A2.out).mono ?_); rintro e w8 ⟨rfl, hb⟩; refine ⟨_, rfl, ?_⟩; have n0_ := zab.mk (zaw (by repeat (first | (with_reducible first | exact HB.out | apply zac | apply zaa | apply zad) | exact HB.out)) hb); clear HB; have HB := n0_; clear n0_; (try clear hb); (try clear hb2); (try clear hk); (try clear hi)))
  go_ret
  exact ⟨by first | rfl | (simp [zam, zal] <;> rfl) | (simp [*, zam, zal] <;> rfl), by repeat (first | (with_reducible first | exact HB.out | apply zac | apply zaa | apply zad) | exact HB.out)⟩
 rw [if_neg c7] at H
 have c7b0 : decide (7744 ≤ a0) = false := decide_eq_false c7
 clear c7; obtain rfl := Option.some.inj H
 go_enter Tryd.func156, Tryd.ntmps156
 go_wp2_with (first | ((with_reducible refine zae (f := 105) rfl ?_); refine zaB (some 4) rfl rfl Tryd.func105 (by kernel_rfl) rfl #[.int .i64 a0] rfl (by (try simp only [List.map_toArray, List.map_cons, List.map_nil]); first | done | rfl | (simp only [List.length_drop, List.length_take]; rfl)) ?_; (with_reducible refine (zbn.calls k a0 t222 _ A2.out).mono ?_); rintro e w9 ⟨rfl, hb⟩; refine ⟨_, rfl, ?_⟩; have n0_ := zab.mk (zaw (by repeat (first | (with_reducible first | exact HB.out | apply zac | apply zaa | apply zad) | exact HB.out)) hb); clear HB; have HB := n0_; clear n0_; (try clear hb); (try clear hb2); (try clear hk); (try clear hi)))
 go_ret
 exact ⟨by first | rfl | (simp [zam, zal] <;> rfl) | (simp [*, zam, zal] <;> rfl), by repeat (first | (with_reducible first | exact HB.out | apply zac | apply zaa | apply zad) | exact HB.out)⟩
def zbL.l0 : Nat → List Int → Int → Option (Bool)
 | 0, _, _ => none
 | k + 1, x0, x1 => if x1 > 0 then (if 0 ≤ x1 then (if x1 < (x0.length : Int) then (if (rd x0 x1) = 1585 then (zbL.l0 k x0 (wrap64 (x1 - 1))) else (some ((rd x0 x1) == 1584))) else (none)) else (none)) else (if 0 ≤ x1 then (if x1 < (x0.length : Int) then (some ((rd x0 x1) == 1584)) else (none)) else (none))
def zbL.f (k : Nat) (l0 : List Int) (a1 : Int) : Option (Bool) := zbL.l0 k l0 a1
set_option maxHeartbeats 8000000 in
set_option maxRecDepth 100000 in
theorem zbL.calls (k : Nat) (A0 : Option Addr) (c0 : Nat) (l0 : List Int) (a1 : Int) (r : Bool) (w : World) (hr0 : Kd.C (Kd.int .i64) w A0 l0.length l0) (hc0 : l0.length ≤ c0) (h : zbL.f k l0 a1 = some r) :
  Calls Tryd.prog 157 #[.slice A0 l0.length c0, .int .i64 a1] w fun e w' => e = .returned (.bool r) ∧ zau w w' := by
 have HR0 := zab.mk hr0; have HC0 := zab.mk hc0; clear hr0 hc0
 have H : (zbL.l0 k l0 a1) = some r := h
 clear h; have H' := zab.mk H; clear H
 go_enter Tryd.func157, Tryd.ntmps157
 go_wp2
 go_loopg [1] k (fun kq v1 w' => ∃ (x1_1 : Int), v1 = .int .i64 x1_1 ∧ zab (zbL.l0 kq l0 x1_1 = some r) ∧ zab (kq ≤ k) ∧ zau w w')
 case atStart => exact ⟨(a1), (by first | rfl | (simp; done) | (simp [*]; done)), H', ⟨Nat.le_refl _⟩, by repeat (first | exact zau.refl _ | apply zau.step)⟩
 case round =>
  clear H'
  obtain ⟨x1_1, rfl, HA, HK1, ⟨m1, rfl⟩⟩ := hrel
  cases gk with
  | zero => exact absurd HA.out (by simp [zbL.l0])
  | succ k1 =>
   have H := HA.out; clear HA
   simp only [zbL.l0] at H
   by_cases c3 : x1_1 > 0
   ·rw [if_pos c3] at H
    have c3b0 : decide (0 < x1_1) = true := decide_eq_true c3
    clear c3
    by_cases c4 : 0 ≤ x1_1
    ·rw [if_pos c4] at H
     have c4b0 : decide (0 ≤ x1_1) = true := decide_eq_true c4
     clear c4
     by_cases c5 : x1_1 < (l0.length : Int)
     ·rw [if_pos c5] at H
      have c5b0 : decide (x1_1 < (l0.length : Int)) = true := decide_eq_true c5
      clear c5
      by_cases c6 : (rd l0 x1_1) = 1585
      ·rw [if_pos c6] at H
       have c6b0 : ((rd l0 x1_1) == 1585) = true := beq_iff_eq.mpr c6
       have c6b1 : ((rd l0 x1_1) != 1585) = false := bne_eq_false_iff_eq.mpr c6
       clear c6; have H' := zab.mk H; clear H
       have p223 : 0 ≤ (x1_1 : Int) := of_decide_eq_true (by first | (with_reducible assumption) | assumption)
       have q223 : x1_1 < (l0.length : Int) := of_decide_eq_true (by first | (with_reducible assumption) | assumption)
       obtain ⟨ad223, e223, hx223_0⟩ := Kd.zbF HR0.out x1_1 p223 q223
       cases e223
       replace p223 := eq_true p223
       replace q223 := eq_true q223
       go_wp2
       go_roundg k1
       case measure => have := HK1.out; omega
       case rel => exact ⟨(wrap64 (x1_1 - 1)), (by first | rfl | (simp; done) | (simp [*]; done)), H', ⟨by have := HK1.out; omega⟩, by repeat (first | exact zau.refl _ | apply zau.step)⟩
      rw [if_neg c6] at H
      have c6b0 : ((rd l0 x1_1) == 1585) = false := beq_eq_false_iff_ne.mpr c6
      have c6b1 : ((rd l0 x1_1) != 1585) = true := bne_iff_ne.mpr c6
      obtain rfl := Option.some.inj H
      have p223 : 0 ≤ (x1_1 : Int) := of_decide_eq_true (by first | (with_reducible assumption) | assumption)
      have q223 : x1_1 < (l0.length : Int) := of_decide_eq_true (by first | (with_reducible assumption) | assumption)
      obtain ⟨ad223, e223, hx223_0⟩ := Kd.zbF HR0.out x1_1 p223 q223
      cases e223
      replace p223 := eq_true p223
      replace q223 := eq_true q223
      have p224 : 0 ≤ (x1_1 : Int) := of_decide_eq_true (by first | (with_reducible assumption) | assumption)
      have q224 : x1_1 < (l0.length : Int) := of_decide_eq_true (by first | (with_reducible assumption) | assumption)
      obtain ⟨ad224, e224, hx224_0⟩ := Kd.zbF HR0.out x1_1 p224 q224
      obtain rfl : ad223 = ad224 := (by injection e224)
      replace p224 := eq_true p224
      replace q224 := eq_true q224
      go_wp2
      go_ret
      exact ⟨by first | rfl | (simp; done) | (simp [*]; done), by repeat (first | exact zau.refl _ | apply zau.step)⟩
     rw [if_neg c5] at H
     exact absurd H (by simp)
    rw [if_neg c4] at H
    exact absurd H (by simp)
   rw [if_neg c3] at H
   have c3b0 : decide (0 < x1_1) = false := decide_eq_false c3
   clear c3
   by_cases c7 : 0 ≤ x1_1
   ·rw [if_pos c7] at H
    have c7b0 : decide (0 ≤ x1_1) = true := decide_eq_true c7
    clear c7
    by_cases c8 : x1_1 < (l0.length : Int)
    ·rw [if_pos c8] at H
     have c8b0 : decide (x1_1 < (l0.length : Int)) = true := decide_eq_true c8
     clear c8; obtain rfl := Option.some.inj H
     have p225 : 0 ≤ (x1_1 : Int) := of_decide_eq_true (by first | (with_reducible assumption) | assumption)
     have q225 : x1_1 < (l0.length : Int) := of_decide_eq_true (by first | (with_reducible assumption) | assumption)
     obtain ⟨ad225, e225, hx225_0⟩ := Kd.zbF HR0.out x1_1 p225 q225
     cases e225
     replace p225 := eq_true p225
     replace q225 := eq_true q225
     go_wp2
     go_ret
     exact ⟨by first | rfl | (simp; done) | (simp [*]; done), by repeat (first | exact zau.refl _ | apply zau.step)⟩
    rw [if_neg c8] at H
    exact absurd H (by simp)
   rw [if_neg c7] at H
   exact absurd H (by simp)
def zbq.l0 : Nat → List Int → Int → Int → Option (Int)
 | 0, _, _, _ => none
 | k + 1, x0, x1, x5 => if (wrap64 (x1 - x5)) ≥ 0 then (if 0 ≤ (wrap64 (x1 - x5)) then (if (wrap64 (x1 - x5)) < (x0.length : Int) then ((zbe.f (rd x0 (wrap64 (x1 - x5)))).bind fun t227 => (if t227 = true then (zbq.l0 k x0 x1 (wrap64 (x5 + 1))) else (some x5))) else (none)) else (none)) else (some x5)
def zbq.f (k : Nat) (l0 : List Int) (a1 : Int) : Option (Int) := zbq.l0 k l0 a1 0
set_option maxHeartbeats 8000000 in
set_option maxRecDepth 100000 in
theorem zbq.calls (k : Nat) (A0 : Option Addr) (c0 : Nat) (l0 : List Int) (a1 : Int) (r : Int) (w : World) (hr0 : Kd.C (Kd.int .i64) w A0 l0.length l0) (hc0 : l0.length ≤ c0) (h : zbq.f k l0 a1 = some r) :
  Calls Tryd.prog 160 #[.slice A0 l0.length c0, .int .i64 a1] w fun e w' => e = .returned (.int .i64 r) ∧ zau w w' := by
 have HR0 := zab.mk hr0; have HC0 := zab.mk hc0; clear hr0 hc0
 have H : (zbq.l0 k l0 a1 0) = some r := h
 clear h; have H' := zab.mk H; clear H
 go_enter Tryd.func160, Tryd.ntmps160
 go_wp2
 go_loopg [5] k (fun kq v5 w' => ∃ (x5_1 : Int), v5 = .int .i64 x5_1 ∧ zab (zbq.l0 kq l0 a1 x5_1 = some r) ∧ zab (kq ≤ k) ∧ zau w w')
 case atStart => exact ⟨(0), (by first | rfl | (simp; done) | (simp [*]; done)), H', ⟨Nat.le_refl _⟩, by repeat (first | exact zau.refl _ | apply zau.step)⟩
 case round =>
  clear H'
  obtain ⟨x5_1, rfl, HA, HK1, ⟨m1, rfl⟩⟩ := hrel
  cases gk with
  | zero => exact absurd HA.out (by simp [zbq.l0])
  | succ k1 =>
   have H := HA.out; clear HA
   simp only [zbq.l0] at H
   by_cases c3 : (wrap64 (a1 - x5_1)) ≥ 0
   ·rw [if_pos c3] at H
    have c3b0 : decide (0 ≤ (wrap64 (a1 - x5_1))) = true := decide_eq_true c3
    clear c3
    obtain ⟨ji4, hji4⟩ : ∃ j_ : Int, (wrap64 (a1 - x5_1)) = j_ := ⟨_, rfl⟩
    replace H : (if 0 ≤ (ji4) then (if (ji4) < (l0.length : Int) then ((zbe.f (rd l0 (ji4))).bind fun t227 => (if t227 = true then (zbq.l0 k1 l0 a1 (wrap64 (x5_1 + 1))) else (some x5_1))) else (none)) else (none)) = some r := by first | (rw [hji4] at H; exact H) | (simp only [hji4] at H ⊢; exact H)
    (try rw [hji4] at c3b0)
    have hji4w : (IntKind.i64.wrap (a1 - x5_1)) = ji4 := (zbo _).trans hji4
    by_cases c5 : 0 ≤ (ji4)
    ·rw [if_pos c5] at H
     have c5b0 : decide (0 ≤ (ji4)) = true := decide_eq_true c5
     clear c5
     by_cases c6 : (ji4) < (l0.length : Int)
     ·rw [if_pos c6] at H
      have c6b0 : decide ((ji4) < (l0.length : Int)) = true := decide_eq_true c6
      clear c6; replace H := Option.bind_eq_some_iff.mp H
      obtain ⟨t227, A70, H⟩ := H
      replace H : (if t227 = true then (zbq.l0 k1 l0 a1 (wrap64 (x5_1 + 1))) else (some x5_1)) = some r := H
      have A7 := zab.mk A70; clear A70
      by_cases c8 : t227 = true
      ·subst c8
       replace H : (zbq.l0 k1 l0 a1 (wrap64 (x5_1 + 1))) = some r := by rw [if_pos rfl] at H; exact H
       have H' := zab.mk H; clear H
       have p226 : 0 ≤ ((ji4) : Int) := of_decide_eq_true (by first | (with_reducible assumption) | assumption)
       have q226 : (ji4) < (l0.length : Int) := of_decide_eq_true (by first | (with_reducible assumption) | assumption)
       obtain ⟨ad226, e226, hx226_0⟩ := Kd.zbF HR0.out (ji4) p226 q226
       cases e226
       replace p226 := eq_true p226
       replace q226 := eq_true q226
       go_wp2_with (first | (go_at_call 159; (with_reducible refine (zbe.calls (rd l0 (ji4)) true _ A7.out).mono ?_); rintro e w' ⟨rfl, ⟨nd, rfl⟩⟩))
       go_roundg k1
       case measure => have := HK1.out; omega
       case rel => exact ⟨(wrap64 (x5_1 + 1)), (by first | rfl | (simp; done) | (simp [*]; done)), H', ⟨by have := HK1.out; omega⟩, by repeat (first | exact zau.refl _ | apply zau.step)⟩
      replace c8 := Bool.eq_false_iff.mpr c8
      subst c8
      replace H : (some x5_1) = some r := by rw [if_neg (show ¬ (false = true) by decide)] at H; exact H
      obtain rfl := Option.some.inj H
      have p226 : 0 ≤ ((ji4) : Int) := of_decide_eq_true (by first | (with_reducible assumption) | assumption)
      have q226 : (ji4) < (l0.length : Int) := of_decide_eq_true (by first | (with_reducible assumption) | assumption)
      obtain ⟨ad226, e226, hx226_0⟩ := Kd.zbF HR0.out (ji4) p226 q226
      cases e226
      replace p226 := eq_true p226
      replace q226 := eq_true q226
      go_wp2_with (first | (go_at_call 159; (with_reducible refine (zbe.calls (rd l0 (ji4)) false _ A7.out).mono ?_); rintro e w' ⟨rfl, ⟨nd, rfl⟩⟩))
      go_ret
      exact ⟨by first | rfl | (simp; done) | (simp only [← hji4] <;> (first | rfl | simp)) | (simp [*]; done), by repeat (first | exact zau.refl _ | apply zau.step)⟩
     rw [if_neg c6] at H
     exact absurd H (by simp)
    rw [if_neg c5] at H
    exact absurd H (by simp)
   rw [if_neg c3] at H
   have c3b0 : decide (0 ≤ (wrap64 (a1 - x5_1))) = false := decide_eq_false c3
   clear c3; obtain rfl := Option.some.inj H
   go_wp2
   go_ret
   exact ⟨by first | rfl | (simp; done) | (simp [*]; done), by repeat (first | exact zau.refl _ | apply zau.step)⟩
end Go.Proofs.YtbppeepihlajoaaDoor.P
