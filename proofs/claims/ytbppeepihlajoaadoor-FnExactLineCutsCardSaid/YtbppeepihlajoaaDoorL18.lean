/- Written by a program of this session: plain Lean functions for Go functions, and for each the proof that the call comes to what the function says. -/
import Derived.Test.YtbppeepihlajoaaDoorL0
import Derived.Test.YtbppeepihlajoaaDoorL13
import Derived.Test.YtbppeepihlajoaaDoorL16
import Derived.Test.YtbppeepihlajoaaDoorL17
import Derived.Test.YtbppeepihlajoaaDoorXOne
namespace Go.Proofs.YtbppeepihlajoaaDoor.P
open Go.RowKit Go.Proofs.YtbppeepihlajoaaDoorW.PrintWords Go.Proofs.YtbppeepihlajoaaDoorW.PrintLast Go.Proofs.YtbppeepihlajoaaDoorW.PrintMore
attribute [local go_sem] max2_int min2_int max_two min_two max_three min_three max_four min_four
set_option linter.unusedVariables false
set_option linter.unusedSimpArgs false
mutual
def zax.j0 : Nat → Int → Int → Bool → Option (Int)
 | 0, _, _, _ => none
 | k + 1, x0, x3, x6 => if x6 = true then (some 1) else (if x0 = 32 then (zax.j1 k x0 x3 true) else (zax.j1 k x0 x3 (x0 == 8064)))
def zax.j1 : Nat → Int → Int → Bool → Option (Int)
 | 0, _, _, _ => none
 | k + 1, x0, x3, x13 => if x13 = true then (some 2) else (if x0 = 160 then (zax.j2 k x0 x3 true) else (zax.j2 k x0 x3 (x0 == 7953)))
def zax.j2 : Nat → Int → Int → Bool → Option (Int)
 | 0, _, _, _ => none
 | k + 1, x0, x3, x20 => if x20 = true then (some 3) else (if x0 = 7954 then (some 4) else (if x0 = 45 then (zax.j3 k x0 x3 true) else (zax.j3 k x0 x3 (x0 == 173))))
def zax.j3 : Nat → Int → Int → Bool → Option (Int)
 | 0, _, _, _ => none
 | k + 1, x0, x3, x30 => if x30 = true then (some 5) else ((zbI.f x0 (⟨#[40, 91, 123, 60]⟩ : ByteArray)).bind fun t356 => (if t356 = true then (some 6) else ((zbI.f x0 (⟨#[41, 93, 125, 62, 44, 46, 33, 63, 58, 59]⟩ : ByteArray)).bind fun t357 => (if t357 = true then (some 7) else ((zbI.f x0 (⟨#[34, 39]⟩ : ByteArray)).bind fun t358 => (if t358 = true then (some 8) else ((impl_isDigit.f k x0).bind fun t359 => (if t359 = true then (some 9) else (if x3 = 7 then (zax.j4 k x0 x3 true) else (if x3 = 9 then (zax.j4 k x0 x3 true) else ((za3.f x0).bind fun t360 => (zax.j4 k x0 x3 t360))))))))))))
def zax.j4 : Nat → Int → Int → Bool → Option (Int)
 | 0, _, _, _ => none
 | k + 1, x0, x3, x49 => if x49 = true then (some 10) else (if x3 = 8 then (some 11) else ((zaq.f x0 7760 7785).bind fun t361 => (if t361 = true then (some 12) else ((zaq.f x0 7744 7748).bind fun t362 => (if t362 = true then (some 13) else (some 0))))))
end
def zax.f (k : Nat) (a0 : Int) : Option (Int) := (impl_Script.f k a0).bind fun t355 => (if a0 = 10 then (zax.j0 k a0 t355 true) else (zax.j0 k a0 t355 (a0 == 13)))
set_option maxHeartbeats 8000000 in
set_option maxRecDepth 100000 in
theorem zax.calls (k : Nat) (a0 : Int) (r : Int) (w : World) (h : zax.f k a0 = some r) :
  Calls Tryd.prog 120 #[.int .i64 a0] w fun e w' => e = .returned (.int .i64 r) ∧ Below w.heap.size w w' := by
 have HB := zab.mk (Below.refl w.heap.size w)
 have H : ((impl_Script.f k a0).bind fun t355 => (if a0 = 10 then (zax.j0 k a0 t355 true) else (zax.j0 k a0 t355 (a0 == 13)))) = some r := h
 clear h; replace H := Option.bind_eq_some_iff.mp H
 obtain ⟨t355, A20, H⟩ := H
 replace H : (if a0 = 10 then (zax.j0 k a0 t355 true) else (zax.j0 k a0 t355 (a0 == 13))) = some r := H
 have A2 := zab.mk A20; clear A20; have HC3 := zab.mk H; clear H
 go_enter Tryd.func120, Tryd.ntmps120
 go_upto_region 2 with (first | ((with_reducible refine zae (f := 111) rfl ?_); refine zaB (some 5) rfl rfl Tryd.func111 (by kernel_rfl) rfl #[.int .i64 a0] rfl (by (try simp only [List.map_toArray, List.map_cons, List.map_nil]); first | done | rfl | (simp only [List.length_drop, List.length_take]; rfl)) ?_; (with_reducible refine (impl_Script.calls k a0 t355 _ A2.out).mono ?_); rintro e w' ⟨rfl, ⟨nd, rfl⟩⟩; refine ⟨_, rfl, ?_⟩))
 (try simp only [Act.put, List.setIfInBounds_toArray, List.set_cons_zero, List.set_cons_succ])
 go_cut [6] (fun v6 wc => ∃ (kq : Nat) (x6_2 : Bool), v6 = .bool x6_2 ∧ zab (zax.j0 kq a0 t355 x6_2 = some r) ∧ zab (kq ≤ k) ∧ zab (Below w.heap.size w wc))
 case first =>
  have H := HC3.out; clear HC3
  by_cases c4 : a0 = 10
  ·rw [if_pos c4] at H
   have c4b0 : (a0 == 10) = true := beq_iff_eq.mpr c4
   have c4b1 : (a0 != 10) = false := bne_eq_false_iff_eq.mpr c4
   clear c4
   (first | rw [c4b0] | rw [c4b1] | (simp only [zbo, i32_w]; rw [c4b0]) | skip)
   have H' := zab.mk H; clear H
   go_wp2
   go_meet
   case rel => exact ⟨_, (true), (by first | rfl | (simp; done) | (simp [*]; done)), H', ⟨by first | omega | exact Nat.le_refl _⟩, ⟨by repeat (first | (with_reducible first | exact HB.out | apply zac | apply zaa | apply zad) | exact HB.out)⟩⟩
  rw [if_neg c4] at H
  have c4b0 : (a0 == 10) = false := beq_eq_false_iff_ne.mpr c4
  have c4b1 : (a0 != 10) = true := bne_iff_ne.mpr c4
  (first | rw [c4b0] | rw [c4b1] | (simp only [zbo, i32_w]; rw [c4b0]) | skip)
  have H' := zab.mk H; clear H
  go_wp2
  go_meet
  case rel => exact ⟨_, ((a0 == 13)), (by first | rfl | (simp; done) | (simp [*]; done)), H', ⟨by first | omega | exact Nat.le_refl _⟩, ⟨by repeat (first | (with_reducible first | exact HB.out | apply zac | apply zaa | apply zad) | exact HB.out)⟩⟩
 case rest =>
  clear HC3
  obtain ⟨kq, x6_2, rfl, HA, HJ2, HB⟩ := hcut
  cases kq with
  | zero => exact absurd HA.out (by simp [zax.j0])
  | succ kj2 =>
   have H := HA.out; clear HA
   simp only [zax.j0] at H
   by_cases c5 : x6_2 = true
   ·subst c5
    replace H : (some 1) = some r := by rw [if_pos rfl] at H; exact H
    obtain rfl := Option.some.inj H
    go_wp2
    go_ret
    exact ⟨by first | rfl | (simp [zam, zal] <;> rfl) | (simp [*, zam, zal] <;> rfl), by repeat (first | (with_reducible first | exact HB.out | apply zac | apply zaa | apply zad) | exact HB.out)⟩
   replace c5 := Bool.eq_false_iff.mpr c5
   subst c5
   replace H : (if a0 = 32 then (zax.j1 kj2 a0 t355 true) else (zax.j1 kj2 a0 t355 (a0 == 8064))) = some r := by rw [if_neg (show ¬ (false = true) by decide)] at H; exact H
   have HC6 := zab.mk H; clear H
   go_upto_region 4 with (fail)
   go_cut [13] (fun v13 wc => ∃ (kq : Nat) (x13_5 : Bool), v13 = .bool x13_5 ∧ zab (zax.j1 kq a0 t355 x13_5 = some r) ∧ zab (kq ≤ kj2) ∧ zab (Below w.heap.size w wc))
   case first =>
    have H := HC6.out; clear HC6
    by_cases c7 : a0 = 32
    ·rw [if_pos c7] at H
     have c7b0 : (a0 == 32) = true := beq_iff_eq.mpr c7
     have c7b1 : (a0 != 32) = false := bne_eq_false_iff_eq.mpr c7
     clear c7
     (first | rw [c7b0] | rw [c7b1] | (simp only [zbo, i32_w]; rw [c7b0]) | skip)
     have H' := zab.mk H; clear H
     go_wp2
     go_meet
     case rel => exact ⟨_, (true), (by first | rfl | (simp; done) | (simp [*]; done)), H', ⟨by have := HJ2.out; first | omega | exact Nat.le_refl _⟩, ⟨by repeat (first | (with_reducible first | exact HB.out | apply zac | apply zaa | apply zad) | exact HB.out)⟩⟩
    rw [if_neg c7] at H
    have c7b0 : (a0 == 32) = false := beq_eq_false_iff_ne.mpr c7
    have c7b1 : (a0 != 32) = true := bne_iff_ne.mpr c7
    (first | rw [c7b0] | rw [c7b1] | (simp only [zbo, i32_w]; rw [c7b0]) | skip)
    have H' := zab.mk H; clear H
    go_wp2
    go_meet
    case rel => exact ⟨_, ((a0 == 8064)), (by first | rfl | (simp; done) | (simp [*]; done)), H', ⟨by have := HJ2.out; first | omega | exact Nat.le_refl _⟩, ⟨by repeat (first | (with_reducible first | exact HB.out | apply zac | apply zaa | apply zad) | exact HB.out)⟩⟩
   case rest =>
    clear HC6
    try clear c5
    obtain ⟨kq, x13_5, rfl, HA, HJ5, HB⟩ := hcut
    cases kq with
    | zero => exact absurd HA.out (by simp [zax.j1])
    | succ kj5 =>
     have H := HA.out; clear HA
     simp only [zax.j1] at H
     by_cases c8 : x13_5 = true
     ·subst c8
      replace H : (some 2) = some r := by rw [if_pos rfl] at H; exact H
      obtain rfl := Option.some.inj H
      go_wp2
      go_ret
      exact ⟨by first | rfl | (simp [zam, zal] <;> rfl) | (simp [*, zam, zal] <;> rfl), by repeat (first | (with_reducible first | exact HB.out | apply zac | apply zaa | apply zad) | exact HB.out)⟩
     replace c8 := Bool.eq_false_iff.mpr c8
     subst c8
     replace H : (if a0 = 160 then (zax.j2 kj5 a0 t355 true) else (zax.j2 kj5 a0 t355 (a0 == 7953))) = some r := by rw [if_neg (show ¬ (false = true) by decide)] at H; exact H
     have HC9 := zab.mk H; clear H
     go_upto_region 6 with (fail)
     go_cut [20] (fun v20 wc => ∃ (kq : Nat) (x20_8 : Bool), v20 = .bool x20_8 ∧ zab (zax.j2 kq a0 t355 x20_8 = some r) ∧ zab (kq ≤ kj5) ∧ zab (Below w.heap.size w wc))
     case first =>
      have H := HC9.out; clear HC9
      by_cases c10 : a0 = 160
      ·rw [if_pos c10] at H
       have c10b0 : (a0 == 160) = true := beq_iff_eq.mpr c10
       have c10b1 : (a0 != 160) = false := bne_eq_false_iff_eq.mpr c10
       clear c10
       (first | rw [c10b0] | rw [c10b1] | (simp only [zbo, i32_w]; rw [c10b0]) | skip)
       have H' := zab.mk H; clear H
       go_wp2
       go_meet
       case rel => exact ⟨_, (true), (by first | rfl | (simp; done) | (simp [*]; done)), H', ⟨by have := HJ2.out; have := HJ5.out; first | omega | exact Nat.le_refl _⟩, ⟨by repeat (first | (with_reducible first | exact HB.out | apply zac | apply zaa | apply zad) | exact HB.out)⟩⟩
      rw [if_neg c10] at H
      have c10b0 : (a0 == 160) = false := beq_eq_false_iff_ne.mpr c10
      have c10b1 : (a0 != 160) = true := bne_iff_ne.mpr c10
      (first | rw [c10b0] | rw [c10b1] | (simp only [zbo, i32_w]; rw [c10b0]) | skip)
      have H' := zab.mk H; clear H
      go_wp2
      go_meet
      case rel => exact ⟨_, ((a0 == 7953)), (by first | rfl | (simp; done) | (simp [*]; done)), H', ⟨by have := HJ2.out; have := HJ5.out; first | omega | exact Nat.le_refl _⟩, ⟨by repeat (first | (with_reducible first | exact HB.out | apply zac | apply zaa | apply zad) | exact HB.out)⟩⟩
     case rest =>
      clear HC9
      try clear c5
      try clear c8
      obtain ⟨kq, x20_8, rfl, HA, HJ8, HB⟩ := hcut
      cases kq with
      | zero => exact absurd HA.out (by simp [zax.j2])
      | succ kj8 =>
       have H := HA.out; clear HA
       simp only [zax.j2] at H
       by_cases c11 : x20_8 = true
       ·subst c11
        replace H : (some 3) = some r := by rw [if_pos rfl] at H; exact H
        obtain rfl := Option.some.inj H
        go_wp2
        go_ret
        exact ⟨by first | rfl | (simp [zam, zal] <;> rfl) | (simp [*, zam, zal] <;> rfl), by repeat (first | (with_reducible first | exact HB.out | apply zac | apply zaa | apply zad) | exact HB.out)⟩
       replace c11 := Bool.eq_false_iff.mpr c11
       subst c11
       replace H : (if a0 = 7954 then (some 4) else (if a0 = 45 then (zax.j3 kj8 a0 t355 true) else (zax.j3 kj8 a0 t355 (a0 == 173)))) = some r := by rw [if_neg (show ¬ (false = true) by decide)] at H; exact H
       by_cases c12 : a0 = 7954
       ·rw [if_pos c12] at H
        have c12b0 : (a0 == 7954) = true := beq_iff_eq.mpr c12
        have c12b1 : (a0 != 7954) = false := bne_eq_false_iff_eq.mpr c12
        clear c12; obtain rfl := Option.some.inj H
        go_wp2
        go_ret
        exact ⟨by first | rfl | (simp [zam, zal] <;> rfl) | (simp [*, zam, zal] <;> rfl), by repeat (first | (with_reducible first | exact HB.out | apply zac | apply zaa | apply zad) | exact HB.out)⟩
       rw [if_neg c12] at H
       have c12b0 : (a0 == 7954) = false := beq_eq_false_iff_ne.mpr c12
       have c12b1 : (a0 != 7954) = true := bne_iff_ne.mpr c12
       have HC13 := zab.mk H; clear H
       go_upto_region 10 with (fail)
       go_cut [30] (fun v30 wc => ∃ (kq : Nat) (x30_12 : Bool), v30 = .bool x30_12 ∧ zab (zax.j3 kq a0 t355 x30_12 = some r) ∧ zab (kq ≤ kj8) ∧ zab (Below w.heap.size w wc))
       case first =>
        have H := HC13.out; clear HC13
        by_cases c14 : a0 = 45
        ·rw [if_pos c14] at H
         have c14b0 : (a0 == 45) = true := beq_iff_eq.mpr c14
         have c14b1 : (a0 != 45) = false := bne_eq_false_iff_eq.mpr c14
         clear c14
         (first | rw [c14b0] | rw [c14b1] | (simp only [zbo, i32_w]; rw [c14b0]) | skip)
         have H' := zab.mk H; clear H
         go_wp2
         go_meet
         case rel => exact ⟨_, (true), (by first | rfl | (simp; done) | (simp [*]; done)), H', ⟨by have := HJ2.out; have := HJ5.out; have := HJ8.out; first | omega | exact Nat.le_refl _⟩, ⟨by repeat (first | (with_reducible first | exact HB.out | apply zac | apply zaa | apply zad) | exact HB.out)⟩⟩
        rw [if_neg c14] at H
        have c14b0 : (a0 == 45) = false := beq_eq_false_iff_ne.mpr c14
        have c14b1 : (a0 != 45) = true := bne_iff_ne.mpr c14
        (first | rw [c14b0] | rw [c14b1] | (simp only [zbo, i32_w]; rw [c14b0]) | skip)
        have H' := zab.mk H; clear H
        go_wp2
        go_meet
        case rel => exact ⟨_, ((a0 == 173)), (by first | rfl | (simp; done) | (simp [*]; done)), H', ⟨by have := HJ2.out; have := HJ5.out; have := HJ8.out; first | omega | exact Nat.le_refl _⟩, ⟨by repeat (first | (with_reducible first | exact HB.out | apply zac | apply zaa | apply zad) | exact HB.out)⟩⟩
       case rest =>
        clear HC13
        try clear c5
        try clear c8
        try clear c11
        try clear c12
        try clear c12b0
        try clear c12b1
        obtain ⟨kq, x30_12, rfl, HA, HJ12, HB⟩ := hcut
        cases kq with
        | zero => exact absurd HA.out (by simp [zax.j3])
        | succ kj12 =>
         have H := HA.out; clear HA
         simp only [zax.j3] at H
         by_cases c15 : x30_12 = true
         ·subst c15
          replace H : (some 5) = some r := by rw [if_pos rfl] at H; exact H
          obtain rfl := Option.some.inj H
          go_wp2
          go_ret
          exact ⟨by first | rfl | (simp [zam, zal] <;> rfl) | (simp [*, zam, zal] <;> rfl), by repeat (first | (with_reducible first | exact HB.out | apply zac | apply zaa | apply zad) | exact HB.out)⟩
         replace c15 := Bool.eq_false_iff.mpr c15
         subst c15
         replace H : ((zbI.f a0 (⟨#[40, 91, 123, 60]⟩ : ByteArray)).bind fun t356 => (if t356 = true then (some 6) else ((zbI.f a0 (⟨#[41, 93, 125, 62, 44, 46, 33, 63, 58, 59]⟩ : ByteArray)).bind fun t357 => (if t357 = true then (some 7) else ((zbI.f a0 (⟨#[34, 39]⟩ : ByteArray)).bind fun t358 => (if t358 = true then (some 8) else ((impl_isDigit.f kj12 a0).bind fun t359 => (if t359 = true then (some 9) else (if t355 = 7 then (zax.j4 kj12 a0 t355 true) else (if t355 = 9 then (zax.j4 kj12 a0 t355 true) else ((za3.f a0).bind fun t360 => (zax.j4 kj12 a0 t355 t360)))))))))))) = some r := by rw [if_neg (show ¬ (false = true) by decide)] at H; exact H
         replace H := Option.bind_eq_some_iff.mp H
         obtain ⟨t356, A160, H⟩ := H
         replace H : (if t356 = true then (some 6) else ((zbI.f a0 (⟨#[41, 93, 125, 62, 44, 46, 33, 63, 58, 59]⟩ : ByteArray)).bind fun t357 => (if t357 = true then (some 7) else ((zbI.f a0 (⟨#[34, 39]⟩ : ByteArray)).bind fun t358 => (if t358 = true then (some 8) else ((impl_isDigit.f kj12 a0).bind fun t359 => (if t359 = true then (some 9) else (if t355 = 7 then (zax.j4 kj12 a0 t355 true) else (if t355 = 9 then (zax.j4 kj12 a0 t355 true) else ((za3.f a0).bind fun t360 => (zax.j4 kj12 a0 t355 t360))))))))))) = some r := H
         have A16 := zab.mk A160; clear A160
         by_cases c17 : t356 = true
         ·subst c17
          replace H : (some 6) = some r := by rw [if_pos rfl] at H; exact H
          obtain rfl := Option.some.inj H
          go_wp2_with (first | ((with_reducible refine zae (f := 123) rfl ?_); refine zaB (some 39) rfl rfl Tryd.func123 (by kernel_rfl) rfl #[.int .i64 a0, .string (⟨#[40, 91, 123, 60]⟩ : ByteArray)] rfl (by (try simp only [List.map_toArray, List.map_cons, List.map_nil]); first | done | rfl | (simp only [List.length_drop, List.length_take]; rfl)) ?_; (with_reducible refine (zbI.calls a0 (⟨#[40, 91, 123, 60]⟩ : ByteArray) true _ A16.out).mono ?_); rintro e w18 ⟨rfl, hb⟩; refine ⟨_, rfl, ?_⟩; have n0_ := zab.mk (zaw (by repeat (first | (with_reducible first | exact HB.out | apply zac | apply zaa | apply zad) | exact HB.out)) hb); clear HB; have HB := n0_; clear n0_; (try clear hb); (try clear hb2); (try clear hk); (try clear hi)))
          go_ret
          exact ⟨by first | rfl | (simp [zam, zal] <;> rfl) | (simp [*, zam, zal] <;> rfl), by repeat (first | (with_reducible first | exact HB.out | apply zac | apply zaa | apply zad) | exact HB.out)⟩
         replace c17 := Bool.eq_false_iff.mpr c17
         subst c17
         replace H : ((zbI.f a0 (⟨#[41, 93, 125, 62, 44, 46, 33, 63, 58, 59]⟩ : ByteArray)).bind fun t357 => (if t357 = true then (some 7) else ((zbI.f a0 (⟨#[34, 39]⟩ : ByteArray)).bind fun t358 => (if t358 = true then (some 8) else ((impl_isDigit.f kj12 a0).bind fun t359 => (if t359 = true then (some 9) else (if t355 = 7 then (zax.j4 kj12 a0 t355 true) else (if t355 = 9 then (zax.j4 kj12 a0 t355 true) else ((za3.f a0).bind fun t360 => (zax.j4 kj12 a0 t355 t360)))))))))) = some r := by rw [if_neg (show ¬ (false = true) by decide)] at H; exact H
         replace H := Option.bind_eq_some_iff.mp H
         obtain ⟨t357, A190, H⟩ := H
         replace H : (if t357 = true then (some 7) else ((zbI.f a0 (⟨#[34, 39]⟩ : ByteArray)).bind fun t358 => (if t358 = true then (some 8) else ((impl_isDigit.f kj12 a0).bind fun t359 => (if t359 = true then (some 9) else (if t355 = 7 then (zax.j4 kj12 a0 t355 true) else (if t355 = 9 then (zax.j4 kj12 a0 t355 true) else ((za3.f a0).bind fun t360 => (zax.j4 kj12 a0 t355 t360))))))))) = some r := H
         have A19 := zab.mk A190; clear A190
         by_cases c20 : t357 = true
         ·subst c20
          replace H : (some 7) = some r := by rw [if_pos rfl] at H; exact H
          obtain rfl := Option.some.inj H
          go_wp2_with (first | ((with_reducible refine zae (f := 123) rfl ?_); refine zaB (some 39) rfl rfl Tryd.func123 (by kernel_rfl) rfl #[.int .i64 a0, .string (⟨#[40, 91, 123, 60]⟩ : ByteArray)] rfl (by (try simp only [List.map_toArray, List.map_cons, List.map_nil]); first | done | rfl | (simp only [List.length_drop, List.length_take]; rfl)) ?_; (with_reducible refine (zbI.calls a0 (⟨#[40, 91, 123, 60]⟩ : ByteArray) false _ A16.out).mono ?_); rintro e w21 ⟨rfl, hb⟩; refine ⟨_, rfl, ?_⟩; have n0_ := zab.mk (zaw (by repeat (first | (with_reducible first | exact HB.out | apply zac | apply zaa | apply zad) | exact HB.out)) hb); clear HB; have HB := n0_; clear n0_; (try clear hb); (try clear hb2); (try clear hk); (try clear hi)) | ((with_reducible refine zae (f := 123) rfl ?_); refine zaB (some 42) rfl rfl Tryd.func123 (by kernel_rfl) rfl #[.int .i64 a0, .string (⟨#[41, 93, 125, 62, 44, 46, 33, 63, 58, 59]⟩ : ByteArray)] rfl (by (try simp only [List.map_toArray, List.map_cons, List.map_nil]); first | done | rfl | (simp only [List.length_drop, List.length_take]; rfl)) ?_; (with_reducible refine (zbI.calls a0 (⟨#[41, 93, 125, 62, 44, 46, 33, 63, 58, 59]⟩ : ByteArray) true _ A19.out).mono ?_); rintro e w22 ⟨rfl, hb⟩; refine ⟨_, rfl, ?_⟩; have n0_ := zab.mk (zaw (by repeat (first | (with_reducible first | exact HB.out | apply zac | apply zaa | apply zad) | exact HB.out)) hb); clear HB; have HB := n0_; clear n0_; (try clear hb); (try clear hb2); (try clear hk); (try clear hi)))
          go_ret
          exact ⟨by first | rfl | (simp [zam, zal] <;> rfl) | (simp [*, zam, zal] <;> rfl), by repeat (first | (with_reducible first | exact HB.out | apply zac | apply zaa | apply zad) | exact HB.out)⟩
         replace c20 := Bool.eq_false_iff.mpr c20
         subst c20
         replace H : ((zbI.f a0 (⟨#[34, 39]⟩ : ByteArray)).bind fun t358 => (if t358 = true then (some 8) else ((impl_isDigit.f kj12 a0).bind fun t359 => (if t359 = true then (some 9) else (if t355 = 7 then (zax.j4 kj12 a0 t355 true) else (if t355 = 9 then (zax.j4 kj12 a0 t355 true) else ((za3.f a0).bind fun t360 => (zax.j4 kj12 a0 t355 t360)))))))) = some r := by rw [if_neg (show ¬ (false = true) by decide)] at H; exact H
         replace H := Option.bind_eq_some_iff.mp H
         obtain ⟨t358, A230, H⟩ := H
         replace H : (if t358 = true then (some 8) else ((impl_isDigit.f kj12 a0).bind fun t359 => (if t359 = true then (some 9) else (if t355 = 7 then (zax.j4 kj12 a0 t355 true) else (if t355 = 9 then (zax.j4 kj12 a0 t355 true) else ((za3.f a0).bind fun t360 => (zax.j4 kj12 a0 t355 t360))))))) = some r := H
         have A23 := zab.mk A230; clear A230
         by_cases c24 : t358 = true
         ·subst c24
          replace H : (some 8) = some r := by rw [if_pos rfl] at H; exact H
          obtain rfl := Option.some.inj H
          go_wp2_with (first | ((with_reducible refine zae (f := 123) rfl ?_); refine zaB (some 39) rfl rfl Tryd.func123 (by kernel_rfl) rfl #[.int .i64 a0, .string (⟨#[40, 91, 123, 60]⟩ : ByteArray)] rfl (by (try simp only [List.map_toArray, List.map_cons, List.map_nil]); first | done | rfl | (simp only [List.length_drop, List.length_take]; rfl)) ?_; (with_reducible refine (zbI.calls a0 (⟨#[40, 91, 123, 60]⟩ : ByteArray) false _ A16.out).mono ?_); rintro e w25 ⟨rfl, hb⟩; refine ⟨_, rfl, ?_⟩; have n0_ := zab.mk (zaw (by repeat (first | (with_reducible first | exact HB.out | apply zac | apply zaa | apply zad) | exact HB.out)) hb); clear HB; have HB := n0_; clear n0_; (try clear hb); (try clear hb2); (try clear hk); (try clear hi)) | ((with_reducible refine zae (f := 123) rfl ?_); refine zaB (some 42) rfl rfl Tryd.func123 (by kernel_rfl) rfl #[.int .i64 a0, .string (⟨#[41, 93, 125, 62, 44, 46, 33, 63, 58, 59]⟩ : ByteArray)] rfl (by (try simp only [List.map_toArray, List.map_cons, List.map_nil]); first | done | rfl | (simp only [List.length_drop, List.length_take]; rfl)) ?_; (with_reducible refine (zbI.calls a0 (⟨#[41, 93, 125, 62, 44, 46, 33, 63, 58, 59]⟩ : ByteArray) false _ A19.out).mono ?_); rintro e w26 ⟨rfl, hb⟩; refine ⟨_, rfl, ?_⟩; have n0_ := zab.mk (zaw (by repeat (first | (with_reducible first | exact HB.out | apply zac | apply zaa | apply zad) | exact HB.out)) hb); clear HB; have HB := n0_; clear n0_; (try clear hb); (try clear hb2); (try clear hk); (try clear hi)) | ((with_reducible refine zae (f := 123) rfl ?_); refine zaB (some 45) rfl rfl Tryd.func123 (by kernel_rfl) rfl #[.int .i64 a0, .string (⟨#[34, 39]⟩ : ByteArray)] rfl (by (try simp only [List.map_toArray, List.map_cons, List.map_nil]); first | done | rfl | (simp only [List.length_drop, List.length_take]; rfl)) ?_; (with_reducible refine (zbI.calls a0 (⟨#[34, 39]⟩ : ByteArray) true _ A23.out).mono ?_); rintro e w27 ⟨rfl, hb⟩; refine ⟨_, rfl, ?_⟩; have n0_ := zab.mk (zaw (by repeat (first | (with_reducible first | exact HB.out | apply zac | apply zaa | apply zad) | exact HB.out)) hb); clear HB; have HB := n0_; clear n0_; (try clear hb); (try clear hb2); (try clear hk); (try clear hi)))
          go_ret
          exact ⟨by first | rfl | (simp [zam, zal] <;> rfl) | (simp [*, zam, zal] <;> rfl), by repeat (first | (with_reducible first | exact HB.out | apply zac | apply zaa | apply zad) | exact HB.out)⟩
         replace c24 := Bool.eq_false_iff.mpr c24
         subst c24
         replace H : ((impl_isDigit.f kj12 a0).bind fun t359 => (if t359 = true then (some 9) else (if t355 = 7 then (zax.j4 kj12 a0 t355 true) else (if t355 = 9 then (zax.j4 kj12 a0 t355 true) else ((za3.f a0).bind fun t360 => (zax.j4 kj12 a0 t355 t360)))))) = some r := by rw [if_neg (show ¬ (false = true) by decide)] at H; exact H
         replace H := Option.bind_eq_some_iff.mp H
         obtain ⟨t359, A280, H⟩ := H
         replace H : (if t359 = true then (some 9) else (if t355 = 7 then (zax.j4 kj12 a0 t355 true) else (if t355 = 9 then (zax.j4 kj12 a0 t355 true) else ((za3.f a0).bind fun t360 => (zax.j4 kj12 a0 t355 t360))))) = some r := H
         have A28 := zab.mk A280; clear A280
         by_cases c29 : t359 = true
         ·subst c29
          replace H : (some 9) = some r := by rw [if_pos rfl] at H; exact H
          obtain rfl := Option.some.inj H
          go_wp2_with (first | ((with_reducible refine zae (f := 123) rfl ?_); refine zaB (some 39) rfl rfl Tryd.func123 (by kernel_rfl) rfl #[.int .i64 a0, .string (⟨#[40, 91, 123, 60]⟩ : ByteArray)] rfl (by (try simp only [List.map_toArray, List.map_cons, List.map_nil]); first | done | rfl | (simp only [List.length_drop, List.length_take]; rfl)) ?_; (with_reducible refine (zbI.calls a0 (⟨#[40, 91, 123, 60]⟩ : ByteArray) false _ A16.out).mono ?_); rintro e w30 ⟨rfl, hb⟩; refine ⟨_, rfl, ?_⟩; have n0_ := zab.mk (zaw (by repeat (first | (with_reducible first | exact HB.out | apply zac | apply zaa | apply zad) | exact HB.out)) hb); clear HB; have HB := n0_; clear n0_; (try clear hb); (try clear hb2); (try clear hk); (try clear hi)) | ((with_reducible refine zae (f := 123) rfl ?_); refine zaB (some 42) rfl rfl Tryd.func123 (by kernel_rfl) rfl #[.int .i64 a0, .string (⟨#[41, 93, 125, 62, 44, 46, 33, 63, 58, 59]⟩ : ByteArray)] rfl (by (try simp only [List.map_toArray, List.map_cons, List.map_nil]); first | done | rfl | (simp only [List.length_drop, List.length_take]; rfl)) ?_; (with_reducible refine (zbI.calls a0 (⟨#[41, 93, 125, 62, 44, 46, 33, 63, 58, 59]⟩ : ByteArray) false _ A19.out).mono ?_); rintro e w31 ⟨rfl, hb⟩; refine ⟨_, rfl, ?_⟩; have n0_ := zab.mk (zaw (by repeat (first | (with_reducible first | exact HB.out | apply zac | apply zaa | apply zad) | exact HB.out)) hb); clear HB; have HB := n0_; clear n0_; (try clear hb); (try clear hb2); (try clear hk); (try clear hi)) | ((with_reducible refine zae (f := 123) rfl ?_); refine zaB (some 45) rfl rfl Tryd.func123 (by kernel_rfl) rfl #[.int .i64 a0, .string (⟨#[34, 39]⟩ : ByteArray)] rfl (by (try simp only [List.map_toArray, List.map_cons, List.map_nil]); first | done | rfl | (simp only [List.length_drop, List.length_take]; rfl)) ?_; (with_reducible refine (zbI.calls a0 (⟨#[34, 39]⟩ : ByteArray) false _ A23.out).mono ?_); rintro e w32 ⟨rfl, hb⟩; refine ⟨_, rfl, ?_⟩; have n0_ := zab.mk (zaw (by repeat (first | (with_reducible first | exact HB.out | apply zac | apply zaa | apply zad) | exact HB.out)) hb); clear HB; have HB := n0_; clear n0_; (try clear hb); (try clear hb2); (try clear hk); (try clear hi)) | ((with_reducible refine zae (f := 167) rfl ?_); refine zaB (some 48) rfl rfl Tryd.func167 (by kernel_rfl) rfl #[.int .i64 a0] rfl (by (try simp only [List.map_toArray, List.map_cons, List.map_nil]); first | done | rfl | (simp only [List.length_drop, List.length_take]; rfl)) ?_; (with_reducible refine (impl_isDigit.calls kj12 a0 true _ A28.out).mono ?_); rintro e w' ⟨rfl, ⟨nd, rfl⟩⟩; refine ⟨_, rfl, ?_⟩))
          go_ret
          exact ⟨by first | rfl | (simp [zam, zal] <;> rfl) | (simp [*, zam, zal] <;> rfl), by repeat (first | (with_reducible first | exact HB.out | apply zac | apply zaa | apply zad) | exact HB.out)⟩
         replace c29 := Bool.eq_false_iff.mpr c29
         subst c29
         replace H : (if t355 = 7 then (zax.j4 kj12 a0 t355 true) else (if t355 = 9 then (zax.j4 kj12 a0 t355 true) else ((za3.f a0).bind fun t360 => (zax.j4 kj12 a0 t355 t360)))) = some r := by rw [if_neg (show ¬ (false = true) by decide)] at H; exact H
         have HC33 := zab.mk H; clear H
         go_upto_region 20 with (first | ((with_reducible refine zae (f := 123) rfl ?_); refine zaB (some 39) rfl rfl Tryd.func123 (by kernel_rfl) rfl #[.int .i64 a0, .string (⟨#[40, 91, 123, 60]⟩ : ByteArray)] rfl (by (try simp only [List.map_toArray, List.map_cons, List.map_nil]); first | done | rfl | (simp only [List.length_drop, List.length_take]; rfl)) ?_; (with_reducible refine (zbI.calls a0 (⟨#[40, 91, 123, 60]⟩ : ByteArray) false _ A16.out).mono ?_); rintro e w34 ⟨rfl, hb⟩; refine ⟨_, rfl, ?_⟩; have n0_ := zab.mk (zaw (by repeat (first | (with_reducible first | exact HB.out | apply zac | apply zaa | apply zad) | exact HB.out)) hb); clear HB; have HB := n0_; clear n0_; (try clear hb); (try clear hb2); (try clear hk); (try clear hi)) | ((with_reducible refine zae (f := 123) rfl ?_); refine zaB (some 42) rfl rfl Tryd.func123 (by kernel_rfl) rfl #[.int .i64 a0, .string (⟨#[41, 93, 125, 62, 44, 46, 33, 63, 58, 59]⟩ : ByteArray)] rfl (by (try simp only [List.map_toArray, List.map_cons, List.map_nil]); first | done | rfl | (simp only [List.length_drop, List.length_take]; rfl)) ?_; (with_reducible refine (zbI.calls a0 (⟨#[41, 93, 125, 62, 44, 46, 33, 63, 58, 59]⟩ : ByteArray) false _ A19.out).mono ?_); rintro e w35 ⟨rfl, hb⟩; refine ⟨_, rfl, ?_⟩; have n0_ := zab.mk (zaw (by repeat (first | (with_reducible first | exact HB.out | apply zac | apply zaa | apply zad) | exact HB.out)) hb); clear HB; have HB := n0_; clear n0_; (try clear hb); (try clear hb2); (try clear hk); (try clear hi)) | ((with_reducible refine zae (f := 123) rfl ?_); refine zaB (some 45) rfl rfl Tryd.func123 (by kernel_rfl) rfl #[.int .i64 a0, .string (⟨#[34, 39]⟩ : ByteArray)] rfl (by (try simp only [List.map_toArray, List.map_cons, List.map_nil]); first | done | rfl | (simp only [List.length_drop, List.length_take]; rfl)) ?_; (with_reducible refine (zbI.calls a0 (⟨#[34, 39]⟩ : ByteArray) false _ A23.out).mono ?_); rintro e w36 ⟨rfl, hb⟩; refine ⟨_, rfl, ?_⟩; have n0_ := zab.mk (zaw (by repeat (first | (with_reducible first | exact HB.out | apply zac | apply zaa | apply zad) | exact HB.out)) hb); clear HB; have HB := n0_; clear n0_; (try clear hb); (try clear hb2); (try clear hk); (try clear hi)) | ((with_reducible refine zae (f := 167) rfl ?_); refine zaB (some 48) rfl rfl Tryd.func167 (by kernel_rfl) rfl #[.int .i64 a0] rfl (by (try simp only [List.map_toArray, List.map_cons, List.map_nil]); first | done | rfl | (simp only [List.length_drop, List.length_take]; rfl)) ?_; (with_reducible refine (impl_isDigit.calls kj12 a0 false _ A28.out).mono ?_); rintro e w' ⟨rfl, ⟨nd, rfl⟩⟩; refine ⟨_, rfl, ?_⟩))
         (try simp only [Act.put, List.setIfInBounds_toArray, List.set_cons_zero, List.set_cons_succ])
         go_cut [49] (fun v49 wc => ∃ (kq : Nat) (x49_32 : Bool), v49 = .bool x49_32 ∧ zab (zax.j4 kq a0 t355 x49_32 = some r) ∧ zab (kq ≤ kj12) ∧ zab (Below w.heap.size w wc))
         case first =>
          have H := HC33.out; clear HC33
          by_cases c37 : t355 = 7
          ·rw [if_pos c37] at H
           have c37b0 : (t355 == 7) = true := beq_iff_eq.mpr c37
           have c37b1 : (t355 != 7) = false := bne_eq_false_iff_eq.mpr c37
           clear c37
           (first | rw [c37b0] | rw [c37b1] | (simp only [zbo, i32_w]; rw [c37b0]) | skip)
           have H' := zab.mk H; clear H
           go_wp2
           go_meet
           case rel => exact ⟨_, (true), (by first | rfl | (simp; done) | (simp [*]; done)), H', ⟨by have := HJ2.out; have := HJ5.out; have := HJ8.out; have := HJ12.out; first | omega | exact Nat.le_refl _⟩, ⟨by repeat (first | (with_reducible first | exact HB.out | apply zac | apply zaa | apply zad) | exact HB.out)⟩⟩
          rw [if_neg c37] at H
          have c37b0 : (t355 == 7) = false := beq_eq_false_iff_ne.mpr c37
          have c37b1 : (t355 != 7) = true := bne_iff_ne.mpr c37
          (first | rw [c37b0] | rw [c37b1] | (simp only [zbo, i32_w]; rw [c37b0]) | skip)
          by_cases c38 : t355 = 9
          ·rw [if_pos c38] at H
           have c38b0 : (t355 == 9) = true := beq_iff_eq.mpr c38
           have c38b1 : (t355 != 9) = false := bne_eq_false_iff_eq.mpr c38
           clear c38; have H' := zab.mk H; clear H
           go_wp2
           go_meet
           case rel => exact ⟨_, (true), (by first | rfl | (simp; done) | (simp [*]; done)), H', ⟨by have := HJ2.out; have := HJ5.out; have := HJ8.out; have := HJ12.out; first | omega | exact Nat.le_refl _⟩, ⟨by repeat (first | (with_reducible first | exact HB.out | apply zac | apply zaa | apply zad) | exact HB.out)⟩⟩
          rw [if_neg c38] at H
          have c38b0 : (t355 == 9) = false := beq_eq_false_iff_ne.mpr c38
          have c38b1 : (t355 != 9) = true := bne_iff_ne.mpr c38
          replace H := Option.bind_eq_some_iff.mp H
          obtain ⟨t360, A390, H⟩ := H
          replace H : (zax.j4 kj12 a0 t355 t360) = some r := H
          have A39 := zab.mk A390; clear A390; have H' := zab.mk H; clear H
          go_wp2_with (first | (go_at_call 168; (with_reducible refine (za3.calls a0 t360 _ A39.out).mono ?_); rintro e w' ⟨rfl, ⟨nd, rfl⟩⟩))
          go_meet
          case rel => exact ⟨_, (t360), (by first | rfl | (simp; done) | (simp [*]; done)), H', ⟨by have := HJ2.out; have := HJ5.out; have := HJ8.out; have := HJ12.out; first | omega | exact Nat.le_refl _⟩, ⟨by repeat (first | (with_reducible first | exact HB.out | apply zac | apply zaa | apply zad) | exact HB.out)⟩⟩
         case rest =>
          clear HC33
          try clear c5
          try clear c8
          try clear c11
          try clear c12
          try clear c12b0
          try clear c12b1
          try clear c15
          try clear c17
          try clear c20
          try clear c24
          try clear c29
          obtain ⟨kq, x49_32, rfl, HA, HJ32, HB⟩ := hcut
          cases kq with
          | zero => exact absurd HA.out (by simp [zax.j4])
          | succ kj32 =>
           have H := HA.out; clear HA
           simp only [zax.j4] at H
           by_cases c40 : x49_32 = true
           ·subst c40
            replace H : (some 10) = some r := by rw [if_pos rfl] at H; exact H
            obtain rfl := Option.some.inj H
            go_wp2
            go_ret
            exact ⟨by first | rfl | (simp [zam, zal] <;> rfl) | (simp [*, zam, zal] <;> rfl), by repeat (first | (with_reducible first | exact HB.out | apply zac | apply zaa | apply zad) | exact HB.out)⟩
           replace c40 := Bool.eq_false_iff.mpr c40
           subst c40
           replace H : (if t355 = 8 then (some 11) else ((zaq.f a0 7760 7785).bind fun t361 => (if t361 = true then (some 12) else ((zaq.f a0 7744 7748).bind fun t362 => (if t362 = true then (some 13) else (some 0)))))) = some r := by rw [if_neg (show ¬ (false = true) by decide)] at H; exact H
           by_cases c41 : t355 = 8
           ·rw [if_pos c41] at H
            have c41b0 : (t355 == 8) = true := beq_iff_eq.mpr c41
            have c41b1 : (t355 != 8) = false := bne_eq_false_iff_eq.mpr c41
            clear c41; obtain rfl := Option.some.inj H
            go_wp2
            go_ret
            exact ⟨by first | rfl | (simp [zam, zal] <;> rfl) | (simp [*, zam, zal] <;> rfl), by repeat (first | (with_reducible first | exact HB.out | apply zac | apply zaa | apply zad) | exact HB.out)⟩
           rw [if_neg c41] at H
           have c41b0 : (t355 == 8) = false := beq_eq_false_iff_ne.mpr c41
           have c41b1 : (t355 != 8) = true := bne_iff_ne.mpr c41
           replace H := Option.bind_eq_some_iff.mp H
           obtain ⟨t361, A420, H⟩ := H
           replace H : (if t361 = true then (some 12) else ((zaq.f a0 7744 7748).bind fun t362 => (if t362 = true then (some 13) else (some 0)))) = some r := H
           have A42 := zab.mk A420; clear A420
           by_cases c43 : t361 = true
           ·subst c43
            replace H : (some 12) = some r := by rw [if_pos rfl] at H; exact H
            obtain rfl := Option.some.inj H
            go_wp2_with (first | ((with_reducible refine zae (f := 110) rfl ?_); refine zaB (some 65) rfl rfl Tryd.func110 (by kernel_rfl) rfl #[.int .i64 a0, .int .i64 7760, .int .i64 7785] rfl (by (try simp only [List.map_toArray, List.map_cons, List.map_nil]); first | done | rfl | (simp only [List.length_drop, List.length_take]; rfl)) ?_; (with_reducible refine (zaq.calls a0 7760 7785 true _ A42.out).mono ?_); rintro e w' ⟨rfl, ⟨nd, rfl⟩⟩; refine ⟨_, rfl, ?_⟩))
            go_ret
            exact ⟨by first | rfl | (simp [zam, zal] <;> rfl) | (simp [*, zam, zal] <;> rfl), by repeat (first | (with_reducible first | exact HB.out | apply zac | apply zaa | apply zad) | exact HB.out)⟩
           replace c43 := Bool.eq_false_iff.mpr c43
           subst c43
           replace H : ((zaq.f a0 7744 7748).bind fun t362 => (if t362 = true then (some 13) else (some 0))) = some r := by rw [if_neg (show ¬ (false = true) by decide)] at H; exact H
           replace H := Option.bind_eq_some_iff.mp H
           obtain ⟨t362, A440, H⟩ := H
           replace H : (if t362 = true then (some 13) else (some 0)) = some r := H
           have A44 := zab.mk A440; clear A440
           by_cases c45 : t362 = true
           ·subst c45
            replace H : (some 13) = some r := by rw [if_pos rfl] at H; exact H
            obtain rfl := Option.some.inj H
            go_wp2_with (first | ((with_reducible refine zae (f := 110) rfl ?_); refine zaB (some 65) rfl rfl Tryd.func110 (by kernel_rfl) rfl #[.int .i64 a0, .int .i64 7760, .int .i64 7785] rfl (by (try simp only [List.map_toArray, List.map_cons, List.map_nil]); first | done | rfl | (simp only [List.length_drop, List.length_take]; rfl)) ?_; (with_reducible refine (zaq.calls a0 7760 7785 false _ A42.out).mono ?_); rintro e w' ⟨rfl, ⟨nd, rfl⟩⟩; refine ⟨_, rfl, ?_⟩) | ((with_reducible refine zae (f := 110) rfl ?_); refine zaB (some 68) rfl rfl Tryd.func110 (by kernel_rfl) rfl #[.int .i64 a0, .int .i64 7744, .int .i64 7748] rfl (by (try simp only [List.map_toArray, List.map_cons, List.map_nil]); first | done | rfl | (simp only [List.length_drop, List.length_take]; rfl)) ?_; (with_reducible refine (zaq.calls a0 7744 7748 true _ A44.out).mono ?_); rintro e w' ⟨rfl, ⟨nd, rfl⟩⟩; refine ⟨_, rfl, ?_⟩))
            go_ret
            exact ⟨by first | rfl | (simp [zam, zal] <;> rfl) | (simp [*, zam, zal] <;> rfl), by repeat (first | (with_reducible first | exact HB.out | apply zac | apply zaa | apply zad) | exact HB.out)⟩
           replace c45 := Bool.eq_false_iff.mpr c45
           subst c45
           replace H : (some 0) = some r := by rw [if_neg (show ¬ (false = true) by decide)] at H; exact H
           obtain rfl := Option.some.inj H
           go_wp2_with (first | ((with_reducible refine zae (f := 110) rfl ?_); refine zaB (some 65) rfl rfl Tryd.func110 (by kernel_rfl) rfl #[.int .i64 a0, .int .i64 7760, .int .i64 7785] rfl (by (try simp only [List.map_toArray, List.map_cons, List.map_nil]); first | done | rfl | (simp only [List.length_drop, List.length_take]; rfl)) ?_; (with_reducible refine (zaq.calls a0 7760 7785 false _ A42.out).mono ?_); rintro e w' ⟨rfl, ⟨nd, rfl⟩⟩; refine ⟨_, rfl, ?_⟩) | ((with_reducible refine zae (f := 110) rfl ?_); refine zaB (some 68) rfl rfl Tryd.func110 (by kernel_rfl) rfl #[.int .i64 a0, .int .i64 7744, .int .i64 7748] rfl (by (try simp only [List.map_toArray, List.map_cons, List.map_nil]); first | done | rfl | (simp only [List.length_drop, List.length_take]; rfl)) ?_; (with_reducible refine (zaq.calls a0 7744 7748 false _ A44.out).mono ?_); rintro e w' ⟨rfl, ⟨nd, rfl⟩⟩; refine ⟨_, rfl, ?_⟩))
           go_ret
           exact ⟨by first | rfl | (simp [zam, zal] <;> rfl) | (simp [*, zam, zal] <;> rfl), by repeat (first | (with_reducible first | exact HB.out | apply zac | apply zaa | apply zad) | exact HB.out)⟩
end Go.Proofs.YtbppeepihlajoaaDoor.P
