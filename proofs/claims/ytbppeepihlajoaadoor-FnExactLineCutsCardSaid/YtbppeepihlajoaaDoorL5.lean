/- Written by a program of this session: plain Lean functions for Go functions, and for each the proof that the call comes to what the function says. -/
import Derived.Test.YtbppeepihlajoaaDoorL0
import Derived.Test.YtbppeepihlajoaaDoorL1
import Derived.Test.YtbppeepihlajoaaDoorL4
namespace Go.Proofs.YtbppeepihlajoaaDoor.P
open Go.RowKit Go.Proofs.YtbppeepihlajoaaDoorW.PrintWords Go.Proofs.YtbppeepihlajoaaDoorW.PrintLast Go.Proofs.YtbppeepihlajoaaDoorW.PrintMore
attribute [local go_sem] max2_int min2_int max_two min_two max_three min_three max_four min_four
set_option linter.unusedVariables false
set_option linter.unusedSimpArgs false
mutual
def zay.j0 : Nat → Int → Bool → Option (Int)
 | 0, _, _ => none
 | k + 1, x0, x3 => if x3 = true then (some 1) else (if x0 = 32 then (zay.j1 k x0 true) else (zay.j1 k x0 (x0 == 8064)))
def zay.j1 : Nat → Int → Bool → Option (Int)
 | 0, _, _ => none
 | k + 1, x0, x10 => if x10 = true then (some 2) else (if x0 = 160 then (zay.j2 k x0 true) else (zay.j2 k x0 (x0 == 7953)))
def zay.j2 : Nat → Int → Bool → Option (Int)
 | 0, _, _ => none
 | k + 1, x0, x17 => if x17 = true then (some 3) else (if x0 = 7954 then (some 4) else (if x0 = 45 then (zay.j3 k x0 true) else (zay.j3 k x0 (x0 == 173))))
def zay.j3 : Nat → Int → Bool → Option (Int)
 | 0, _, _ => none
 | k + 1, x0, x27 => if x27 = true then (some 5) else ((za7.f k x0 (⟨#[40, 91, 123, 60]⟩ : ByteArray)).bind fun t153 => (if t153 = true then (some 6) else ((za7.f k x0 (⟨#[41, 93, 125, 62, 44, 46, 33, 63, 58, 59]⟩ : ByteArray)).bind fun t154 => (if t154 = true then (some 7) else ((za7.f k x0 (⟨#[34, 39]⟩ : ByteArray)).bind fun t155 => (if t155 = true then (some 8) else ((zbn.f k x0).bind fun t156 => (if t156 = 8 then (some 9) else ((zbe.f x0).bind fun t157 => (if t157 = true then (some 12) else (if x0 ≥ 7744 then (zay.j4 k x0 (decide (x0 ≤ 7748))) else (zay.j4 k x0 false))))))))))))
def zay.j4 : Nat → Int → Bool → Option (Int)
 | 0, _, _ => none
 | k + 1, x0, x50 => if x50 = true then (some 13) else ((zbw.f k x0).bind fun t158 => (if t158 = 7 then (zay.j5 k x0 true) else ((zbw.f k x0).bind fun t159 => (if t159 = 9 then (zay.j5 k x0 true) else ((zbt.f x0).bind fun t160 => (zay.j5 k x0 t160))))))
def zay.j5 : Nat → Int → Bool → Option (Int)
 | 0, _, _ => none
 | k + 1, x0, x57 => if x57 = true then (some 10) else ((zbw.f k x0).bind fun t161 => (if t161 = 8 then (some 11) else (some 0)))
end
def zay.f (k : Nat) (a0 : Int) : Option (Int) := if a0 = 10 then (zay.j0 k a0 true) else (zay.j0 k a0 (a0 == 13))
set_option maxHeartbeats 8000000 in
set_option maxRecDepth 100000 in
theorem zay.calls (k : Nat) (a0 : Int) (r : Int) (w : World) (h : zay.f k a0 = some r) :
  Calls Tryd.prog 153 #[.int .i64 a0] w fun e w' => e = .returned (.int .i64 r) ∧ Below w.heap.size w w' := by
 have HB := zab.mk (Below.refl w.heap.size w)
 have H : (if a0 = 10 then (zay.j0 k a0 true) else (zay.j0 k a0 (a0 == 13))) = some r := h
 clear h; have HC2 := zab.mk H; clear H
 go_enter Tryd.func153, Tryd.ntmps153
 go_upto_region 1 with (fail)
 go_cut [3] (fun v3 wc => ∃ (kq : Nat) (x3_1 : Bool), v3 = .bool x3_1 ∧ zab (zay.j0 kq a0 x3_1 = some r) ∧ zab (kq ≤ k) ∧ zab (Below w.heap.size w wc))
 case first =>
  have H := HC2.out; clear HC2
  by_cases c3 : a0 = 10
  ·rw [if_pos c3] at H
   have c3b0 : (a0 == 10) = true := beq_iff_eq.mpr c3
   have c3b1 : (a0 != 10) = false := bne_eq_false_iff_eq.mpr c3
   clear c3
   (first | rw [c3b0] | rw [c3b1] | (simp only [zbo, i32_w]; rw [c3b0]) | skip)
   have H' := zab.mk H; clear H
   go_wp2
   go_meet
   case rel => exact ⟨_, (true), (by first | rfl | (simp; done) | (simp [*]; done)), H', ⟨by first | omega | exact Nat.le_refl _⟩, ⟨by repeat (first | (with_reducible first | exact HB.out | apply zac | apply zaa | apply zad) | exact HB.out)⟩⟩
  rw [if_neg c3] at H
  have c3b0 : (a0 == 10) = false := beq_eq_false_iff_ne.mpr c3
  have c3b1 : (a0 != 10) = true := bne_iff_ne.mpr c3
  (first | rw [c3b0] | rw [c3b1] | (simp only [zbo, i32_w]; rw [c3b0]) | skip)
  have H' := zab.mk H; clear H
  go_wp2
  go_meet
  case rel => exact ⟨_, ((a0 == 13)), (by first | rfl | (simp; done) | (simp [*]; done)), H', ⟨by first | omega | exact Nat.le_refl _⟩, ⟨by repeat (first | (with_reducible first | exact HB.out | apply zac | apply zaa | apply zad) | exact HB.out)⟩⟩
 case rest =>
  clear HC2
  obtain ⟨kq, x3_1, rfl, HA, HJ1, HB⟩ := hcut
  cases kq with
  | zero => exact absurd HA.out (by simp [zay.j0])
  | succ kj1 =>
   have H := HA.out; clear HA
   simp only [zay.j0] at H
   by_cases c4 : x3_1 = true
   ·subst c4
    replace H : (some 1) = some r := by rw [if_pos rfl] at H; exact H
    obtain rfl := Option.some.inj H
    go_wp2
    go_ret
    exact ⟨by first | rfl | (simp [zam, zal] <;> rfl) | (simp [*, zam, zal] <;> rfl), by repeat (first | (with_reducible first | exact HB.out | apply zac | apply zaa | apply zad) | exact HB.out)⟩
   replace c4 := Bool.eq_false_iff.mpr c4
   subst c4
   replace H : (if a0 = 32 then (zay.j1 kj1 a0 true) else (zay.j1 kj1 a0 (a0 == 8064))) = some r := by rw [if_neg (show ¬ (false = true) by decide)] at H; exact H
   have HC5 := zab.mk H; clear H
   go_upto_region 3 with (fail)
   go_cut [10] (fun v10 wc => ∃ (kq : Nat) (x10_4 : Bool), v10 = .bool x10_4 ∧ zab (zay.j1 kq a0 x10_4 = some r) ∧ zab (kq ≤ kj1) ∧ zab (Below w.heap.size w wc))
   case first =>
    have H := HC5.out; clear HC5
    by_cases c6 : a0 = 32
    ·rw [if_pos c6] at H
     have c6b0 : (a0 == 32) = true := beq_iff_eq.mpr c6
     have c6b1 : (a0 != 32) = false := bne_eq_false_iff_eq.mpr c6
     clear c6
     (first | rw [c6b0] | rw [c6b1] | (simp only [zbo, i32_w]; rw [c6b0]) | skip)
     have H' := zab.mk H; clear H
     go_wp2
     go_meet
     case rel => exact ⟨_, (true), (by first | rfl | (simp; done) | (simp [*]; done)), H', ⟨by have := HJ1.out; first | omega | exact Nat.le_refl _⟩, ⟨by repeat (first | (with_reducible first | exact HB.out | apply zac | apply zaa | apply zad) | exact HB.out)⟩⟩
    rw [if_neg c6] at H
    have c6b0 : (a0 == 32) = false := beq_eq_false_iff_ne.mpr c6
    have c6b1 : (a0 != 32) = true := bne_iff_ne.mpr c6
    (first | rw [c6b0] | rw [c6b1] | (simp only [zbo, i32_w]; rw [c6b0]) | skip)
    have H' := zab.mk H; clear H
    go_wp2
    go_meet
    case rel => exact ⟨_, ((a0 == 8064)), (by first | rfl | (simp; done) | (simp [*]; done)), H', ⟨by have := HJ1.out; first | omega | exact Nat.le_refl _⟩, ⟨by repeat (first | (with_reducible first | exact HB.out | apply zac | apply zaa | apply zad) | exact HB.out)⟩⟩
   case rest =>
    clear HC5
    try clear c4
    obtain ⟨kq, x10_4, rfl, HA, HJ4, HB⟩ := hcut
    cases kq with
    | zero => exact absurd HA.out (by simp [zay.j1])
    | succ kj4 =>
     have H := HA.out; clear HA
     simp only [zay.j1] at H
     by_cases c7 : x10_4 = true
     ·subst c7
      replace H : (some 2) = some r := by rw [if_pos rfl] at H; exact H
      obtain rfl := Option.some.inj H
      go_wp2
      go_ret
      exact ⟨by first | rfl | (simp [zam, zal] <;> rfl) | (simp [*, zam, zal] <;> rfl), by repeat (first | (with_reducible first | exact HB.out | apply zac | apply zaa | apply zad) | exact HB.out)⟩
     replace c7 := Bool.eq_false_iff.mpr c7
     subst c7
     replace H : (if a0 = 160 then (zay.j2 kj4 a0 true) else (zay.j2 kj4 a0 (a0 == 7953))) = some r := by rw [if_neg (show ¬ (false = true) by decide)] at H; exact H
     have HC8 := zab.mk H; clear H
     go_upto_region 5 with (fail)
     go_cut [17] (fun v17 wc => ∃ (kq : Nat) (x17_7 : Bool), v17 = .bool x17_7 ∧ zab (zay.j2 kq a0 x17_7 = some r) ∧ zab (kq ≤ kj4) ∧ zab (Below w.heap.size w wc))
     case first =>
      have H := HC8.out; clear HC8
      by_cases c9 : a0 = 160
      ·rw [if_pos c9] at H
       have c9b0 : (a0 == 160) = true := beq_iff_eq.mpr c9
       have c9b1 : (a0 != 160) = false := bne_eq_false_iff_eq.mpr c9
       clear c9
       (first | rw [c9b0] | rw [c9b1] | (simp only [zbo, i32_w]; rw [c9b0]) | skip)
       have H' := zab.mk H; clear H
       go_wp2
       go_meet
       case rel => exact ⟨_, (true), (by first | rfl | (simp; done) | (simp [*]; done)), H', ⟨by have := HJ1.out; have := HJ4.out; first | omega | exact Nat.le_refl _⟩, ⟨by repeat (first | (with_reducible first | exact HB.out | apply zac | apply zaa | apply zad) | exact HB.out)⟩⟩
      rw [if_neg c9] at H
      have c9b0 : (a0 == 160) = false := beq_eq_false_iff_ne.mpr c9
      have c9b1 : (a0 != 160) = true := bne_iff_ne.mpr c9
      (first | rw [c9b0] | rw [c9b1] | (simp only [zbo, i32_w]; rw [c9b0]) | skip)
      have H' := zab.mk H; clear H
      go_wp2
      go_meet
      case rel => exact ⟨_, ((a0 == 7953)), (by first | rfl | (simp; done) | (simp [*]; done)), H', ⟨by have := HJ1.out; have := HJ4.out; first | omega | exact Nat.le_refl _⟩, ⟨by repeat (first | (with_reducible first | exact HB.out | apply zac | apply zaa | apply zad) | exact HB.out)⟩⟩
     case rest =>
      clear HC8
      try clear c4
      try clear c7
      obtain ⟨kq, x17_7, rfl, HA, HJ7, HB⟩ := hcut
      cases kq with
      | zero => exact absurd HA.out (by simp [zay.j2])
      | succ kj7 =>
       have H := HA.out; clear HA
       simp only [zay.j2] at H
       by_cases c10 : x17_7 = true
       ·subst c10
        replace H : (some 3) = some r := by rw [if_pos rfl] at H; exact H
        obtain rfl := Option.some.inj H
        go_wp2
        go_ret
        exact ⟨by first | rfl | (simp [zam, zal] <;> rfl) | (simp [*, zam, zal] <;> rfl), by repeat (first | (with_reducible first | exact HB.out | apply zac | apply zaa | apply zad) | exact HB.out)⟩
       replace c10 := Bool.eq_false_iff.mpr c10
       subst c10
       replace H : (if a0 = 7954 then (some 4) else (if a0 = 45 then (zay.j3 kj7 a0 true) else (zay.j3 kj7 a0 (a0 == 173)))) = some r := by rw [if_neg (show ¬ (false = true) by decide)] at H; exact H
       by_cases c11 : a0 = 7954
       ·rw [if_pos c11] at H
        have c11b0 : (a0 == 7954) = true := beq_iff_eq.mpr c11
        have c11b1 : (a0 != 7954) = false := bne_eq_false_iff_eq.mpr c11
        clear c11; obtain rfl := Option.some.inj H
        go_wp2
        go_ret
        exact ⟨by first | rfl | (simp [zam, zal] <;> rfl) | (simp [*, zam, zal] <;> rfl), by repeat (first | (with_reducible first | exact HB.out | apply zac | apply zaa | apply zad) | exact HB.out)⟩
       rw [if_neg c11] at H
       have c11b0 : (a0 == 7954) = false := beq_eq_false_iff_ne.mpr c11
       have c11b1 : (a0 != 7954) = true := bne_iff_ne.mpr c11
       have HC12 := zab.mk H; clear H
       go_upto_region 9 with (fail)
       go_cut [27] (fun v27 wc => ∃ (kq : Nat) (x27_11 : Bool), v27 = .bool x27_11 ∧ zab (zay.j3 kq a0 x27_11 = some r) ∧ zab (kq ≤ kj7) ∧ zab (Below w.heap.size w wc))
       case first =>
        have H := HC12.out; clear HC12
        by_cases c13 : a0 = 45
        ·rw [if_pos c13] at H
         have c13b0 : (a0 == 45) = true := beq_iff_eq.mpr c13
         have c13b1 : (a0 != 45) = false := bne_eq_false_iff_eq.mpr c13
         clear c13
         (first | rw [c13b0] | rw [c13b1] | (simp only [zbo, i32_w]; rw [c13b0]) | skip)
         have H' := zab.mk H; clear H
         go_wp2
         go_meet
         case rel => exact ⟨_, (true), (by first | rfl | (simp; done) | (simp [*]; done)), H', ⟨by have := HJ1.out; have := HJ4.out; have := HJ7.out; first | omega | exact Nat.le_refl _⟩, ⟨by repeat (first | (with_reducible first | exact HB.out | apply zac | apply zaa | apply zad) | exact HB.out)⟩⟩
        rw [if_neg c13] at H
        have c13b0 : (a0 == 45) = false := beq_eq_false_iff_ne.mpr c13
        have c13b1 : (a0 != 45) = true := bne_iff_ne.mpr c13
        (first | rw [c13b0] | rw [c13b1] | (simp only [zbo, i32_w]; rw [c13b0]) | skip)
        have H' := zab.mk H; clear H
        go_wp2
        go_meet
        case rel => exact ⟨_, ((a0 == 173)), (by first | rfl | (simp; done) | (simp [*]; done)), H', ⟨by have := HJ1.out; have := HJ4.out; have := HJ7.out; first | omega | exact Nat.le_refl _⟩, ⟨by repeat (first | (with_reducible first | exact HB.out | apply zac | apply zaa | apply zad) | exact HB.out)⟩⟩
       case rest =>
        clear HC12
        try clear c4
        try clear c7
        try clear c10
        try clear c11
        try clear c11b0
        try clear c11b1
        obtain ⟨kq, x27_11, rfl, HA, HJ11, HB⟩ := hcut
        cases kq with
        | zero => exact absurd HA.out (by simp [zay.j3])
        | succ kj11 =>
         have H := HA.out; clear HA
         simp only [zay.j3] at H
         by_cases c14 : x27_11 = true
         ·subst c14
          replace H : (some 5) = some r := by rw [if_pos rfl] at H; exact H
          obtain rfl := Option.some.inj H
          go_wp2
          go_ret
          exact ⟨by first | rfl | (simp [zam, zal] <;> rfl) | (simp [*, zam, zal] <;> rfl), by repeat (first | (with_reducible first | exact HB.out | apply zac | apply zaa | apply zad) | exact HB.out)⟩
         replace c14 := Bool.eq_false_iff.mpr c14
         subst c14
         replace H : ((za7.f kj11 a0 (⟨#[40, 91, 123, 60]⟩ : ByteArray)).bind fun t153 => (if t153 = true then (some 6) else ((za7.f kj11 a0 (⟨#[41, 93, 125, 62, 44, 46, 33, 63, 58, 59]⟩ : ByteArray)).bind fun t154 => (if t154 = true then (some 7) else ((za7.f kj11 a0 (⟨#[34, 39]⟩ : ByteArray)).bind fun t155 => (if t155 = true then (some 8) else ((zbn.f kj11 a0).bind fun t156 => (if t156 = 8 then (some 9) else ((zbe.f a0).bind fun t157 => (if t157 = true then (some 12) else (if a0 ≥ 7744 then (zay.j4 kj11 a0 (decide (a0 ≤ 7748))) else (zay.j4 kj11 a0 false)))))))))))) = some r := by rw [if_neg (show ¬ (false = true) by decide)] at H; exact H
         replace H := Option.bind_eq_some_iff.mp H
         obtain ⟨t153, A150, H⟩ := H
         replace H : (if t153 = true then (some 6) else ((za7.f kj11 a0 (⟨#[41, 93, 125, 62, 44, 46, 33, 63, 58, 59]⟩ : ByteArray)).bind fun t154 => (if t154 = true then (some 7) else ((za7.f kj11 a0 (⟨#[34, 39]⟩ : ByteArray)).bind fun t155 => (if t155 = true then (some 8) else ((zbn.f kj11 a0).bind fun t156 => (if t156 = 8 then (some 9) else ((zbe.f a0).bind fun t157 => (if t157 = true then (some 12) else (if a0 ≥ 7744 then (zay.j4 kj11 a0 (decide (a0 ≤ 7748))) else (zay.j4 kj11 a0 false))))))))))) = some r := H
         have A15 := zab.mk A150; clear A150
         by_cases c16 : t153 = true
         ·subst c16
          replace H : (some 6) = some r := by rw [if_pos rfl] at H; exact H
          obtain rfl := Option.some.inj H
          go_wp2_with (first | ((with_reducible refine zae (f := 164) rfl ?_); refine zaB (some 36) rfl rfl Tryd.func164 (by kernel_rfl) rfl #[.int .i64 a0, .string (⟨#[40, 91, 123, 60]⟩ : ByteArray)] rfl (by (try simp only [List.map_toArray, List.map_cons, List.map_nil]); first | done | rfl | (simp only [List.length_drop, List.length_take]; rfl)) ?_; (with_reducible refine (za7.calls kj11 a0 (⟨#[40, 91, 123, 60]⟩ : ByteArray) true _ A15.out).mono ?_); rintro e w' ⟨rfl, ⟨nd, rfl⟩⟩; refine ⟨_, rfl, ?_⟩))
          go_ret
          exact ⟨by first | rfl | (simp [zam, zal] <;> rfl) | (simp [*, zam, zal] <;> rfl), by repeat (first | (with_reducible first | exact HB.out | apply zac | apply zaa | apply zad) | exact HB.out)⟩
         replace c16 := Bool.eq_false_iff.mpr c16
         subst c16
         replace H : ((za7.f kj11 a0 (⟨#[41, 93, 125, 62, 44, 46, 33, 63, 58, 59]⟩ : ByteArray)).bind fun t154 => (if t154 = true then (some 7) else ((za7.f kj11 a0 (⟨#[34, 39]⟩ : ByteArray)).bind fun t155 => (if t155 = true then (some 8) else ((zbn.f kj11 a0).bind fun t156 => (if t156 = 8 then (some 9) else ((zbe.f a0).bind fun t157 => (if t157 = true then (some 12) else (if a0 ≥ 7744 then (zay.j4 kj11 a0 (decide (a0 ≤ 7748))) else (zay.j4 kj11 a0 false)))))))))) = some r := by rw [if_neg (show ¬ (false = true) by decide)] at H; exact H
         replace H := Option.bind_eq_some_iff.mp H
         obtain ⟨t154, A170, H⟩ := H
         replace H : (if t154 = true then (some 7) else ((za7.f kj11 a0 (⟨#[34, 39]⟩ : ByteArray)).bind fun t155 => (if t155 = true then (some 8) else ((zbn.f kj11 a0).bind fun t156 => (if t156 = 8 then (some 9) else ((zbe.f a0).bind fun t157 => (if t157 = true then (some 12) else (if a0 ≥ 7744 then (zay.j4 kj11 a0 (decide (a0 ≤ 7748))) else (zay.j4 kj11 a0 false))))))))) = some r := H
         have A17 := zab.mk A170; clear A170
         by_cases c18 : t154 = true
         ·subst c18
          replace H : (some 7) = some r := by rw [if_pos rfl] at H; exact H
          obtain rfl := Option.some.inj H
          go_wp2_with (first | ((with_reducible refine zae (f := 164) rfl ?_); refine zaB (some 36) rfl rfl Tryd.func164 (by kernel_rfl) rfl #[.int .i64 a0, .string (⟨#[40, 91, 123, 60]⟩ : ByteArray)] rfl (by (try simp only [List.map_toArray, List.map_cons, List.map_nil]); first | done | rfl | (simp only [List.length_drop, List.length_take]; rfl)) ?_; (with_reducible refine (za7.calls kj11 a0 (⟨#[40, 91, 123, 60]⟩ : ByteArray) false _ A15.out).mono ?_); rintro e w' ⟨rfl, ⟨nd, rfl⟩⟩; refine ⟨_, rfl, ?_⟩) | ((with_reducible refine zae (f := 164) rfl ?_); refine zaB (some 39) rfl rfl Tryd.func164 (by kernel_rfl) rfl #[.int .i64 a0, .string (⟨#[41, 93, 125, 62, 44, 46, 33, 63, 58, 59]⟩ : ByteArray)] rfl (by (try simp only [List.map_toArray, List.map_cons, List.map_nil]); first | done | rfl | (simp only [List.length_drop, List.length_take]; rfl)) ?_; (with_reducible refine (za7.calls kj11 a0 (⟨#[41, 93, 125, 62, 44, 46, 33, 63, 58, 59]⟩ : ByteArray) true _ A17.out).mono ?_); rintro e w' ⟨rfl, ⟨nd, rfl⟩⟩; refine ⟨_, rfl, ?_⟩))
          go_ret
          exact ⟨by first | rfl | (simp [zam, zal] <;> rfl) | (simp [*, zam, zal] <;> rfl), by repeat (first | (with_reducible first | exact HB.out | apply zac | apply zaa | apply zad) | exact HB.out)⟩
         replace c18 := Bool.eq_false_iff.mpr c18
         subst c18
         replace H : ((za7.f kj11 a0 (⟨#[34, 39]⟩ : ByteArray)).bind fun t155 => (if t155 = true then (some 8) else ((zbn.f kj11 a0).bind fun t156 => (if t156 = 8 then (some 9) else ((zbe.f a0).bind fun t157 => (if t157 = true then (some 12) else (if a0 ≥ 7744 then (zay.j4 kj11 a0 (decide (a0 ≤ 7748))) else (zay.j4 kj11 a0 false)))))))) = some r := by rw [if_neg (show ¬ (false = true) by decide)] at H; exact H
         replace H := Option.bind_eq_some_iff.mp H
         obtain ⟨t155, A190, H⟩ := H
         replace H : (if t155 = true then (some 8) else ((zbn.f kj11 a0).bind fun t156 => (if t156 = 8 then (some 9) else ((zbe.f a0).bind fun t157 => (if t157 = true then (some 12) else (if a0 ≥ 7744 then (zay.j4 kj11 a0 (decide (a0 ≤ 7748))) else (zay.j4 kj11 a0 false))))))) = some r := H
         have A19 := zab.mk A190; clear A190
         by_cases c20 : t155 = true
         ·subst c20
          replace H : (some 8) = some r := by rw [if_pos rfl] at H; exact H
          obtain rfl := Option.some.inj H
          go_wp2_with (first | ((with_reducible refine zae (f := 164) rfl ?_); refine zaB (some 36) rfl rfl Tryd.func164 (by kernel_rfl) rfl #[.int .i64 a0, .string (⟨#[40, 91, 123, 60]⟩ : ByteArray)] rfl (by (try simp only [List.map_toArray, List.map_cons, List.map_nil]); first | done | rfl | (simp only [List.length_drop, List.length_take]; rfl)) ?_; (with_reducible refine (za7.calls kj11 a0 (⟨#[40, 91, 123, 60]⟩ : ByteArray) false _ A15.out).mono ?_); rintro e w' ⟨rfl, ⟨nd, rfl⟩⟩; refine ⟨_, rfl, ?_⟩) | ((with_reducible refine zae (f := 164) rfl ?_); refine zaB (some 39) rfl rfl Tryd.func164 (by kernel_rfl) rfl #[.int .i64 a0, .string (⟨#[41, 93, 125, 62, 44, 46, 33, 63, 58, 59]⟩ : ByteArray)] rfl (by (try simp only [List.map_toArray, List.map_cons, List.map_nil]); first | done | rfl | (simp only [List.length_drop, List.length_take]; rfl)) ?_; (with_reducible refine (za7.calls kj11 a0 (⟨#[41, 93, 125, 62, 44, 46, 33, 63, 58, 59]⟩ : ByteArray) false _ A17.out).mono ?_); rintro e w' ⟨rfl, ⟨nd, rfl⟩⟩; refine ⟨_, rfl, ?_⟩) | ((with_reducible refine zae (f := 164) rfl ?_); refine zaB (some 42) rfl rfl Tryd.func164 (by kernel_rfl) rfl #[.int .i64 a0, .string (⟨#[34, 39]⟩ : ByteArray)] rfl (by (try simp only [List.map_toArray, List.map_cons, List.map_nil]); first | done | rfl | (simp only [List.length_drop, List.length_take]; rfl)) ?_; (with_reducible refine (za7.calls kj11 a0 (⟨#[34, 39]⟩ : ByteArray) true _ A19.out).mono ?_); rintro e w' ⟨rfl, ⟨nd, rfl⟩⟩; refine ⟨_, rfl, ?_⟩))
          go_ret
          exact ⟨by first | rfl | (simp [zam, zal] <;> rfl) | (simp [*, zam, zal] <;> rfl), by repeat (first | (with_reducible first | exact HB.out | apply zac | apply zaa | apply zad) | exact HB.out)⟩
         replace c20 := Bool.eq_false_iff.mpr c20
         subst c20
         replace H : ((zbn.f kj11 a0).bind fun t156 => (if t156 = 8 then (some 9) else ((zbe.f a0).bind fun t157 => (if t157 = true then (some 12) else (if a0 ≥ 7744 then (zay.j4 kj11 a0 (decide (a0 ≤ 7748))) else (zay.j4 kj11 a0 false)))))) = some r := by rw [if_neg (show ¬ (false = true) by decide)] at H; exact H
         replace H := Option.bind_eq_some_iff.mp H
         obtain ⟨t156, A210, H⟩ := H
         replace H : (if t156 = 8 then (some 9) else ((zbe.f a0).bind fun t157 => (if t157 = true then (some 12) else (if a0 ≥ 7744 then (zay.j4 kj11 a0 (decide (a0 ≤ 7748))) else (zay.j4 kj11 a0 false))))) = some r := H
         have A21 := zab.mk A210; clear A210
         by_cases c22 : t156 = 8
         ·rw [if_pos c22] at H
          have c22b0 : (t156 == 8) = true := beq_iff_eq.mpr c22
          have c22b1 : (t156 != 8) = false := bne_eq_false_iff_eq.mpr c22
          clear c22; obtain rfl := Option.some.inj H
          go_wp2_with (first | ((with_reducible refine zae (f := 164) rfl ?_); refine zaB (some 36) rfl rfl Tryd.func164 (by kernel_rfl) rfl #[.int .i64 a0, .string (⟨#[40, 91, 123, 60]⟩ : ByteArray)] rfl (by (try simp only [List.map_toArray, List.map_cons, List.map_nil]); first | done | rfl | (simp only [List.length_drop, List.length_take]; rfl)) ?_; (with_reducible refine (za7.calls kj11 a0 (⟨#[40, 91, 123, 60]⟩ : ByteArray) false _ A15.out).mono ?_); rintro e w' ⟨rfl, ⟨nd, rfl⟩⟩; refine ⟨_, rfl, ?_⟩) | ((with_reducible refine zae (f := 164) rfl ?_); refine zaB (some 39) rfl rfl Tryd.func164 (by kernel_rfl) rfl #[.int .i64 a0, .string (⟨#[41, 93, 125, 62, 44, 46, 33, 63, 58, 59]⟩ : ByteArray)] rfl (by (try simp only [List.map_toArray, List.map_cons, List.map_nil]); first | done | rfl | (simp only [List.length_drop, List.length_take]; rfl)) ?_; (with_reducible refine (za7.calls kj11 a0 (⟨#[41, 93, 125, 62, 44, 46, 33, 63, 58, 59]⟩ : ByteArray) false _ A17.out).mono ?_); rintro e w' ⟨rfl, ⟨nd, rfl⟩⟩; refine ⟨_, rfl, ?_⟩) | ((with_reducible refine zae (f := 164) rfl ?_); refine zaB (some 42) rfl rfl Tryd.func164 (by kernel_rfl) rfl #[.int .i64 a0, .string (⟨#[34, 39]⟩ : ByteArray)] rfl (by (try simp only [List.map_toArray, List.map_cons, List.map_nil]); first | done | rfl | (simp only [List.length_drop, List.length_take]; rfl)) ?_; (with_reducible refine (za7.calls kj11 a0 (⟨#[34, 39]⟩ : ByteArray) false _ A19.out).mono ?_); rintro e w' ⟨rfl, ⟨nd, rfl⟩⟩; refine ⟨_, rfl, ?_⟩) | ((with_reducible refine zae (f := 105) rfl ?_); refine zaB (some 45) rfl rfl Tryd.func105 (by kernel_rfl) rfl #[.int .i64 a0] rfl (by (try simp only [List.map_toArray, List.map_cons, List.map_nil]); first | done | rfl | (simp only [List.length_drop, List.length_take]; rfl)) ?_; (with_reducible refine (zbn.calls kj11 a0 t156 _ A21.out).mono ?_); rintro e w23 ⟨rfl, hb⟩; refine ⟨_, rfl, ?_⟩; have n0_ := zab.mk (zaw (by repeat (first | (with_reducible first | exact HB.out | apply zac | apply zaa | apply zad) | exact HB.out)) hb); clear HB; have HB := n0_; clear n0_; (try clear hb); (try clear hb2); (try clear hk); (try clear hi)))
          go_ret
          exact ⟨by first | rfl | (simp [zam, zal] <;> rfl) | (simp [*, zam, zal] <;> rfl), by repeat (first | (with_reducible first | exact HB.out | apply zac | apply zaa | apply zad) | exact HB.out)⟩
         rw [if_neg c22] at H
         have c22b0 : (t156 == 8) = false := beq_eq_false_iff_ne.mpr c22
         have c22b1 : (t156 != 8) = true := bne_iff_ne.mpr c22
         replace H := Option.bind_eq_some_iff.mp H
         obtain ⟨t157, A240, H⟩ := H
         replace H : (if t157 = true then (some 12) else (if a0 ≥ 7744 then (zay.j4 kj11 a0 (decide (a0 ≤ 7748))) else (zay.j4 kj11 a0 false))) = some r := H
         have A24 := zab.mk A240; clear A240
         by_cases c25 : t157 = true
         ·subst c25
          replace H : (some 12) = some r := by rw [if_pos rfl] at H; exact H
          obtain rfl := Option.some.inj H
          go_wp2_with (first | ((with_reducible refine zae (f := 164) rfl ?_); refine zaB (some 36) rfl rfl Tryd.func164 (by kernel_rfl) rfl #[.int .i64 a0, .string (⟨#[40, 91, 123, 60]⟩ : ByteArray)] rfl (by (try simp only [List.map_toArray, List.map_cons, List.map_nil]); first | done | rfl | (simp only [List.length_drop, List.length_take]; rfl)) ?_; (with_reducible refine (za7.calls kj11 a0 (⟨#[40, 91, 123, 60]⟩ : ByteArray) false _ A15.out).mono ?_); rintro e w' ⟨rfl, ⟨nd, rfl⟩⟩; refine ⟨_, rfl, ?_⟩) | ((with_reducible refine zae (f := 164) rfl ?_); refine zaB (some 39) rfl rfl Tryd.func164 (by kernel_rfl) rfl #[.int .i64 a0, .string (⟨#[41, 93, 125, 62, 44, 46, 33, 63, 58, 59]⟩ : ByteArray)] rfl (by (try simp only [List.map_toArray, List.map_cons, List.map_nil]); first | done | rfl | (simp only [List.length_drop, List.length_take]; rfl)) ?_; (with_reducible refine (za7.calls kj11 a0 (⟨#[41, 93, 125, 62, 44, 46, 33, 63, 58, 59]⟩ : ByteArray) false _ A17.out).mono ?_); rintro e w' ⟨rfl, ⟨nd, rfl⟩⟩; refine ⟨_, rfl, ?_⟩) | ((with_reducible refine zae (f := 164) rfl ?_); refine zaB (some 42) rfl rfl Tryd.func164 (by kernel_rfl) rfl #[.int .i64 a0, .string (⟨#[34, 39]⟩ : ByteArray)] rfl (by (try simp only [List.map_toArray, List.map_cons, List.map_nil]); first | done | rfl | (simp only [List.length_drop, List.length_take]; rfl)) ?_; (with_reducible refine (za7.calls kj11 a0 (⟨#[34, 39]⟩ : ByteArray) false _ A19.out).mono ?_); rintro e w' ⟨rfl, ⟨nd, rfl⟩⟩; refine ⟨_, rfl, ?_⟩) | ((with_reducible refine zae (f := 105) rfl ?_); refine zaB (some 45) rfl rfl Tryd.func105 (by kernel_rfl) rfl #[.int .i64 a0] rfl (by (try simp only [List.map_toArray, List.map_cons, List.map_nil]); first | done | rfl | (simp only [List.length_drop, List.length_take]; rfl)) ?_; (with_reducible refine (zbn.calls kj11 a0 t156 _ A21.out).mono ?_); rintro e w26 ⟨rfl, hb⟩; refine ⟨_, rfl, ?_⟩; have n0_ := zab.mk (zaw (by repeat (first | (with_reducible first | exact HB.out | apply zac | apply zaa | apply zad) | exact HB.out)) hb); clear HB; have HB := n0_; clear n0_; (try clear hb); (try clear hb2); (try clear hk); (try clear hi)) | ((with_reducible refine zae (f := 159) rfl ?_); refine zaB (some 49) rfl rfl Tryd.func159 (by kernel_rfl) rfl #[.int .i64 a0] rfl (by (try simp only [List.map_toArray, List.map_cons, List.map_nil]); first | done | rfl | (simp only [List.length_drop, List.length_take]; rfl)) ?_; (with_reducible refine (zbe.calls a0 true _ A24.out).mono ?_); rintro e w' ⟨rfl, ⟨nd, rfl⟩⟩; refine ⟨_, rfl, ?_⟩))
          go_ret
          exact ⟨by first | rfl | (simp [zam, zal] <;> rfl) | (simp [*, zam, zal] <;> rfl), by repeat (first | (with_reducible first | exact HB.out | apply zac | apply zaa | apply zad) | exact HB.out)⟩
         replace c25 := Bool.eq_false_iff.mpr c25
         subst c25
         replace H : (if a0 ≥ 7744 then (zay.j4 kj11 a0 (decide (a0 ≤ 7748))) else (zay.j4 kj11 a0 false)) = some r := by rw [if_neg (show ¬ (false = true) by decide)] at H; exact H
         have HC27 := zab.mk H; clear H
         go_upto_region 21 with (first | ((with_reducible refine zae (f := 164) rfl ?_); refine zaB (some 36) rfl rfl Tryd.func164 (by kernel_rfl) rfl #[.int .i64 a0, .string (⟨#[40, 91, 123, 60]⟩ : ByteArray)] rfl (by (try simp only [List.map_toArray, List.map_cons, List.map_nil]); first | done | rfl | (simp only [List.length_drop, List.length_take]; rfl)) ?_; (with_reducible refine (za7.calls kj11 a0 (⟨#[40, 91, 123, 60]⟩ : ByteArray) false _ A15.out).mono ?_); rintro e w' ⟨rfl, ⟨nd, rfl⟩⟩; refine ⟨_, rfl, ?_⟩) | ((with_reducible refine zae (f := 164) rfl ?_); refine zaB (some 39) rfl rfl Tryd.func164 (by kernel_rfl) rfl #[.int .i64 a0, .string (⟨#[41, 93, 125, 62, 44, 46, 33, 63, 58, 59]⟩ : ByteArray)] rfl (by (try simp only [List.map_toArray, List.map_cons, List.map_nil]); first | done | rfl | (simp only [List.length_drop, List.length_take]; rfl)) ?_; (with_reducible refine (za7.calls kj11 a0 (⟨#[41, 93, 125, 62, 44, 46, 33, 63, 58, 59]⟩ : ByteArray) false _ A17.out).mono ?_); rintro e w' ⟨rfl, ⟨nd, rfl⟩⟩; refine ⟨_, rfl, ?_⟩) | ((with_reducible refine zae (f := 164) rfl ?_); refine zaB (some 42) rfl rfl Tryd.func164 (by kernel_rfl) rfl #[.int .i64 a0, .string (⟨#[34, 39]⟩ : ByteArray)] rfl (by (try simp only [List.map_toArray, List.map_cons, List.map_nil]); first | done | rfl | (simp only [List.length_drop, List.length_take]; rfl)) ?_; (with_reducible refine (za7.calls kj11 a0 (⟨#[34, 39]⟩ : ByteArray) false _ A19.out).mono ?_); rintro e w' ⟨rfl, ⟨nd, rfl⟩⟩; refine ⟨_, rfl, ?_⟩) | ((with_reducible refine zae (f := 105) rfl ?_); refine zaB (some 45) rfl rfl Tryd.func105 (by kernel_rfl) rfl #[.int .i64 a0] rfl (by (try simp only [List.map_toArray, List.map_cons, List.map_nil]); first | done | rfl | (simp only [List.length_drop, List.length_take]; rfl)) ?_; (with_reducible refine (zbn.calls kj11 a0 t156 _ A21.out).mono ?_); rintro e w28 ⟨rfl, hb⟩; refine ⟨_, rfl, ?_⟩; have n0_ := zab.mk (zaw (by repeat (first | (with_reducible first | exact HB.out | apply zac | apply zaa | apply zad) | exact HB.out)) hb); clear HB; have HB := n0_; clear n0_; (try clear hb); (try clear hb2); (try clear hk); (try clear hi)) | ((with_reducible refine zae (f := 159) rfl ?_); refine zaB (some 49) rfl rfl Tryd.func159 (by kernel_rfl) rfl #[.int .i64 a0] rfl (by (try simp only [List.map_toArray, List.map_cons, List.map_nil]); first | done | rfl | (simp only [List.length_drop, List.length_take]; rfl)) ?_; (with_reducible refine (zbe.calls a0 false _ A24.out).mono ?_); rintro e w' ⟨rfl, ⟨nd, rfl⟩⟩; refine ⟨_, rfl, ?_⟩))
         (try simp only [Act.put, List.setIfInBounds_toArray, List.set_cons_zero, List.set_cons_succ])
         go_cut [50] (fun v50 wc => ∃ (kq : Nat) (x50_26 : Bool), v50 = .bool x50_26 ∧ zab (zay.j4 kq a0 x50_26 = some r) ∧ zab (kq ≤ kj11) ∧ zab (Below w.heap.size w wc))
         case first =>
          have H := HC27.out; clear HC27
          by_cases c29 : a0 ≥ 7744
          ·rw [if_pos c29] at H
           have c29b0 : decide (7744 ≤ a0) = true := decide_eq_true c29
           clear c29
           (first | rw [c29b0] | rw [c29b1] | (simp only [zbo, i32_w]; rw [c29b0]) | skip)
           have H' := zab.mk H; clear H
           go_wp2
           go_meet
           case rel => exact ⟨_, (decide (a0 ≤ 7748)), (by first | rfl | (simp; done) | (simp [*]; done)), H', ⟨by have := HJ1.out; have := HJ4.out; have := HJ7.out; have := HJ11.out; first | omega | exact Nat.le_refl _⟩, ⟨by repeat (first | (with_reducible first | exact HB.out | apply zac | apply zaa | apply zad) | exact HB.out)⟩⟩
          rw [if_neg c29] at H
          have c29b0 : decide (7744 ≤ a0) = false := decide_eq_false c29
          clear c29
          (first | rw [c29b0] | rw [c29b1] | (simp only [zbo, i32_w]; rw [c29b0]) | skip)
          have H' := zab.mk H; clear H
          go_wp2
          go_meet
          case rel => exact ⟨_, (false), (by first | rfl | (simp; done) | (simp [*]; done)), H', ⟨by have := HJ1.out; have := HJ4.out; have := HJ7.out; have := HJ11.out; first | omega | exact Nat.le_refl _⟩, ⟨by repeat (first | (with_reducible first | exact HB.out | apply zac | apply zaa | apply zad) | exact HB.out)⟩⟩
         case rest =>
          clear HC27
          try clear c4
          try clear c7
          try clear c10
          try clear c11
          try clear c11b0
          try clear c11b1
          try clear c14
          try clear c16
          try clear c18
          try clear c20
          try clear c22
          try clear c22b0
          try clear c22b1
          try clear c25
          obtain ⟨kq, x50_26, rfl, HA, HJ26, HB⟩ := hcut
          cases kq with
          | zero => exact absurd HA.out (by simp [zay.j4])
          | succ kj26 =>
           have H := HA.out; clear HA
           simp only [zay.j4] at H
           by_cases c30 : x50_26 = true
           ·subst c30
            replace H : (some 13) = some r := by rw [if_pos rfl] at H; exact H
            obtain rfl := Option.some.inj H
            go_wp2
            go_ret
            exact ⟨by first | rfl | (simp [zam, zal] <;> rfl) | (simp [*, zam, zal] <;> rfl), by repeat (first | (with_reducible first | exact HB.out | apply zac | apply zaa | apply zad) | exact HB.out)⟩
           replace c30 := Bool.eq_false_iff.mpr c30
           subst c30
           replace H : ((zbw.f kj26 a0).bind fun t158 => (if t158 = 7 then (zay.j5 kj26 a0 true) else ((zbw.f kj26 a0).bind fun t159 => (if t159 = 9 then (zay.j5 kj26 a0 true) else ((zbt.f a0).bind fun t160 => (zay.j5 kj26 a0 t160)))))) = some r := by rw [if_neg (show ¬ (false = true) by decide)] at H; exact H
           have HC31 := zab.mk H; clear H
           go_upto_region 23 with (fail)
           go_cut [57] (fun v57 wc => ∃ (kq : Nat) (x57_30 : Bool), v57 = .bool x57_30 ∧ zab (zay.j5 kq a0 x57_30 = some r) ∧ zab (kq ≤ kj26) ∧ zab (Below w.heap.size w wc))
           case first =>
            have H := HC31.out; clear HC31; replace H := Option.bind_eq_some_iff.mp H
            obtain ⟨t158, A320, H⟩ := H
            replace H : (if t158 = 7 then (zay.j5 kj26 a0 true) else ((zbw.f kj26 a0).bind fun t159 => (if t159 = 9 then (zay.j5 kj26 a0 true) else ((zbt.f a0).bind fun t160 => (zay.j5 kj26 a0 t160))))) = some r := H
            have A32 := zab.mk A320; clear A320
            by_cases c33 : t158 = 7
            ·rw [if_pos c33] at H
             have c33b0 : (t158 == 7) = true := beq_iff_eq.mpr c33
             have c33b1 : (t158 != 7) = false := bne_eq_false_iff_eq.mpr c33
             clear c33
             (first | rw [c33b0] | rw [c33b1] | (simp only [zbo, i32_w]; rw [c33b0]) | skip)
             have H' := zab.mk H; clear H
             go_wp2_with (first | ((with_reducible refine zae (f := 90) rfl ?_); refine zaB (some 59) rfl rfl Tryd.func90 (by kernel_rfl) rfl #[.int .i64 a0] rfl (by (try simp only [List.map_toArray, List.map_cons, List.map_nil]); first | done | rfl | (simp only [List.length_drop, List.length_take]; rfl)) ?_; (with_reducible refine (zbw.calls kj26 a0 t158 _ A32.out).mono ?_); rintro e w34 ⟨rfl, hb⟩; refine ⟨_, rfl, ?_⟩; have n0_ := zab.mk (zaw (by repeat (first | (with_reducible first | exact HB.out | apply zac | apply zaa | apply zad) | exact HB.out)) hb); clear HB; have HB := n0_; clear n0_; (try clear hb); (try clear hb2); (try clear hk); (try clear hi)))
             go_meet
             case rel => exact ⟨_, (true), (by first | rfl | (simp; done) | (simp [*]; done)), H', ⟨by have := HJ1.out; have := HJ4.out; have := HJ7.out; have := HJ11.out; have := HJ26.out; first | omega | exact Nat.le_refl _⟩, ⟨by repeat (first | (with_reducible first | exact HB.out | apply zac | apply zaa | apply zad) | exact HB.out)⟩⟩
            rw [if_neg c33] at H
            have c33b0 : (t158 == 7) = false := beq_eq_false_iff_ne.mpr c33
            have c33b1 : (t158 != 7) = true := bne_iff_ne.mpr c33
            (first | rw [c33b0] | rw [c33b1] | (simp only [zbo, i32_w]; rw [c33b0]) | skip)
            replace H := Option.bind_eq_some_iff.mp H
            obtain ⟨t159, A350, H⟩ := H
            replace H : (if t159 = 9 then (zay.j5 kj26 a0 true) else ((zbt.f a0).bind fun t160 => (zay.j5 kj26 a0 t160))) = some r := H
            have A35 := zab.mk A350; clear A350
            by_cases c36 : t159 = 9
            ·rw [if_pos c36] at H
             have c36b0 : (t159 == 9) = true := beq_iff_eq.mpr c36
             have c36b1 : (t159 != 9) = false := bne_eq_false_iff_eq.mpr c36
             clear c36; have H' := zab.mk H; clear H
             go_wp2_with (first | ((with_reducible refine zae (f := 90) rfl ?_); refine zaB (some 59) rfl rfl Tryd.func90 (by kernel_rfl) rfl #[.int .i64 a0] rfl (by (try simp only [List.map_toArray, List.map_cons, List.map_nil]); first | done | rfl | (simp only [List.length_drop, List.length_take]; rfl)) ?_; (with_reducible refine (zbw.calls kj26 a0 t158 _ A32.out).mono ?_); rintro e w37 ⟨rfl, hb⟩; refine ⟨_, rfl, ?_⟩; have n0_ := zab.mk (zaw (by repeat (first | (with_reducible first | exact HB.out | apply zac | apply zaa | apply zad) | exact HB.out)) hb); clear HB; have HB := n0_; clear n0_; (try clear hb); (try clear hb2); (try clear hk); (try clear hi)) | (go_at_call 90; (with_reducible refine (zbw.calls kj26 a0 t159 _ A35.out).mono ?_); rintro e w38 ⟨rfl, hb⟩; have n0_ := zab.mk (zaw (by repeat (first | (with_reducible first | exact HB.out | apply zac | apply zaa | apply zad) | exact HB.out)) hb); clear HB; have HB := n0_; clear n0_; (try clear hb); (try clear hb2); (try clear hk); (try clear hi)))
             go_meet
             case rel => exact ⟨_, (true), (by first | rfl | (simp; done) | (simp [*]; done)), H', ⟨by have := HJ1.out; have := HJ4.out; have := HJ7.out; have := HJ11.out; have := HJ26.out; first | omega | exact Nat.le_refl _⟩, ⟨by repeat (first | (with_reducible first | exact HB.out | apply zac | apply zaa | apply zad) | exact HB.out)⟩⟩
            rw [if_neg c36] at H
            have c36b0 : (t159 == 9) = false := beq_eq_false_iff_ne.mpr c36
            have c36b1 : (t159 != 9) = true := bne_iff_ne.mpr c36
            replace H := Option.bind_eq_some_iff.mp H
            obtain ⟨t160, A390, H⟩ := H
            replace H : (zay.j5 kj26 a0 t160) = some r := H
            have A39 := zab.mk A390; clear A390; have H' := zab.mk H; clear H
            go_wp2_with (first | ((with_reducible refine zae (f := 90) rfl ?_); refine zaB (some 59) rfl rfl Tryd.func90 (by kernel_rfl) rfl #[.int .i64 a0] rfl (by (try simp only [List.map_toArray, List.map_cons, List.map_nil]); first | done | rfl | (simp only [List.length_drop, List.length_take]; rfl)) ?_; (with_reducible refine (zbw.calls kj26 a0 t158 _ A32.out).mono ?_); rintro e w40 ⟨rfl, hb⟩; refine ⟨_, rfl, ?_⟩; have n0_ := zab.mk (zaw (by repeat (first | (with_reducible first | exact HB.out | apply zac | apply zaa | apply zad) | exact HB.out)) hb); clear HB; have HB := n0_; clear n0_; (try clear hb); (try clear hb2); (try clear hk); (try clear hi)) | (go_at_call 90; (with_reducible refine (zbw.calls kj26 a0 t159 _ A35.out).mono ?_); rintro e w41 ⟨rfl, hb⟩; have n0_ := zab.mk (zaw (by repeat (first | (with_reducible first | exact HB.out | apply zac | apply zaa | apply zad) | exact HB.out)) hb); clear HB; have HB := n0_; clear n0_; (try clear hb); (try clear hb2); (try clear hk); (try clear hi)) | (go_at_call 158; (with_reducible refine (zbt.calls a0 t160 _ A39.out).mono ?_); rintro e w' ⟨rfl, ⟨nd, rfl⟩⟩))
            go_meet
            case rel => exact ⟨_, (t160), (by first | rfl | (simp; done) | (simp [*]; done)), H', ⟨by have := HJ1.out; have := HJ4.out; have := HJ7.out; have := HJ11.out; have := HJ26.out; first | omega | exact Nat.le_refl _⟩, ⟨by repeat (first | (with_reducible first | exact HB.out | apply zac | apply zaa | apply zad) | exact HB.out)⟩⟩
           case rest =>
            clear HC31
            try clear c4
            try clear c7
            try clear c10
            try clear c11
            try clear c11b0
            try clear c11b1
            try clear c14
            try clear c16
            try clear c18
            try clear c20
            try clear c22
            try clear c22b0
            try clear c22b1
            try clear c25
            try clear c30
            obtain ⟨kq, x57_30, rfl, HA, HJ30, HB⟩ := hcut
            cases kq with
            | zero => exact absurd HA.out (by simp [zay.j5])
            | succ kj30 =>
             have H := HA.out; clear HA
             simp only [zay.j5] at H
             by_cases c42 : x57_30 = true
             ·subst c42
              replace H : (some 10) = some r := by rw [if_pos rfl] at H; exact H
              obtain rfl := Option.some.inj H
              go_wp2
              go_ret
              exact ⟨by first | rfl | (simp [zam, zal] <;> rfl) | (simp [*, zam, zal] <;> rfl), by repeat (first | (with_reducible first | exact HB.out | apply zac | apply zaa | apply zad) | exact HB.out)⟩
             replace c42 := Bool.eq_false_iff.mpr c42
             subst c42
             replace H : ((zbw.f kj30 a0).bind fun t161 => (if t161 = 8 then (some 11) else (some 0))) = some r := by rw [if_neg (show ¬ (false = true) by decide)] at H; exact H
             replace H := Option.bind_eq_some_iff.mp H
             obtain ⟨t161, A430, H⟩ := H
             replace H : (if t161 = 8 then (some 11) else (some 0)) = some r := H
             have A43 := zab.mk A430; clear A430
             by_cases c44 : t161 = 8
             ·rw [if_pos c44] at H
              have c44b0 : (t161 == 8) = true := beq_iff_eq.mpr c44
              have c44b1 : (t161 != 8) = false := bne_eq_false_iff_eq.mpr c44
              clear c44; obtain rfl := Option.some.inj H
              go_wp2_with (first | ((with_reducible refine zae (f := 90) rfl ?_); refine zaB (some 72) rfl rfl Tryd.func90 (by kernel_rfl) rfl #[.int .i64 a0] rfl (by (try simp only [List.map_toArray, List.map_cons, List.map_nil]); first | done | rfl | (simp only [List.length_drop, List.length_take]; rfl)) ?_; (with_reducible refine (zbw.calls kj30 a0 t161 _ A43.out).mono ?_); rintro e w45 ⟨rfl, hb⟩; refine ⟨_, rfl, ?_⟩; have n0_ := zab.mk (zaw (by repeat (first | (with_reducible first | exact HB.out | apply zac | apply zaa | apply zad) | exact HB.out)) hb); clear HB; have HB := n0_; clear n0_; (try clear hb); (try clear hb2); (try clear hk); (try clear hi)))
              go_ret
              exact ⟨by first | rfl | (simp [zam, zal] <;> rfl) | (simp [*, zam, zal] <;> rfl), by repeat (first | (with_reducible first | exact HB.out | apply zac | apply zaa | apply zad) | exact HB.out)⟩
             rw [if_neg c44] at H
             have c44b0 : (t161 == 8) = false := beq_eq_false_iff_ne.mpr c44
             have c44b1 : (t161 != 8) = true := bne_iff_ne.mpr c44
             obtain rfl := Option.some.inj H
             go_wp2_with (first | ((with_reducible refine zae (f := 90) rfl ?_); refine zaB (some 72) rfl rfl Tryd.func90 (by kernel_rfl) rfl #[.int .i64 a0] rfl (by (try simp only [List.map_toArray, List.map_cons, List.map_nil]); first | done | rfl | (simp only [List.length_drop, List.length_take]; rfl)) ?_; (with_reducible refine (zbw.calls kj30 a0 t161 _ A43.out).mono ?_); rintro e w46 ⟨rfl, hb⟩; refine ⟨_, rfl, ?_⟩; have n0_ := zab.mk (zaw (by repeat (first | (with_reducible first | exact HB.out | apply zac | apply zaa | apply zad) | exact HB.out)) hb); clear HB; have HB := n0_; clear n0_; (try clear hb); (try clear hb2); (try clear hk); (try clear hi)))
             go_ret
             exact ⟨by first | rfl | (simp [zam, zal] <;> rfl) | (simp [*, zam, zal] <;> rfl), by repeat (first | (with_reducible first | exact HB.out | apply zac | apply zaa | apply zad) | exact HB.out)⟩
end Go.Proofs.YtbppeepihlajoaaDoor.P
