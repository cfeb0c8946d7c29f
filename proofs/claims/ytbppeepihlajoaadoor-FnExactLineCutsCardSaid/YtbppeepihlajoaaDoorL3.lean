/- Written by a program of this session: plain Lean functions for Go functions, and for each the proof that the call comes to what the function says. -/
import Derived.Test.YtbppeepihlajoaaDoorL0
import Derived.Test.YtbppeepihlajoaaDoorL2
namespace Go.Proofs.YtbppeepihlajoaaDoor.P
open Go.RowKit Go.Proofs.YtbppeepihlajoaaDoorW.PrintWords Go.Proofs.YtbppeepihlajoaaDoorW.PrintLast Go.Proofs.YtbppeepihlajoaaDoorW.PrintMore
attribute [local go_sem] max2_int min2_int max_two min_two max_three min_three max_four min_four
set_option linter.unusedVariables false
set_option linter.unusedSimpArgs false
mutual
def zaK.j2 : Nat → ByteArray → Int → Int → Int → Option (Int × Int × Bool)
 | 0, _, _, _, _ => none
 | k + 1, x0, x1, x8, x9 => if (wrap64 (x1 + x8)) ≥ (x0.size : Int) then (some (65533, 1, false)) else (zaK.l0 k x0 x1 x8 x9 1)
def zaK.l0 : Nat → ByteArray → Int → Int → Int → Int → Option (Int × Int × Bool)
 | 0, _, _, _, _, _ => none
 | k + 1, x0, x1, x8, x9, x10 => if x10 ≤ x8 then (if 0 ≤ (wrap64 (x1 + x10)) then (if (wrap64 (x1 + x10)) < (x0.size : Int) then (if (wrap64 (bt x0 (wrap64 (x1 + x10)))) < 128 then (some (65533, 1, false)) else (if (wrap64 (bt x0 (wrap64 (x1 + x10)))) > 191 then (some (65533, 1, false)) else (zaK.l0 k x0 x1 x8 (wrap64 ((wrap64 (x9 * 64)) + (Int.tmod (wrap64 (bt x0 (wrap64 (x1 + x10)))) 64))) (wrap64 (x10 + 1))))) else (none)) else (none)) else ((spec_l01IsPoint.f x9).bind fun t135 => (if t135 = true then ((zbr.f k x9).bind fun t136 => (if (t136.size : Int) = (wrap64 (x8 + 1)) then (some (x9, wrap64 (x8 + 1), true)) else (some (65533, 1, false)))) else (some (65533, 1, false))))
def zaK.j0 : Nat → ByteArray → Int → Int → Bool → Option (Int × Int × Bool)
 | 0, _, _, _, _ => none
 | k + 1, x0, x1, x7, x21 => if x21 = true then (zaK.j2 k x0 x1 1 (Int.tmod x7 32)) else (if x7 ≥ 224 then (zaK.j1 k x0 x1 x7 (decide (x7 < 240))) else (zaK.j1 k x0 x1 x7 false))
def zaK.j1 : Nat → ByteArray → Int → Int → Bool → Option (Int × Int × Bool)
 | 0, _, _, _, _ => none
 | k + 1, x0, x1, x7, x30 => if x30 = true then (zaK.j2 k x0 x1 2 (Int.tmod x7 16)) else (if x7 ≥ 240 then (if x7 < 245 then (zaK.j2 k x0 x1 3 (Int.tmod x7 8)) else (some (65533, 1, false))) else (some (65533, 1, false)))
end
def zaK.f (k : Nat) (a0 : ByteArray) (a1 : Int) : Option (Int × Int × Bool) := if 0 ≤ a1 then (if a1 < (a0.size : Int) then (if (wrap64 (bt a0 a1)) < 128 then (some (wrap64 (bt a0 a1), 1, true)) else (if (wrap64 (bt a0 a1)) ≥ 194 then (zaK.j0 k a0 a1 (wrap64 (bt a0 a1)) (decide ((wrap64 (bt a0 a1)) < 224))) else (zaK.j0 k a0 a1 (wrap64 (bt a0 a1)) false))) else (none)) else (none)
set_option maxHeartbeats 8000000 in
set_option maxRecDepth 100000 in
theorem zaK.calls (k : Nat) (a0 : ByteArray) (a1 : Int) (r1 : Int) (r2 : Int) (r3 : Bool) (w : World) (h : zaK.f k a0 a1 = some (r1, r2, r3)) :
  Calls Tryd.prog 109 #[.string a0, .int .i64 a1] w fun e w' => e = .returned (.tuple #[.int .i64 r1, .int .i64 r2, .bool r3]) ∧ Below w.heap.size w w' := by
 have HB := zab.mk (Below.refl w.heap.size w)
 have H : (if 0 ≤ a1 then (if a1 < (a0.size : Int) then (if (wrap64 (bt a0 a1)) < 128 then (some (wrap64 (bt a0 a1), 1, true)) else (if (wrap64 (bt a0 a1)) ≥ 194 then (zaK.j0 k a0 a1 (wrap64 (bt a0 a1)) (decide ((wrap64 (bt a0 a1)) < 224))) else (zaK.j0 k a0 a1 (wrap64 (bt a0 a1)) false))) else (none)) else (none)) = some (r1, r2, r3) := h
 clear h
 by_cases c3 : 0 ≤ a1
 ·rw [if_pos c3] at H
  have c3b0 : decide (0 ≤ a1) = true := decide_eq_true c3
  clear c3
  by_cases c4 : a1 < (a0.size : Int)
  ·rw [if_pos c4] at H
   have c4b0 : decide (a1 < (a0.size : Int)) = true := decide_eq_true c4
   clear c4; have HC6 := zab.mk H; clear H
   have p5 : 0 ≤ (a1 : Int) := of_decide_eq_true (by first | (with_reducible assumption) | assumption)
   have q5 : a1 < (a0.size : Int) := of_decide_eq_true (by first | (with_reducible assumption) | assumption)
   have hx5 := bt_at a0 a1
   replace p5 := eq_true p5
   replace q5 := eq_true q5
   go_enter Tryd.func109, Tryd.ntmps109
   go_upto_block 0 with (fail)
   go_cut [8, 9] (fun v8 v9 wc => ∃ (kq : Nat) (x8_5 : Int) (x9_5 : Int), v8 = .int .i64 x8_5 ∧ v9 = .int .i64 x9_5 ∧ zab (zaK.j2 kq a0 a1 x8_5 x9_5 = some (r1, r2, r3)) ∧ zab (kq ≤ k) ∧ zab (Below w.heap.size w wc))
   case first =>
    have H := HC6.out; clear HC6
    by_cases c7 : (wrap64 (bt a0 a1)) < 128
    ·rw [if_pos c7] at H
     have c7b0 : decide ((wrap64 (bt a0 a1)) < 128) = true := decide_eq_true c7
     clear c7
     (first | rw [c7b0] | rw [c7b1] | (simp only [zbo, i32_w]; rw [c7b0]) | skip)
     simp only [Option.some.injEq, Prod.mk.injEq] at H
     obtain ⟨rfl, rfl, rfl⟩ := H
     go_wp2
     go_ret3
     exact ⟨by first | rfl | (simp [zam, zal] <;> rfl) | (simp [*, zam, zal] <;> rfl), by repeat (first | (with_reducible first | exact HB.out | apply zac | apply zaa | apply zad) | exact HB.out)⟩
    rw [if_neg c7] at H
    have c7b0 : decide ((wrap64 (bt a0 a1)) < 128) = false := decide_eq_false c7
    clear c7
    (first | rw [c7b0] | rw [c7b1] | (simp only [zbo, i32_w]; rw [c7b0]) | skip)
    have HC8 := zab.mk H; clear H
    go_upto_region 7 with (fail)
    go_cut [21] (fun v21 wc => ∃ (kq : Nat) (x21_7 : Bool), v21 = .bool x21_7 ∧ zab (zaK.j0 kq a0 a1 (wrap64 (bt a0 a1)) x21_7 = some (r1, r2, r3)) ∧ zab (kq ≤ k) ∧ zab (Below w.heap.size w wc))
    case first =>
     have H := HC8.out; clear HC8
     by_cases c9 : (wrap64 (bt a0 a1)) ≥ 194
     ·rw [if_pos c9] at H
      have c9b0 : decide (194 ≤ (wrap64 (bt a0 a1))) = true := decide_eq_true c9
      clear c9
      (first | rw [c9b0] | rw [c9b1] | (simp only [zbo, i32_w]; rw [c9b0]) | skip)
      have H' := zab.mk H; clear H
      go_wp2
      go_meet
      case rel => exact ⟨_, (decide ((wrap64 (bt a0 a1)) < 224)), (by first | rfl | (simp; done) | (simp [*]; done)), H', ⟨by first | omega | exact Nat.le_refl _⟩, ⟨by repeat (first | (with_reducible first | exact HB.out | apply zac | apply zaa | apply zad) | exact HB.out)⟩⟩
     rw [if_neg c9] at H
     have c9b0 : decide (194 ≤ (wrap64 (bt a0 a1))) = false := decide_eq_false c9
     clear c9
     (first | rw [c9b0] | rw [c9b1] | (simp only [zbo, i32_w]; rw [c9b0]) | skip)
     have H' := zab.mk H; clear H
     go_wp2
     go_meet
     case rel => exact ⟨_, (false), (by first | rfl | (simp; done) | (simp [*]; done)), H', ⟨by first | omega | exact Nat.le_refl _⟩, ⟨by repeat (first | (with_reducible first | exact HB.out | apply zac | apply zaa | apply zad) | exact HB.out)⟩⟩
    case rest =>
     clear HC8
     try clear c3b0
     try clear c4b0
     try clear p5
     try clear q5
     try clear hx5
     try clear c7b0
     try clear c7b1
     try clear p5
     try clear q5
     obtain ⟨kq, x21_7, rfl, HA, HJ7, HB⟩ := hcut
     cases kq with
     | zero => exact absurd HA.out (by simp [zaK.j0])
     | succ kj7 =>
      have H := HA.out; clear HA
      simp only [zaK.j0] at H
      by_cases c10 : x21_7 = true
      ·subst c10
       replace H : (zaK.j2 kj7 a0 a1 1 (Int.tmod (wrap64 (bt a0 a1)) 32)) = some (r1, r2, r3) := by rw [if_pos rfl] at H; exact H
       have H' := zab.mk H; clear H
       go_wp2
       go_meet
       case rel => exact ⟨_, (1), (Int.tmod (wrap64 (bt a0 a1)) 32), (by first | rfl | (simp; done) | (simp [*]; done)), (by first | rfl | (simp; done) | (simp [*]; done)), H', ⟨by have := HJ7.out; first | omega | exact Nat.le_refl _⟩, ⟨by repeat (first | (with_reducible first | exact HB.out | apply zac | apply zaa | apply zad) | exact HB.out)⟩⟩
      replace c10 := Bool.eq_false_iff.mpr c10
      subst c10
      replace H : (if (wrap64 (bt a0 a1)) ≥ 224 then (zaK.j1 kj7 a0 a1 (wrap64 (bt a0 a1)) (decide ((wrap64 (bt a0 a1)) < 240))) else (zaK.j1 kj7 a0 a1 (wrap64 (bt a0 a1)) false)) = some (r1, r2, r3) := by rw [if_neg (show ¬ (false = true) by decide)] at H; exact H
      have HC11 := zab.mk H; clear H
      go_upto_region 10 with (fail)
      go_cut [30] (fun v30 wc => ∃ (kq : Nat) (x30_10 : Bool), v30 = .bool x30_10 ∧ zab (zaK.j1 kq a0 a1 (wrap64 (bt a0 a1)) x30_10 = some (r1, r2, r3)) ∧ zab (kq ≤ kj7) ∧ zab (Below w.heap.size w wc))
      case first =>
       have H := HC11.out; clear HC11
       by_cases c12 : (wrap64 (bt a0 a1)) ≥ 224
       ·rw [if_pos c12] at H
        have c12b0 : decide (224 ≤ (wrap64 (bt a0 a1))) = true := decide_eq_true c12
        clear c12
        (first | rw [c12b0] | rw [c12b1] | (simp only [zbo, i32_w]; rw [c12b0]) | skip)
        have H' := zab.mk H; clear H
        go_wp2
        go_meet
        case rel => exact ⟨_, (decide ((wrap64 (bt a0 a1)) < 240)), (by first | rfl | (simp; done) | (simp [*]; done)), H', ⟨by have := HJ7.out; first | omega | exact Nat.le_refl _⟩, ⟨by repeat (first | (with_reducible first | exact HB.out | apply zac | apply zaa | apply zad) | exact HB.out)⟩⟩
       rw [if_neg c12] at H
       have c12b0 : decide (224 ≤ (wrap64 (bt a0 a1))) = false := decide_eq_false c12
       clear c12
       (first | rw [c12b0] | rw [c12b1] | (simp only [zbo, i32_w]; rw [c12b0]) | skip)
       have H' := zab.mk H; clear H
       go_wp2
       go_meet
       case rel => exact ⟨_, (false), (by first | rfl | (simp; done) | (simp [*]; done)), H', ⟨by have := HJ7.out; first | omega | exact Nat.le_refl _⟩, ⟨by repeat (first | (with_reducible first | exact HB.out | apply zac | apply zaa | apply zad) | exact HB.out)⟩⟩
      case rest =>
       clear HC11
       try clear c3b0
       try clear c4b0
       try clear p5
       try clear q5
       try clear hx5
       try clear c7b0
       try clear c7b1
       try clear c10
       try clear p5
       try clear q5
       obtain ⟨kq, x30_10, rfl, HA, HJ10, HB⟩ := hcut
       cases kq with
       | zero => exact absurd HA.out (by simp [zaK.j1])
       | succ kj10 =>
        have H := HA.out; clear HA
        simp only [zaK.j1] at H
        by_cases c13 : x30_10 = true
        ·subst c13
         replace H : (zaK.j2 kj10 a0 a1 2 (Int.tmod (wrap64 (bt a0 a1)) 16)) = some (r1, r2, r3) := by rw [if_pos rfl] at H; exact H
         have H' := zab.mk H; clear H
         go_wp2
         go_meet
         case rel => exact ⟨_, (2), (Int.tmod (wrap64 (bt a0 a1)) 16), (by first | rfl | (simp; done) | (simp [*]; done)), (by first | rfl | (simp; done) | (simp [*]; done)), H', ⟨by have := HJ7.out; have := HJ10.out; first | omega | exact Nat.le_refl _⟩, ⟨by repeat (first | (with_reducible first | exact HB.out | apply zac | apply zaa | apply zad) | exact HB.out)⟩⟩
        replace c13 := Bool.eq_false_iff.mpr c13
        subst c13
        replace H : (if (wrap64 (bt a0 a1)) ≥ 240 then (if (wrap64 (bt a0 a1)) < 245 then (zaK.j2 kj10 a0 a1 3 (Int.tmod (wrap64 (bt a0 a1)) 8)) else (some (65533, 1, false))) else (some (65533, 1, false))) = some (r1, r2, r3) := by rw [if_neg (show ¬ (false = true) by decide)] at H; exact H
        by_cases c14 : (wrap64 (bt a0 a1)) ≥ 240
        ·rw [if_pos c14] at H
         have c14b0 : decide (240 ≤ (wrap64 (bt a0 a1))) = true := decide_eq_true c14
         clear c14
         by_cases c15 : (wrap64 (bt a0 a1)) < 245
         ·rw [if_pos c15] at H
          have c15b0 : decide ((wrap64 (bt a0 a1)) < 245) = true := decide_eq_true c15
          clear c15; have H' := zab.mk H; clear H
          go_wp2
          go_meet
          case rel => exact ⟨_, (3), (Int.tmod (wrap64 (bt a0 a1)) 8), (by first | rfl | (simp; done) | (simp [*]; done)), (by first | rfl | (simp; done) | (simp [*]; done)), H', ⟨by have := HJ7.out; have := HJ10.out; first | omega | exact Nat.le_refl _⟩, ⟨by repeat (first | (with_reducible first | exact HB.out | apply zac | apply zaa | apply zad) | exact HB.out)⟩⟩
         rw [if_neg c15] at H
         have c15b0 : decide ((wrap64 (bt a0 a1)) < 245) = false := decide_eq_false c15
         clear c15
         simp only [Option.some.injEq, Prod.mk.injEq] at H
         obtain ⟨rfl, rfl, rfl⟩ := H
         go_wp2
         go_ret3
         exact ⟨by first | rfl | (simp [zam, zal] <;> rfl) | (simp [*, zam, zal] <;> rfl), by repeat (first | (with_reducible first | exact HB.out | apply zac | apply zaa | apply zad) | exact HB.out)⟩
        rw [if_neg c14] at H
        have c14b0 : decide (240 ≤ (wrap64 (bt a0 a1))) = false := decide_eq_false c14
        clear c14
        simp only [Option.some.injEq, Prod.mk.injEq] at H
        obtain ⟨rfl, rfl, rfl⟩ := H
        go_wp2
        go_ret3
        exact ⟨by first | rfl | (simp [zam, zal] <;> rfl) | (simp [*, zam, zal] <;> rfl), by repeat (first | (with_reducible first | exact HB.out | apply zac | apply zaa | apply zad) | exact HB.out)⟩
   case rest =>
    clear HC6
    try clear c3b0
    try clear c4b0
    try clear p5
    try clear q5
    try clear hx5
    try clear p5
    try clear q5
    obtain ⟨kq, x8_5, x9_5, rfl, rfl, HA, HJ5, HB⟩ := hcut
    cases kq with
    | zero => exact absurd HA.out (by simp [zaK.j2])
    | succ kj5 =>
     have H := HA.out; clear HA
     simp only [zaK.j2] at H
     by_cases c16 : (wrap64 (a1 + x8_5)) ≥ (a0.size : Int)
     ·rw [if_pos c16] at H
      have c16b0 : decide ((a0.size : Int) ≤ (wrap64 (a1 + x8_5))) = true := decide_eq_true c16
      clear c16
      simp only [Option.some.injEq, Prod.mk.injEq] at H
      obtain ⟨rfl, rfl, rfl⟩ := H
      go_wp2
      go_ret3
      exact ⟨by first | rfl | (simp [zam, zal] <;> rfl) | (simp [*, zam, zal] <;> rfl), by repeat (first | (with_reducible first | exact HB.out | apply zac | apply zaa | apply zad) | exact HB.out)⟩
     rw [if_neg c16] at H
     have c16b0 : decide ((a0.size : Int) ≤ (wrap64 (a1 + x8_5))) = false := decide_eq_false c16
     clear c16; have H' := zab.mk H; clear H
     go_wp2
     go_loopg [9, 10] kj5 (fun kq v9 v10 w' => ∃ (x9_2 : Int) (x10_2 : Int), v9 = .int .i64 x9_2 ∧ v10 = .int .i64 x10_2 ∧ zab (zaK.l0 kq a0 a1 x8_5 x9_2 x10_2 = some (r1, r2, r3)) ∧ zab (kq ≤ kj5) ∧ zab (Below w.heap.size w w'))
     case atStart => exact ⟨(x9_5), (1), (by first | rfl | (simp; done) | (simp [*]; done)), (by first | rfl | (simp; done) | (simp [*]; done)), H', ⟨Nat.le_refl _⟩, ⟨by repeat (first | (with_reducible first | exact HB.out | apply zac | apply zaa | apply zad) | exact HB.out)⟩⟩
     case round =>
      clear H'
      try clear c3b0
      try clear c4b0
      try clear p5
      try clear q5
      try clear hx5
      try clear c16b0
      try clear p5
      try clear q5
      obtain ⟨x9_2, x10_2, rfl, rfl, HA, HK2, HB⟩ := hrel
      cases gk with
      | zero => exact absurd HA.out (by simp [zaK.l0])
      | succ k2 =>
       have H := HA.out; clear HA
       simp only [zaK.l0] at H
       by_cases c17 : x10_2 ≤ x8_5
       ·rw [if_pos c17] at H
        have c17b0 : decide (x10_2 ≤ x8_5) = true := decide_eq_true c17
        clear c17
        obtain ⟨ji18, hji18⟩ : ∃ j_ : Int, (wrap64 (a1 + x10_2)) = j_ := ⟨_, rfl⟩
        replace H : (if 0 ≤ (ji18) then (if (ji18) < (a0.size : Int) then (if (wrap64 (bt a0 (ji18))) < 128 then (some (65533, 1, false)) else (if (wrap64 (bt a0 (ji18))) > 191 then (some (65533, 1, false)) else (zaK.l0 k2 a0 a1 x8_5 (wrap64 ((wrap64 (x9_2 * 64)) + (Int.tmod (wrap64 (bt a0 (ji18))) 64))) (wrap64 (x10_2 + 1))))) else (none)) else (none)) = some (r1, r2, r3) := by first | (rw [hji18] at H; exact H) | (simp only [hji18] at H ⊢; exact H)
        have hji18w : (IntKind.i64.wrap (a1 + x10_2)) = ji18 := (zbo _).trans hji18
        by_cases c19 : 0 ≤ (ji18)
        ·rw [if_pos c19] at H
         have c19b0 : decide (0 ≤ (ji18)) = true := decide_eq_true c19
         clear c19
         by_cases c20 : (ji18) < (a0.size : Int)
         ·rw [if_pos c20] at H
          have c20b0 : decide ((ji18) < (a0.size : Int)) = true := decide_eq_true c20
          clear c20
          by_cases c22 : (wrap64 (bt a0 (ji18))) < 128
          ·rw [if_pos c22] at H
           have c22b0 : decide ((wrap64 (bt a0 (ji18))) < 128) = true := decide_eq_true c22
           clear c22
           simp only [Option.some.injEq, Prod.mk.injEq] at H
           obtain ⟨rfl, rfl, rfl⟩ := H
           have p21 : 0 ≤ ((ji18) : Int) := of_decide_eq_true (by first | (with_reducible assumption) | assumption)
           have q21 : (ji18) < (a0.size : Int) := of_decide_eq_true (by first | (with_reducible assumption) | assumption)
           have hx21 := bt_at a0 (ji18)
           replace p21 := eq_true p21
           replace q21 := eq_true q21
           go_wp2
           go_ret3
           exact ⟨by first | rfl | (simp [zam, zal] <;> rfl) | (simp only [← hji18]; first | rfl | (simp [zam, zal] <;> rfl)) | (simp [*, zam, zal] <;> rfl), by repeat (first | (with_reducible first | exact HB.out | apply zac | apply zaa | apply zad) | exact HB.out)⟩
          rw [if_neg c22] at H
          have c22b0 : decide ((wrap64 (bt a0 (ji18))) < 128) = false := decide_eq_false c22
          clear c22
          by_cases c23 : (wrap64 (bt a0 (ji18))) > 191
          ·rw [if_pos c23] at H
           have c23b0 : decide (191 < (wrap64 (bt a0 (ji18)))) = true := decide_eq_true c23
           clear c23
           simp only [Option.some.injEq, Prod.mk.injEq] at H
           obtain ⟨rfl, rfl, rfl⟩ := H
           have p21 : 0 ≤ ((ji18) : Int) := of_decide_eq_true (by first | (with_reducible assumption) | assumption)
           have q21 : (ji18) < (a0.size : Int) := of_decide_eq_true (by first | (with_reducible assumption) | assumption)
           have hx21 := bt_at a0 (ji18)
           replace p21 := eq_true p21
           replace q21 := eq_true q21
           go_wp2
           go_ret3
           exact ⟨by first | rfl | (simp [zam, zal] <;> rfl) | (simp only [← hji18]; first | rfl | (simp [zam, zal] <;> rfl)) | (simp [*, zam, zal] <;> rfl), by repeat (first | (with_reducible first | exact HB.out | apply zac | apply zaa | apply zad) | exact HB.out)⟩
          rw [if_neg c23] at H
          have c23b0 : decide (191 < (wrap64 (bt a0 (ji18)))) = false := decide_eq_false c23
          clear c23; have H' := zab.mk H; clear H
          have p21 : 0 ≤ ((ji18) : Int) := of_decide_eq_true (by first | (with_reducible assumption) | assumption)
          have q21 : (ji18) < (a0.size : Int) := of_decide_eq_true (by first | (with_reducible assumption) | assumption)
          have hx21 := bt_at a0 (ji18)
          replace p21 := eq_true p21
          replace q21 := eq_true q21
          go_wp2
          go_roundg k2
          case measure => have := HJ5.out; have := HK2.out; omega
          case rel => exact ⟨(wrap64 ((wrap64 (x9_2 * 64)) + (Int.tmod (wrap64 (bt a0 (ji18))) 64))), (wrap64 (x10_2 + 1)), (by first | rfl | (simp; done) | (simp only [← hji18] <;> (first | rfl | simp)) | (simp [*]; done)), (by first | rfl | (simp; done) | (simp [*]; done)), H', ⟨by have := HJ5.out; have := HK2.out; omega⟩, ⟨by repeat (first | (with_reducible first | exact HB.out | apply zac | apply zaa | apply zad) | exact HB.out)⟩⟩
         rw [if_neg c20] at H
         exact absurd H (by simp)
        rw [if_neg c19] at H
        exact absurd H (by simp)
       rw [if_neg c17] at H
       have c17b0 : decide (x10_2 ≤ x8_5) = false := decide_eq_false c17
       clear c17; replace H := Option.bind_eq_some_iff.mp H
       obtain ⟨t135, A240, H⟩ := H
       replace H : (if t135 = true then ((zbr.f k2 x9_2).bind fun t136 => (if (t136.size : Int) = (wrap64 (x8_5 + 1)) then (some (x9_2, wrap64 (x8_5 + 1), true)) else (some (65533, 1, false)))) else (some (65533, 1, false))) = some (r1, r2, r3) := H
       have A24 := zab.mk A240; clear A240
       by_cases c25 : t135 = true
       ·subst c25
        replace H : ((zbr.f k2 x9_2).bind fun t136 => (if (t136.size : Int) = (wrap64 (x8_5 + 1)) then (some (x9_2, wrap64 (x8_5 + 1), true)) else (some (65533, 1, false)))) = some (r1, r2, r3) := by rw [if_pos rfl] at H; exact H
        replace H := Option.bind_eq_some_iff.mp H
        obtain ⟨t136, A260, H⟩ := H
        replace H : (if (t136.size : Int) = (wrap64 (x8_5 + 1)) then (some (x9_2, wrap64 (x8_5 + 1), true)) else (some (65533, 1, false))) = some (r1, r2, r3) := H
        have A26 := zab.mk A260; clear A260
        by_cases c27 : (t136.size : Int) = (wrap64 (x8_5 + 1))
        ·rw [if_pos c27] at H
         have c27b0 : ((t136.size : Int) == (wrap64 (x8_5 + 1))) = true := beq_iff_eq.mpr c27
         have c27b1 : ((t136.size : Int) != (wrap64 (x8_5 + 1))) = false := bne_eq_false_iff_eq.mpr c27
         clear c27
         simp only [Option.some.injEq, Prod.mk.injEq] at H
         obtain ⟨rfl, rfl, rfl⟩ := H
         go_wp2_with (first | ((with_reducible refine zae (f := 140) rfl ?_); refine zaB (some 77) rfl rfl Tryd.func140 (by kernel_rfl) rfl #[.int .i64 x9_2] rfl (by (try simp only [List.map_toArray, List.map_cons, List.map_nil]); first | done | rfl | (simp only [List.length_drop, List.length_take]; rfl)) ?_; (with_reducible refine (spec_l01IsPoint.calls x9_2 true _ A24.out).mono ?_); rintro e w' ⟨rfl, ⟨nd, rfl⟩⟩; refine ⟨_, rfl, ?_⟩) | (go_at_call 95; (with_reducible refine (zbr.calls k2 x9_2 t136 _ A26.out).mono ?_); rintro e w28 ⟨rfl, hb⟩; have n0_ := zab.mk (zaw (by repeat (first | (with_reducible first | exact HB.out | apply zac | apply zaa | apply zad) | exact HB.out)) hb); clear HB; have HB := n0_; clear n0_; (try clear hb); (try clear hb2); (try clear hk); (try clear hi)))
         go_ret3
         exact ⟨by first | rfl | (simp [zam, zal] <;> rfl) | (simp [*, zam, zal] <;> rfl), by repeat (first | (with_reducible first | exact HB.out | apply zac | apply zaa | apply zad) | exact HB.out)⟩
        rw [if_neg c27] at H
        have c27b0 : ((t136.size : Int) == (wrap64 (x8_5 + 1))) = false := beq_eq_false_iff_ne.mpr c27
        have c27b1 : ((t136.size : Int) != (wrap64 (x8_5 + 1))) = true := bne_iff_ne.mpr c27
        simp only [Option.some.injEq, Prod.mk.injEq] at H
        obtain ⟨rfl, rfl, rfl⟩ := H
        go_wp2_with (first | ((with_reducible refine zae (f := 140) rfl ?_); refine zaB (some 77) rfl rfl Tryd.func140 (by kernel_rfl) rfl #[.int .i64 x9_2] rfl (by (try simp only [List.map_toArray, List.map_cons, List.map_nil]); first | done | rfl | (simp only [List.length_drop, List.length_take]; rfl)) ?_; (with_reducible refine (spec_l01IsPoint.calls x9_2 true _ A24.out).mono ?_); rintro e w' ⟨rfl, ⟨nd, rfl⟩⟩; refine ⟨_, rfl, ?_⟩) | (go_at_call 95; (with_reducible refine (zbr.calls k2 x9_2 t136 _ A26.out).mono ?_); rintro e w29 ⟨rfl, hb⟩; have n0_ := zab.mk (zaw (by repeat (first | (with_reducible first | exact HB.out | apply zac | apply zaa | apply zad) | exact HB.out)) hb); clear HB; have HB := n0_; clear n0_; (try clear hb); (try clear hb2); (try clear hk); (try clear hi)))
        go_ret3
        exact ⟨by first | rfl | (simp [zam, zal] <;> rfl) | (simp [*, zam, zal] <;> rfl), by repeat (first | (with_reducible first | exact HB.out | apply zac | apply zaa | apply zad) | exact HB.out)⟩
       replace c25 := Bool.eq_false_iff.mpr c25
       subst c25
       replace H : (some (65533, 1, false)) = some (r1, r2, r3) := by rw [if_neg (show ¬ (false = true) by decide)] at H; exact H
       simp only [Option.some.injEq, Prod.mk.injEq] at H
       obtain ⟨rfl, rfl, rfl⟩ := H
       go_wp2_with (first | ((with_reducible refine zae (f := 140) rfl ?_); refine zaB (some 77) rfl rfl Tryd.func140 (by kernel_rfl) rfl #[.int .i64 x9_2] rfl (by (try simp only [List.map_toArray, List.map_cons, List.map_nil]); first | done | rfl | (simp only [List.length_drop, List.length_take]; rfl)) ?_; (with_reducible refine (spec_l01IsPoint.calls x9_2 false _ A24.out).mono ?_); rintro e w' ⟨rfl, ⟨nd, rfl⟩⟩; refine ⟨_, rfl, ?_⟩))
       go_ret3
       exact ⟨by first | rfl | (simp [zam, zal] <;> rfl) | (simp [*, zam, zal] <;> rfl), by repeat (first | (with_reducible first | exact HB.out | apply zac | apply zaa | apply zad) | exact HB.out)⟩
  rw [if_neg c4] at H
  exact absurd H (by simp)
 rw [if_neg c3] at H
 exact absurd H (by simp)
def zbv.l0 : Nat → ByteArray → Int → List Int → List Int → Option (List Int × List Int)
 | 0, _, _, _, _ => none
 | k + 1, x0, x4, x139000, x139001 => if x4 < (x0.size : Int) then ((zaK.f k x0 x4).bind fun bt139 => (if x139000.length < 17592186044416 then (if x139001.length < 17592186044416 then (zbv.l0 k x0 (wrap64 (x4 + bt139.2.1)) (x139000 ++ [bt139.1]) (x139001 ++ [x4])) else (none)) else (none))) else (if x139001.length < 17592186044416 then (some (x139000, (x139001 ++ [(x0.size : Int)]))) else (none))
def zbv.f (k : Nat) (a0 : ByteArray) : Option (List Int × List Int) := zbv.l0 k a0 0 ([] : List Int) ([] : List Int)
set_option maxHeartbeats 8000000 in
set_option maxRecDepth 100000 in
theorem zbv.calls (k : Nat) (a0 : ByteArray) (r1 : List Int) (r2 : List Int) (w : World) (h : zbv.f k a0 = some (r1, r2)) :
  Calls Tryd.prog 135 #[.string a0] w fun e w' => ∃ v0_ v1_ : Value, e = .returned (.agg #[v0_, v1_]) ∧ Kd.R (Kd.int .i64) 2 w' w.heap.size (fun k_ => some k_ ≠ (v1_ : Value).ownBlock) v0_ r1 ∧ Kd.R (Kd.int .i64) 2 w' w.heap.size (fun k_ => some k_ ≠ (v0_ : Value).ownBlock) v1_ r2 ∧ Below w.heap.size w w' := by
 have hu126 := Tryd.underlying126
 have HB := zab.mk (Below.refl w.heap.size w)
 have H : (zbv.l0 k a0 0 ([] : List Int) ([] : List Int)) = some (r1, r2) := h
 clear h; have H' := zab.mk H; clear H
 go_enter Tryd.func135, Tryd.ntmps135
 go_wp2_with (first | ((with_reducible refine zbC (N := 2) rfl ?_); refine box_event ?hg (N := 2) ?hd (cs := #[.slice none 0 0, .slice none 0 0]) (t := 126) ?hr ?_; (case hd => rfl); (case hg => rfl); (case hr => first | (go_simp; done) | (go_simp; rfl)); intro gb137 hg w2 hbox hb; have n0_ := zab.mk (zaw (by repeat (first | (with_reducible first | exact HB.out | apply zac | apply zaa | apply zad) | exact HB.out)) hb); have n1_ := zab.mk (hbox); have n2_ := zab.mk ((by rw [hg]; exact (zaC (by repeat (first | (with_reducible first | exact HB.out | apply zac | apply zaa | apply zad) | exact HB.out))) : w.heap.size ≤ gb137)); have n3_ := zab.mk ((by rw [hg]; exact (zaC (by repeat (first | (with_reducible first | exact HB.out | apply zac | apply zaa | apply zad) | exact HB.out))) : w.heap.size ≤ gb137)); clear HB; have HB := n0_; have BK137 := n1_; have GW137 := n2_; have GE137 := n3_; clear n0_ n1_ n2_ n3_ hb hbox hg) | ((with_reducible refine zbC (N := 3) rfl ?_); refine box_event ?hg (N := 3) ?hd (cs := #[.slice none 0 0, .slice none 0 0]) (t := 126) ?hr ?_; (case hd => rfl); (case hg => rfl); (case hr => first | (go_simp; done) | (go_simp; rfl)); intro gb138 hg w3 hbox hb; have n0_ := zab.mk (za8 (g := gb137) (o := .cells #[.slice none 0 0, .slice none 0 0] 126 (0, 0)) (by (with_reducible repeat (first | refine zar ?_ _ | refine zat ?_ | refine zai ?_ _)); exact BK137.out) hb); have n1_ := zab.mk (zaw (by repeat (first | (with_reducible first | exact HB.out | apply zac | apply zaa | apply zad | refine zas ?_ GE137.out) | exact HB.out)) hb); have n2_ := zab.mk (hbox); have n3_ := zab.mk ((by rw [hg]; exact (zaC (by repeat (first | (with_reducible first | exact HB.out | apply zac | apply zaa | apply zad | refine zas ?_ GE137.out) | exact HB.out))) : w.heap.size ≤ gb138)); have n4_ := zab.mk ((by rw [hg]; exact (zaC (by repeat (first | (with_reducible first | exact HB.out | apply zac | apply zaa | apply zad | refine zas ?_ GE137.out) | exact HB.out))) : w.heap.size ≤ gb138)); have n5_ := zab.mk ((by rw [hg]; exact Nat.ne_of_lt (blk_lt (g := gb137) (o := .cells #[.slice none 0 0, .slice none 0 0] 126 (0, 0)) (by (with_reducible repeat (first | refine zar ?_ _ | refine zat ?_ | refine zai ?_ _)); exact BK137.out)) : gb137 ≠ gb138)); have n6_ := zab.mk ((by rw [hg]; exact Nat.ne_of_gt (blk_lt (g := gb137) (o := .cells #[.slice none 0 0, .slice none 0 0] 126 (0, 0)) (by (with_reducible repeat (first | refine zar ?_ _ | refine zat ?_ | refine zai ?_ _)); exact BK137.out)) : gb138 ≠ gb137)); clear BK137 HB; have BK137 := n0_; have HB := n1_; have BK138 := n2_; have GW138 := n3_; have GE138 := n4_; have NB137_138 := n5_; have NB138_137 := n6_; clear n0_ n1_ n2_ n3_ n4_ n5_ n6_ hb hbox hg; have hnb4 := NB138_137.out; have hnc4 := NB137_138.out; have hcz5_0 : w3.cell? ⟨gb138, 0, none⟩ = some (.slice none 0 0) := (zak BK138.out 0).trans rfl; have hcz5_1 : w3.cell? ⟨gb138, 1, none⟩ = some (.slice none 0 0) := (zak BK138.out 1).trans rfl; have hfz5_0 := zaf BK138.out 0; have hfz5_1 := zaf BK138.out 1))
 go_loopg [4] k (fun kq v4 w' => ∃ (x4_1 : Int) (x139000_1 : List Int) (x139001_1 : List Int) (u139000 : Value) (u139001 : Value), v4 = .int .i64 x4_1 ∧ zab (zbv.l0 kq a0 x4_1 x139000_1 x139001_1 = some (r1, r2)) ∧ zab (kq ≤ k) ∧ zab (Kd.R (Kd.int .i64) 2 w' w.heap.size (fun k_ => some k_ ≠ (u139001 : Value).ownBlock) u139000 x139000_1) ∧ zab (Kd.R (Kd.int .i64) 2 w' w.heap.size (fun k_ => some k_ ≠ (u139000 : Value).ownBlock) u139001 x139001_1) ∧ zab (w'.heap[gb137]? = some (.cells #[(.slice none 0 0), (.slice none 0 0)] 126 (0, 0))) ∧ zab (w'.heap[gb138]? = some (.cells #[u139000, u139001] 126 (0, 0))) ∧ zab (Below w.heap.size w w'))
 case atStart => exact ⟨(0), (([] : List Int)), (([] : List Int)), (.slice none 0 0), (.slice none 0 0), (by first | rfl | (simp; done) | (simp [*]; done)), H', ⟨Nat.le_refl _⟩, ⟨by first | exact Kd.R_nil _ _ _ _ _ | exact Kd.N_nil _ _ _ _ _ | exact Kd.V_nil _ _ _ _ _ | exact Kd.Q_nil _ _ _ _ _ | exact Kd.S_nil _ _ _ _ _⟩, ⟨by first | exact Kd.R_nil _ _ _ _ _ | exact Kd.N_nil _ _ _ _ _ | exact Kd.V_nil _ _ _ _ _ | exact Kd.Q_nil _ _ _ _ _ | exact Kd.S_nil _ _ _ _ _⟩, ⟨by (with_reducible repeat (first | refine zar ?_ _ | refine zat ?_ | refine zai ?_ _)); refine zbb ?_ NB137_138.out _; (with_reducible repeat (first | refine zar ?_ _ | refine zat ?_ | refine zai ?_ _)); refine zbb ?_ NB137_138.out _; (with_reducible repeat (first | refine zar ?_ _ | refine zat ?_ | refine zai ?_ _)); exact BK137.out⟩, ⟨by (with_reducible repeat (first | refine zar ?_ _ | refine zat ?_ | refine zai ?_ _)); refine zbA (cs := #[.slice none 0 0, .slice none 0 0]) ?_ 1 _ rfl; (with_reducible repeat (first | refine zar ?_ _ | refine zat ?_ | refine zai ?_ _)); refine zbA (cs := #[.slice none 0 0, .slice none 0 0]) ?_ 0 _ rfl; (with_reducible repeat (first | refine zar ?_ _ | refine zat ?_ | refine zai ?_ _)); exact BK138.out⟩, ⟨by repeat (first | (with_reducible first | exact HB.out | apply zac | apply zaa | apply zad | refine zas ?_ GE137.out | refine zas ?_ GE138.out) | exact HB.out)⟩⟩
 case round =>
  clear H'
  try clear hcz5_0
  try clear hcz5_1
  try clear hfz5_0
  try clear hfz5_1
  obtain ⟨x4_1, x139000_1, x139001_1, u139000, u139001, rfl, HA, HK1, HO_139000, HO_139001, BK137, BK138, HB⟩ := hrel
  cases gk with
  | zero => exact absurd HA.out (by simp [zbv.l0])
  | succ k1 =>
   have H := HA.out; clear HA
   simp only [zbv.l0] at H
   by_cases c6 : x4_1 < (a0.size : Int)
   ·rw [if_pos c6] at H
    have c6b0 : decide (x4_1 < (a0.size : Int)) = true := decide_eq_true c6
    clear c6; replace H := Option.bind_eq_some_iff.mp H
    obtain ⟨⟨t139, t140, t141⟩, A70, H⟩ := H
    replace H : (if x139000_1.length < 17592186044416 then (if x139001_1.length < 17592186044416 then (zbv.l0 k1 a0 (wrap64 (x4_1 + t140)) (x139000_1 ++ [t139]) (x139001_1 ++ [x4_1])) else (none)) else (none)) = some (r1, r2) := H
    have A7 := zab.mk A70; clear A70
    by_cases c8 : x139000_1.length < 17592186044416
    ·rw [if_pos c8] at H; have LMc8 := zab.mk c8; clear c8
     obtain ⟨y142, hy142⟩ : ∃ y_ : List Int, y_ = (x139000_1 ++ [t139]) := ⟨_, rfl⟩
     replace H : (if x139001_1.length < 17592186044416 then (zbv.l0 k1 a0 (wrap64 (x4_1 + t140)) y142 (x139001_1 ++ [x4_1])) else (none)) = some (r1, r2) := by first | (rw [hy142]; with_reducible exact H) | (have H2_ := (Option.bind_some _ _).symm.trans H; rw [hy142]; with_reducible exact H2_) | (have H2_ := (Option.bind_some _ _).symm.trans H; with_reducible exact H2_) | with_reducible exact H | (rw [hy142]; exact H) | exact H
     have Ny142 := zab.mk hy142; clear hy142
     by_cases c9 : x139001_1.length < 17592186044416
     ·rw [if_pos c9] at H; have LMc9 := zab.mk c9; clear c9
      obtain ⟨y145, hy145⟩ : ∃ y_ : List Int, y_ = (x139001_1 ++ [x4_1]) := ⟨_, rfl⟩
      replace H : (zbv.l0 k1 a0 (wrap64 (x4_1 + t140)) y142 y145) = some (r1, r2) := by first | (rw [hy145]; with_reducible exact H) | (have H2_ := (Option.bind_some _ _).symm.trans H; rw [hy145]; with_reducible exact H2_) | (have H2_ := (Option.bind_some _ _).symm.trans H; with_reducible exact H2_) | with_reducible exact H | (rw [hy145]; exact H) | exact H
      have Ny145 := zab.mk hy145; clear hy145; have H' := zab.mk H; clear H
      go_wp2_with (first | ((with_reducible refine zae (f := 109) rfl ?_); refine zaB (some 16) rfl rfl Tryd.func109 (by kernel_rfl) rfl #[.string a0, .int .i64 x4_1] rfl (by (try simp only [List.map_toArray, List.map_cons, List.map_nil]); first | done | rfl | (simp only [List.length_drop, List.length_take]; rfl)) ?_; (with_reducible refine (zaK.calls k1 a0 x4_1 t139 t140 t141 _ A7.out).mono ?_); rintro e w10 ⟨rfl, hb⟩; refine ⟨_, rfl, ?_⟩; have n0_ := zab.mk (Kd.zaN (by (with_reducible repeat (first | apply Kd.zao | apply Kd.zan | apply Kd.zav)); exact HO_139000.out) hb); have n1_ := zab.mk (Kd.zaN (by (with_reducible repeat (first | apply Kd.zao | apply Kd.zan | apply Kd.zav)); exact HO_139001.out) hb); have n2_ := zab.mk (za8 (g := gb137) (o := .cells #[.slice none 0 0, .slice none 0 0] 126 (0, 0)) (by (with_reducible repeat (first | refine zar ?_ _ | refine zat ?_ | refine zai ?_ _)); exact BK137.out) hb); have n3_ := zab.mk (za8 (g := gb138) (o := .cells #[u139000, u139001] 126 (0, 0)) (by (with_reducible repeat (first | refine zar ?_ _ | refine zat ?_ | refine zai ?_ _)); exact BK138.out) hb); have n4_ := zab.mk (zaw (by repeat (first | (with_reducible first | exact HB.out | apply zac | apply zaa | apply zad | refine zas ?_ GE137.out | refine zas ?_ GE138.out) | exact HB.out)) hb); clear HO_139000 HO_139001 BK137 BK138 HB; have HO_139000 := n0_; have HO_139001 := n1_; have BK137 := n2_; have BK138 := n3_; have HB := n4_; clear n0_ n1_ n2_ n3_ n4_; (try clear hb); (try clear hb2); (try clear hk); (try clear hi); have hnb11 := NB138_137.out; have hnc11 := NB137_138.out; have hcz12_0 : w10.cell? ⟨gb138, 0, none⟩ = some (u139000) := (zak BK138.out 0).trans rfl; have hcz12_1 : w10.cell? ⟨gb138, 1, none⟩ = some (u139001) := (zak BK138.out 1).trans rfl; have hfz12_0 := zaf BK138.out 0; have hfz12_1 := zaf BK138.out 1) | ((with_reducible refine zbs (b := .append) (xs := #[.tmp 21, .tmp 23]) rfl ?_); at_builtin; refine Kd.R_append (Kd.int .i64) (w0 := w) w.heap.size rfl (.tmp 21) (.tmp 23) 67 2 (.int .i64 0) 8 rfl Tryd.underlying67 info2 rfl (by decide) (by omega) u139000 x139000_1 t139 [.int .i64 t139] (fun k_ => some k_ ≠ (u139001 : Value).ownBlock) (fun _ => False) rfl rfl ?aP (fun _ hk => hk.elim) ?aF ?aO ?aB ?aS ?aL ?_; (case aP => exact rfl); (case aB => exact (by repeat (first | (with_reducible first | exact HB.out | apply zac | apply zaa | apply zad | refine zas ?_ GE137.out | refine zas ?_ GE138.out) | exact HB.out))); (case aF => exact (fun k_ hk => Kd.fresh' (Kd.R_lt (by (with_reducible repeat (first | apply Kd.zao | apply Kd.zan | apply Kd.zav)); exact HO_139001.out)) k_ hk)); (case aO => exact (by (with_reducible repeat (first | apply Kd.zao | apply Kd.zan | apply Kd.zav)); exact HO_139000.out)); (case aS => exact (zaC (by repeat (first | (with_reducible first | exact HB.out | apply zac | apply zaa | apply zad | refine zas ?_ GE137.out | refine zas ?_ GE138.out) | exact HB.out)))); (case aL => have := LMc8.out; omega); intro v143 w13 ho hb hg hat; rw [← Ny142.out] at ho; have n0_ := zab.mk (Kd.R_after (ok := (fun _ => True)) (by (with_reducible repeat (first | apply Kd.zao | apply Kd.zan | apply Kd.zav)); exact Kd.za2 HO_139001.out (fun _ hk => ⟨trivial, hk⟩)) hg hat); have n1_ := zab.mk (zbi (g := gb137) (o := .cells #[.slice none 0 0, .slice none 0 0] 126 (0, 0)) (by (with_reducible repeat (first | refine zar ?_ _ | refine zat ?_ | refine zai ?_ _)); exact BK137.out) hg (Kd.R_ne HO_139000.out BK137.out (by decide))); have n2_ := zab.mk (zbi (g := gb138) (o := .cells #[u139000, u139001] 126 (0, 0)) (by (with_reducible repeat (first | refine zar ?_ _ | refine zat ?_ | refine zai ?_ _)); exact BK138.out) hg (Kd.R_ne HO_139000.out BK138.out (by decide))); have n3_ := zab.mk (hb); have n4_ := zab.mk (ho); clear HO_139001 BK137 BK138 HB HO_139000; have HO_139001 := n0_; have BK137 := n1_; have BK138 := n2_; have HB := n3_; have HO144 := n4_; clear n0_ n1_ n2_ n3_ n4_ ho hb hg hat; obtain ⟨Ao14, co14, eo14⟩ := Kd.zbl HO144.out; subst eo14; have hcz15_0 : w13.cell? ⟨gb138, 0, none⟩ = some (u139000) := (zak BK138.out 0).trans rfl; have hcz15_1 : w13.cell? ⟨gb138, 1, none⟩ = some (u139001) := (zak BK138.out 1).trans rfl; have hfz15_0 := zaf BK138.out 0; have hfz15_1 := zaf BK138.out 1) | ((with_reducible refine zbs (b := .append) (xs := #[.tmp 27, .tmp 29]) rfl ?_); at_builtin; refine Kd.R_append (Kd.int .i64) (w0 := w) w.heap.size rfl (.tmp 27) (.tmp 29) 67 2 (.int .i64 0) 8 rfl Tryd.underlying67 info2 rfl (by decide) (by omega) u139001 x139001_1 x4_1 [.int .i64 x4_1] (fun k_ => some k_ ≠ (.slice Ao14 y142.length co14 : Value).ownBlock) (fun _ => False) rfl (by first | (go_simp; done) | (go_simp; rfl)) ?aP (fun _ hk => hk.elim) ?aF ?aO ?aB ?aS ?aL ?_; (case aP => exact rfl); (case aB => exact (by repeat (first | (with_reducible first | exact HB.out | apply zac | apply zaa | apply zad | refine zas ?_ GE137.out | refine zas ?_ GE138.out) | exact HB.out))); (case aF => exact (fun k_ hk => Kd.fresh' (Kd.R_lt (by (with_reducible repeat (first | apply Kd.zao | apply Kd.zan | apply Kd.zav)); exact (Kd.za2 (Kd.za4 (p := ⟨gb138, 0, none⟩) (Kd.zaX HO144.out BK138.out (by decide)) (fun _ hk => hk.2) (.slice Ao14 y142.length co14)) (fun _ h_ => h_.1)))) k_ hk)); (case aO => exact (by (with_reducible repeat (first | apply Kd.zao | apply Kd.zan | apply Kd.zav)); exact Kd.za2 (Kd.za4 (p := ⟨gb138, 0, none⟩) (Kd.zaX HO_139001.out BK138.out (by decide)) (fun _ hk => hk.2) (.slice Ao14 y142.length co14)) (fun _ hk => hk.1.2))); (case aS => exact (zaC (by repeat (first | (with_reducible first | exact HB.out | apply zac | apply zaa | apply zad | refine zas ?_ GE137.out | refine zas ?_ GE138.out) | exact HB.out)))); (case aL => have := LMc9.out; omega); intro v146 w16 ho hb hg hat; rw [← Ny145.out] at ho; have n0_ := zab.mk (zbi (g := gb137) (o := .cells #[.slice none 0 0, .slice none 0 0] 126 (0, 0)) (by (with_reducible repeat (first | refine zar ?_ _ | refine zat ?_ | refine zai ?_ _)); refine zbb ?_ NB137_138.out _; (with_reducible repeat (first | refine zar ?_ _ | refine zat ?_ | refine zai ?_ _)); exact BK137.out) hg (Kd.R_ne HO_139001.out BK137.out (by decide))); have n1_ := zab.mk (zbi (g := gb138) (o := .cells #[.slice Ao14 y142.length co14, u139001] 126 (0, 0)) (by (with_reducible repeat (first | refine zar ?_ _ | refine zat ?_ | refine zai ?_ _)); refine zbA (cs := #[u139000, u139001]) ?_ 0 _ rfl; (with_reducible repeat (first | refine zar ?_ _ | refine zat ?_ | refine zai ?_ _)); exact BK138.out) hg (Kd.R_ne HO_139001.out BK138.out (by decide))); have n2_ := zab.mk (Kd.R_after (ok := (fun _ => True)) (by (with_reducible repeat (first | apply Kd.zao | apply Kd.zan | apply Kd.zav)); exact Kd.za2 (Kd.za4 (p := ⟨gb138, 0, none⟩) (Kd.zaX HO144.out BK138.out (by decide)) (fun _ hk => hk.2) (.slice Ao14 y142.length co14)) (fun _ hk => ⟨trivial, hk.1⟩)) hg hat); have n3_ := zab.mk (hb); have n4_ := zab.mk (ho); clear BK137 BK138 HO144 HB HO_139001; have BK137 := n0_; have BK138 := n1_; have HO144 := n2_; have HB := n3_; have HO147 := n4_; clear n0_ n1_ n2_ n3_ n4_ ho hb hg hat; obtain ⟨Ao17, co17, eo17⟩ := Kd.zbl HO147.out; subst eo17; have hcz18_0 : w16.cell? ⟨gb138, 0, none⟩ = some (.slice Ao14 y142.length co14) := (zak BK138.out 0).trans rfl; have hcz18_1 : w16.cell? ⟨gb138, 1, none⟩ = some (u139001) := (zak BK138.out 1).trans rfl; have hfz18_0 := zaf BK138.out 0; have hfz18_1 := zaf BK138.out 1))
      go_roundg k1
      case measure => have := HK1.out; omega
      case rel => exact ⟨(wrap64 (x4_1 + t140)), (y142), (y145), (.slice Ao14 y142.length co14), (.slice Ao17 y145.length co17), (by first | rfl | (simp; done) | (simp [*]; done)), H', ⟨by have := HK1.out; omega⟩, ⟨by (with_reducible repeat (first | apply Kd.zao | apply Kd.zan | apply Kd.zav)); exact Kd.za2 (Kd.za4 (p := ⟨gb138, 1, none⟩) (Kd.zaX HO144.out BK138.out (by decide)) (fun _ hk => hk.2) (.slice Ao17 y145.length co17)) (fun _ hk => hk.1.2)⟩, ⟨by (with_reducible repeat (first | apply Kd.zao | apply Kd.zan | apply Kd.zav)); exact Kd.za2 (Kd.za4 (p := ⟨gb138, 1, none⟩) (Kd.zaX HO147.out BK138.out (by decide)) (fun _ hk => hk.2) (.slice Ao17 y145.length co17)) (fun _ hk => hk.1)⟩, ⟨by (with_reducible repeat (first | refine zar ?_ _ | refine zat ?_ | refine zai ?_ _)); refine zbb ?_ NB137_138.out _; (with_reducible repeat (first | refine zar ?_ _ | refine zat ?_ | refine zai ?_ _)); exact BK137.out⟩, ⟨by (with_reducible repeat (first | refine zar ?_ _ | refine zat ?_ | refine zai ?_ _)); refine zbA (cs := #[.slice Ao14 y142.length co14, u139001]) ?_ 1 _ rfl; (with_reducible repeat (first | refine zar ?_ _ | refine zat ?_ | refine zai ?_ _)); exact BK138.out⟩, ⟨by repeat (first | (with_reducible first | exact HB.out | apply zac | apply zaa | apply zad | refine zas ?_ GE137.out | refine zas ?_ GE138.out) | exact HB.out)⟩⟩
     rw [if_neg c9] at H
     exact absurd H (by simp)
    rw [if_neg c8] at H
    exact absurd H (by simp)
   rw [if_neg c6] at H
   have c6b0 : decide (x4_1 < (a0.size : Int)) = false := decide_eq_false c6
   clear c6
   by_cases c19 : x139001_1.length < 17592186044416
   ·rw [if_pos c19] at H; have LMc19 := zab.mk c19; clear c19
    obtain ⟨y148, hy148⟩ : ∃ y_ : List Int, y_ = (x139001_1 ++ [(a0.size : Int)]) := ⟨_, rfl⟩
    replace H : (some (x139000_1, y148)) = some (r1, r2) := by first | (rw [hy148]; with_reducible exact H) | (have H2_ := (Option.bind_some _ _).symm.trans H; rw [hy148]; with_reducible exact H2_) | (have H2_ := (Option.bind_some _ _).symm.trans H; with_reducible exact H2_) | with_reducible exact H | (rw [hy148]; exact H) | exact H
    have Ny148 := zab.mk hy148; clear hy148
    simp only [Option.some.injEq, Prod.mk.injEq] at H
    obtain ⟨rfl, rfl⟩ := H
    have hnb20 := NB138_137.out
    have hnc20 := NB137_138.out
    have hcz21_0 : wr.cell? ⟨gb138, 0, none⟩ = some (u139000) := (zak BK138.out 0).trans rfl
    have hcz21_1 : wr.cell? ⟨gb138, 1, none⟩ = some (u139001) := (zak BK138.out 1).trans rfl
    have hfz21_0 := zaf BK138.out 0
    have hfz21_1 := zaf BK138.out 1
    go_wp2_with (first | ((with_reducible refine zbs (b := .append) (xs := #[.tmp 36, .tmp 39]) rfl ?_); at_builtin; refine Kd.R_append (Kd.int .i64) (w0 := w) w.heap.size rfl (.tmp 36) (.tmp 39) 67 2 (.int .i64 0) 8 rfl Tryd.underlying67 info2 rfl (by decide) (by omega) u139001 x139001_1 (a0.size : Int) [.int .i64 (a0.size : Int)] (fun k_ => some k_ ≠ (u139000 : Value).ownBlock) (fun _ => False) rfl rfl ?aP (fun _ hk => hk.elim) ?aF ?aO ?aB ?aS ?aL ?_; (case aP => exact rfl); (case aB => exact (by repeat (first | (with_reducible first | exact HB.out | apply zac | apply zaa | apply zad | refine zas ?_ GE137.out | refine zas ?_ GE138.out) | exact HB.out))); (case aF => exact (fun k_ hk => Kd.fresh' (Kd.R_lt (by (with_reducible repeat (first | apply Kd.zao | apply Kd.zan | apply Kd.zav)); exact HO_139000.out)) k_ hk)); (case aO => exact (by (with_reducible repeat (first | apply Kd.zao | apply Kd.zan | apply Kd.zav)); exact HO_139001.out)); (case aS => exact (zaC (by repeat (first | (with_reducible first | exact HB.out | apply zac | apply zaa | apply zad | refine zas ?_ GE137.out | refine zas ?_ GE138.out) | exact HB.out)))); (case aL => have := LMc19.out; omega); intro v149 w22 ho hb hg hat; rw [← Ny148.out] at ho; have n0_ := zab.mk (Kd.R_after (ok := (fun _ => True)) (by (with_reducible repeat (first | apply Kd.zao | apply Kd.zan | apply Kd.zav)); exact Kd.za2 HO_139000.out (fun _ hk => ⟨trivial, hk⟩)) hg hat); have n1_ := zab.mk (zbi (g := gb137) (o := .cells #[.slice none 0 0, .slice none 0 0] 126 (0, 0)) (by (with_reducible repeat (first | refine zar ?_ _ | refine zat ?_ | refine zai ?_ _)); exact BK137.out) hg (Kd.R_ne HO_139001.out BK137.out (by decide))); have n2_ := zab.mk (zbi (g := gb138) (o := .cells #[u139000, u139001] 126 (0, 0)) (by (with_reducible repeat (first | refine zar ?_ _ | refine zat ?_ | refine zai ?_ _)); exact BK138.out) hg (Kd.R_ne HO_139001.out BK138.out (by decide))); have n3_ := zab.mk (hb); have n4_ := zab.mk (ho); clear HO_139000 BK137 BK138 HB HO_139001; have HO_139000 := n0_; have BK137 := n1_; have BK138 := n2_; have HB := n3_; have HO150 := n4_; clear n0_ n1_ n2_ n3_ n4_ ho hb hg hat; obtain ⟨Ao23, co23, eo23⟩ := Kd.zbl HO150.out; subst eo23; have hcz24_0 : w22.cell? ⟨gb138, 0, none⟩ = some (u139000) := (zak BK138.out 0).trans rfl; have hcz24_1 : w22.cell? ⟨gb138, 1, none⟩ = some (u139001) := (zak BK138.out 1).trans rfl; have hfz24_0 := zaf BK138.out 0; have hfz24_1 := zaf BK138.out 1; obtain ⟨Ao25, co25, eo25⟩ := Kd.zbl HO_139000.out; subst eo25; have hcz26_0 : w22.cell? ⟨gb137, 0, none⟩ = some (.slice none 0 0) := (zak BK137.out 0).trans rfl; have hcz26_1 : w22.cell? ⟨gb137, 1, none⟩ = some (.slice none 0 0) := (zak BK137.out 1).trans rfl; have hfz26_0 := zaf BK137.out 0; have hfz26_1 := zaf BK137.out 1))
    refine bodyPost_ret (results_cell_row rfl _ _ gb137 126 #[.slice Ao25 x139000_1.length co25, .slice Ao23 y148.length co23] (0, 0) _ rfl (by (with_reducible repeat (first | refine zar ?_ _ | refine zat ?_ | refine zai ?_ _)); refine zbA (cs := #[.slice Ao25 x139000_1.length co25, .slice none 0 0]) ?_ 1 _ rfl; (with_reducible repeat (first | refine zar ?_ _ | refine zat ?_ | refine zai ?_ _)); refine zbA (cs := #[.slice none 0 0, .slice none 0 0]) ?_ 0 _ rfl; (with_reducible repeat (first | refine zar ?_ _ | refine zat ?_ | refine zai ?_ _)); refine zbb ?_ NB137_138.out _; (with_reducible repeat (first | refine zar ?_ _ | refine zat ?_ | refine zai ?_ _)); exact BK137.out) Tryd.underlying126 rfl (by kernel_rfl)) rfl ?_
    exact ⟨_, _, by first | rfl | (simp [zam, zal] <;> rfl) | (simp [*, zam, zal] <;> rfl), by (with_reducible repeat (first | apply Kd.zao | apply Kd.zan | apply Kd.zav)); exact Kd.za2 (Kd.za4 (p := ⟨gb137, 1, none⟩) (Kd.za4 (p := ⟨gb137, 0, none⟩) (Kd.za4 (p := ⟨gb138, 1, none⟩) (Kd.zaX (Kd.zaX HO_139000.out BK138.out (by decide)) BK137.out (by decide)) (fun _ hk => hk.1.2) (.slice Ao23 y148.length co23)) (fun _ hk => hk.2) (.slice Ao25 x139000_1.length co25)) (fun _ hk => hk.2) (.slice Ao23 y148.length co23)) (fun _ hk => hk.1.1.2), by (with_reducible repeat (first | apply Kd.zao | apply Kd.zan | apply Kd.zav)); exact Kd.za2 (Kd.za4 (p := ⟨gb137, 1, none⟩) (Kd.za4 (p := ⟨gb137, 0, none⟩) (Kd.za4 (p := ⟨gb138, 1, none⟩) (Kd.zaX (Kd.zaX HO150.out BK138.out (by decide)) BK137.out (by decide)) (fun _ hk => hk.1.2) (.slice Ao23 y148.length co23)) (fun _ hk => hk.2) (.slice Ao25 x139000_1.length co25)) (fun _ hk => hk.2) (.slice Ao23 y148.length co23)) (fun _ hk => hk.1.1), by repeat (first | (with_reducible first | exact HB.out | apply zac | apply zaa | apply zad | refine zas ?_ GE137.out | refine zas ?_ GE138.out) | exact HB.out)⟩
   rw [if_neg c19] at H
   exact absurd H (by simp)
end Go.Proofs.YtbppeepihlajoaaDoor.P
