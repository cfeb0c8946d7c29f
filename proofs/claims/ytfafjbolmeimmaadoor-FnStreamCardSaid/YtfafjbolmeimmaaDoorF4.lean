/- Written by a program of this session: plain Lean functions for Go functions, and for each the proof that the call comes to what the function says. -/
import Derived.Test.YtfafjbolmeimmaaDoorF0
import Derived.Test.YtfafjbolmeimmaaDoorF2
import Derived.Test.YtfafjbolmeimmaaDoorF3
namespace Go.Proofs.YtfafjbolmeimmaaDoor.P
open Go.RowKit Go.Proofs.YtfafjbolmeimmaaDoorW.PrintWords Go.Proofs.YtfafjbolmeimmaaDoorW.PrintLast Go.Proofs.YtfafjbolmeimmaaDoorW.PrintMore
attribute [local go_sem] max2_int min2_int max_two min_two max_three min_three max_four min_four
set_option linter.unusedVariables false
set_option linter.unusedSimpArgs false
mutual
def zaJ.j2 : Nat → ByteArray → Int → Int → Int → Option (Int × Int × Bool)
 | 0, _, _, _, _ => none
 | k + 1, x0, x1, x8, x9 => if (wrap64 (x1 + x8)) ≥ (x0.size : Int) then (some (65533, 1, false)) else (zaJ.l0 k x0 x1 x8 x9 1)
def zaJ.l0 : Nat → ByteArray → Int → Int → Int → Int → Option (Int × Int × Bool)
 | 0, _, _, _, _, _ => none
 | k + 1, x0, x1, x8, x9, x10 => if x10 ≤ x8 then (if 0 ≤ (wrap64 (x1 + x10)) then (if (wrap64 (x1 + x10)) < (x0.size : Int) then (if (wrap64 (bt x0 (wrap64 (x1 + x10)))) < 128 then (some (65533, 1, false)) else (if (wrap64 (bt x0 (wrap64 (x1 + x10)))) > 191 then (some (65533, 1, false)) else (zaJ.l0 k x0 x1 x8 (wrap64 ((wrap64 (x9 * 64)) + (Int.tmod (wrap64 (bt x0 (wrap64 (x1 + x10)))) 64))) (wrap64 (x10 + 1))))) else (none)) else (none)) else ((zbA.f x9).bind fun t157 => (if t157 = true then ((zbk.f k x9).bind fun t158 => (if (t158.size : Int) = (wrap64 (x8 + 1)) then (some (x9, wrap64 (x8 + 1), true)) else (some (65533, 1, false)))) else (some (65533, 1, false))))
def zaJ.j0 : Nat → ByteArray → Int → Int → Bool → Option (Int × Int × Bool)
 | 0, _, _, _, _ => none
 | k + 1, x0, x1, x7, x21 => if x21 = true then (zaJ.j2 k x0 x1 1 (Int.tmod x7 32)) else (if x7 ≥ 224 then (zaJ.j1 k x0 x1 x7 (decide (x7 < 240))) else (zaJ.j1 k x0 x1 x7 false))
def zaJ.j1 : Nat → ByteArray → Int → Int → Bool → Option (Int × Int × Bool)
 | 0, _, _, _, _ => none
 | k + 1, x0, x1, x7, x30 => if x30 = true then (zaJ.j2 k x0 x1 2 (Int.tmod x7 16)) else (if x7 ≥ 240 then (if x7 < 245 then (zaJ.j2 k x0 x1 3 (Int.tmod x7 8)) else (some (65533, 1, false))) else (some (65533, 1, false)))
end
def zaJ.f (k : Nat) (a0 : ByteArray) (a1 : Int) : Option (Int × Int × Bool) := if 0 ≤ a1 then (if a1 < (a0.size : Int) then (if (wrap64 (bt a0 a1)) < 128 then (some (wrap64 (bt a0 a1), 1, true)) else (if (wrap64 (bt a0 a1)) ≥ 194 then (zaJ.j0 k a0 a1 (wrap64 (bt a0 a1)) (decide ((wrap64 (bt a0 a1)) < 224))) else (zaJ.j0 k a0 a1 (wrap64 (bt a0 a1)) false))) else (none)) else (none)
set_option maxHeartbeats 8000000 in
set_option maxRecDepth 100000 in
theorem zaJ.calls (k : Nat) (a0 : ByteArray) (a1 : Int) (r1 : Int) (r2 : Int) (r3 : Bool) (w : World) (h : zaJ.f k a0 a1 = some (r1, r2, r3)) :
  Calls Tryd.prog 52 #[.string a0, .int .i64 a1] w fun e w' => e = .returned (.tuple #[.int .i64 r1, .int .i64 r2, .bool r3]) ∧ Below w.heap.size w w' := by
 have HB := zab.mk (Below.refl w.heap.size w)
 have H : (if 0 ≤ a1 then (if a1 < (a0.size : Int) then (if (wrap64 (bt a0 a1)) < 128 then (some (wrap64 (bt a0 a1), 1, true)) else (if (wrap64 (bt a0 a1)) ≥ 194 then (zaJ.j0 k a0 a1 (wrap64 (bt a0 a1)) (decide ((wrap64 (bt a0 a1)) < 224))) else (zaJ.j0 k a0 a1 (wrap64 (bt a0 a1)) false))) else (none)) else (none)) = some (r1, r2, r3) := h
 clear h
 by_cases c3 : 0 ≤ a1
 ·rw [if_pos c3] at H
  have c3b0 : decide (0 ≤ a1) = true := decide_eq_true c3
  clear c3
  by_cases c4 : a1 < (a0.size : Int)
  ·rw [if_pos c4] at H
   have c4b0 : decide (a1 < (a0.size : Int)) = true := decide_eq_true c4
   clear c4; have HC6 := zab.mk H; clear H
   have p5 : 0 ≤ (a1 : Int) := of_decide_eq_true (by first | (with_reducible assumption) | assumption)
   have q5 : a1 < (a0.size : Int) := of_decide_eq_true (by first | (with_reducible assumption) | assumption)
   have hx5 := bt_at a0 a1
   replace p5 := eq_true p5
   replace q5 := eq_true q5
   go_enter Tryd.func52, Tryd.ntmps52
   go_upto_block 0 with (fail)
   go_cut [8, 9] (fun v8 v9 wc => ∃ (kq : Nat) (x8_5 : Int) (x9_5 : Int), v8 = .int .i64 x8_5 ∧ v9 = .int .i64 x9_5 ∧ zab (zaJ.j2 kq a0 a1 x8_5 x9_5 = some (r1, r2, r3)) ∧ zab (kq ≤ k) ∧ zab (Below w.heap.size w wc))
   case first =>
    have H := HC6.out; clear HC6
    by_cases c7 : (wrap64 (bt a0 a1)) < 128
    ·rw [if_pos c7] at H
     have c7b0 : decide ((wrap64 (bt a0 a1)) < 128) = true := decide_eq_true c7
     clear c7
     (first | rw [c7b0] | rw [c7b1] | (simp only [zaR, zaS]; rw [c7b0]) | skip)
     simp only [Option.some.injEq, Prod.mk.injEq] at H
     obtain ⟨rfl, rfl, rfl⟩ := H
     go_wp2
     go_ret3
     exact ⟨by first | rfl | (simp [zar, zas] <;> rfl) | (simp [*, zar, zas] <;> rfl), by repeat (first | (with_reducible first | exact HB.out | apply zad | apply zaa | apply zac) | exact HB.out)⟩
    rw [if_neg c7] at H
    have c7b0 : decide ((wrap64 (bt a0 a1)) < 128) = false := decide_eq_false c7
    clear c7
    (first | rw [c7b0] | rw [c7b1] | (simp only [zaR, zaS]; rw [c7b0]) | skip)
    have HC8 := zab.mk H; clear H
    go_upto_region 7 with (fail)
    go_cut [21] (fun v21 wc => ∃ (kq : Nat) (x21_7 : Bool), v21 = .bool x21_7 ∧ zab (zaJ.j0 kq a0 a1 (wrap64 (bt a0 a1)) x21_7 = some (r1, r2, r3)) ∧ zab (kq ≤ k) ∧ zab (Below w.heap.size w wc))
    case first =>
     have H := HC8.out; clear HC8
     by_cases c9 : (wrap64 (bt a0 a1)) ≥ 194
     ·rw [if_pos c9] at H
      have c9b0 : decide (194 ≤ (wrap64 (bt a0 a1))) = true := decide_eq_true c9
      clear c9
      (first | rw [c9b0] | rw [c9b1] | (simp only [zaR, zaS]; rw [c9b0]) | skip)
      have H' := zab.mk H; clear H
      go_wp2
      go_meet
      case rel => exact ⟨_, (decide ((wrap64 (bt a0 a1)) < 224)), (by first | rfl | (simp; done) | (simp [*]; done)), H', ⟨by first | omega | exact Nat.le_refl _⟩, ⟨by repeat (first | (with_reducible first | exact HB.out | apply zad | apply zaa | apply zac) | exact HB.out)⟩⟩
     rw [if_neg c9] at H
     have c9b0 : decide (194 ≤ (wrap64 (bt a0 a1))) = false := decide_eq_false c9
     clear c9
     (first | rw [c9b0] | rw [c9b1] | (simp only [zaR, zaS]; rw [c9b0]) | skip)
     have H' := zab.mk H; clear H
     go_wp2
     go_meet
     case rel => exact ⟨_, (false), (by first | rfl | (simp; done) | (simp [*]; done)), H', ⟨by first | omega | exact Nat.le_refl _⟩, ⟨by repeat (first | (with_reducible first | exact HB.out | apply zad | apply zaa | apply zac) | exact HB.out)⟩⟩
    case rest =>
     clear HC8
     try clear c3b0
     try clear c4b0
     try clear p5
     try clear q5
     try clear hx5
     try clear c7b0
     try clear c7b1
     try clear p5
     try clear q5
     obtain ⟨kq, x21_7, rfl, HA, HJ7, HB⟩ := hcut
     cases kq with
     | zero => exact absurd HA.out (by simp [zaJ.j0])
     | succ kj7 =>
      have H := HA.out; clear HA
      simp only [zaJ.j0] at H
      by_cases c10 : x21_7 = true
      ·subst c10
       replace H : (zaJ.j2 kj7 a0 a1 1 (Int.tmod (wrap64 (bt a0 a1)) 32)) = some (r1, r2, r3) := by rw [if_pos rfl] at H; exact H
       have H' := zab.mk H; clear H
       go_wp2
       go_meet
       case rel => exact ⟨_, (1), (Int.tmod (wrap64 (bt a0 a1)) 32), (by first | rfl | (simp; done) | (simp [*]; done)), (by first | rfl | (simp; done) | (simp [*]; done)), H', ⟨by have := HJ7.out; first | omega | exact Nat.le_refl _⟩, ⟨by repeat (first | (with_reducible first | exact HB.out | apply zad | apply zaa | apply zac) | exact HB.out)⟩⟩
      replace c10 := Bool.eq_false_iff.mpr c10
      subst c10
      replace H : (if (wrap64 (bt a0 a1)) ≥ 224 then (zaJ.j1 kj7 a0 a1 (wrap64 (bt a0 a1)) (decide ((wrap64 (bt a0 a1)) < 240))) else (zaJ.j1 kj7 a0 a1 (wrap64 (bt a0 a1)) false)) = some (r1, r2, r3) := by rw [if_neg (show ¬ (false = true) by decide)] at H; exact H
      have HC11 := zab.mk H; clear H
      go_upto_region 10 with (fail)
      go_cut [30] (fun v30 wc => ∃ (kq : Nat) (x30_10 : Bool), v30 = .bool x30_10 ∧ zab (zaJ.j1 kq a0 a1 (wrap64 (bt a0 a1)) x30_10 = some (r1, r2, r3)) ∧ zab (kq ≤ kj7) ∧ zab (Below w.heap.size w wc))
      case first =>
       have H := HC11.out; clear HC11
       by_cases c12 : (wrap64 (bt a0 a1)) ≥ 224
       ·rw [if_pos c12] at H
        have c12b0 : decide (224 ≤ (wrap64 (bt a0 a1))) = true := decide_eq_true c12
        clear c12
        (first | rw [c12b0] | rw [c12b1] | (simp only [zaR, zaS]; rw [c12b0]) | skip)
        have H' := zab.mk H; clear H
        go_wp2
        go_meet
        case rel => exact ⟨_, (decide ((wrap64 (bt a0 a1)) < 240)), (by first | rfl | (simp; done) | (simp [*]; done)), H', ⟨by have := HJ7.out; first | omega | exact Nat.le_refl _⟩, ⟨by repeat (first | (with_reducible first | exact HB.out | apply zad | apply zaa | apply zac) | exact HB.out)⟩⟩
       rw [if_neg c12] at H
       have c12b0 : decide (224 ≤ (wrap64 (bt a0 a1))) = false := decide_eq_false c12
       clear c12
       (first | rw [c12b0] | rw [c12b1] | (simp only [zaR, zaS]; rw [c12b0]) | skip)
       have H' := zab.mk H; clear H
       go_wp2
       go_meet
       case rel => exact ⟨_, (false), (by first | rfl | (simp; done) | (simp [*]; done)), H', ⟨by have := HJ7.out; first | omega | exact Nat.le_refl _⟩, ⟨by repeat (first | (with_reducible first | exact HB.out | apply zad | apply zaa | apply zac) | exact HB.out)⟩⟩
      case rest =>
       clear HC11
       try clear c3b0
       try clear c4b0
       try clear p5
       try clear q5
       try clear hx5
       try clear c7b0
       try clear c7b1
       try clear c10
       try clear p5
       try clear q5
       obtain ⟨kq, x30_10, rfl, HA, HJ10, HB⟩ := hcut
       cases kq with
       | zero => exact absurd HA.out (by simp [zaJ.j1])
       | succ kj10 =>
        have H := HA.out; clear HA
        simp only [zaJ.j1] at H
        by_cases c13 : x30_10 = true
        ·subst c13
         replace H : (zaJ.j2 kj10 a0 a1 2 (Int.tmod (wrap64 (bt a0 a1)) 16)) = some (r1, r2, r3) := by rw [if_pos rfl] at H; exact H
         have H' := zab.mk H; clear H
         go_wp2
         go_meet
         case rel => exact ⟨_, (2), (Int.tmod (wrap64 (bt a0 a1)) 16), (by first | rfl | (simp; done) | (simp [*]; done)), (by first | rfl | (simp; done) | (simp [*]; done)), H', ⟨by have := HJ7.out; have := HJ10.out; first | omega | exact Nat.le_refl _⟩, ⟨by repeat (first | (with_reducible first | exact HB.out | apply zad | apply zaa | apply zac) | exact HB.out)⟩⟩
        replace c13 := Bool.eq_false_iff.mpr c13
        subst c13
        replace H : (if (wrap64 (bt a0 a1)) ≥ 240 then (if (wrap64 (bt a0 a1)) < 245 then (zaJ.j2 kj10 a0 a1 3 (Int.tmod (wrap64 (bt a0 a1)) 8)) else (some (65533, 1, false))) else (some (65533, 1, false))) = some (r1, r2, r3) := by rw [if_neg (show ¬ (false = true) by decide)] at H; exact H
        by_cases c14 : (wrap64 (bt a0 a1)) ≥ 240
        ·rw [if_pos c14] at H
         have c14b0 : decide (240 ≤ (wrap64 (bt a0 a1))) = true := decide_eq_true c14
         clear c14
         by_cases c15 : (wrap64 (bt a0 a1)) < 245
         ·rw [if_pos c15] at H
          have c15b0 : decide ((wrap64 (bt a0 a1)) < 245) = true := decide_eq_true c15
          clear c15; have H' := zab.mk H; clear H
          go_wp2
          go_meet
          case rel => exact ⟨_, (3), (Int.tmod (wrap64 (bt a0 a1)) 8), (by first | rfl | (simp; done) | (simp [*]; done)), (by first | rfl | (simp; done) | (simp [*]; done)), H', ⟨by have := HJ7.out; have := HJ10.out; first | omega | exact Nat.le_refl _⟩, ⟨by repeat (first | (with_reducible first | exact HB.out | apply zad | apply zaa | apply zac) | exact HB.out)⟩⟩
         rw [if_neg c15] at H
         have c15b0 : decide ((wrap64 (bt a0 a1)) < 245) = false := decide_eq_false c15
         clear c15
         simp only [Option.some.injEq, Prod.mk.injEq] at H
         obtain ⟨rfl, rfl, rfl⟩ := H
         go_wp2
         go_ret3
         exact ⟨by first | rfl | (simp [zar, zas] <;> rfl) | (simp [*, zar, zas] <;> rfl), by repeat (first | (with_reducible first | exact HB.out | apply zad | apply zaa | apply zac) | exact HB.out)⟩
        rw [if_neg c14] at H
        have c14b0 : decide (240 ≤ (wrap64 (bt a0 a1))) = false := decide_eq_false c14
        clear c14
        simp only [Option.some.injEq, Prod.mk.injEq] at H
        obtain ⟨rfl, rfl, rfl⟩ := H
        go_wp2
        go_ret3
        exact ⟨by first | rfl | (simp [zar, zas] <;> rfl) | (simp [*, zar, zas] <;> rfl), by repeat (first | (with_reducible first | exact HB.out | apply zad | apply zaa | apply zac) | exact HB.out)⟩
   case rest =>
    clear HC6
    try clear c3b0
    try clear c4b0
    try clear p5
    try clear q5
    try clear hx5
    try clear p5
    try clear q5
    obtain ⟨kq, x8_5, x9_5, rfl, rfl, HA, HJ5, HB⟩ := hcut
    cases kq with
    | zero => exact absurd HA.out (by simp [zaJ.j2])
    | succ kj5 =>
     have H := HA.out; clear HA
     simp only [zaJ.j2] at H
     by_cases c16 : (wrap64 (a1 + x8_5)) ≥ (a0.size : Int)
     ·rw [if_pos c16] at H
      have c16b0 : decide ((a0.size : Int) ≤ (wrap64 (a1 + x8_5))) = true := decide_eq_true c16
      clear c16
      simp only [Option.some.injEq, Prod.mk.injEq] at H
      obtain ⟨rfl, rfl, rfl⟩ := H
      go_wp2
      go_ret3
      exact ⟨by first | rfl | (simp [zar, zas] <;> rfl) | (simp [*, zar, zas] <;> rfl), by repeat (first | (with_reducible first | exact HB.out | apply zad | apply zaa | apply zac) | exact HB.out)⟩
     rw [if_neg c16] at H
     have c16b0 : decide ((a0.size : Int) ≤ (wrap64 (a1 + x8_5))) = false := decide_eq_false c16
     clear c16; have H' := zab.mk H; clear H
     go_wp2
     go_loopg [9, 10] kj5 (fun kq v9 v10 w' => ∃ (x9_2 : Int) (x10_2 : Int), v9 = .int .i64 x9_2 ∧ v10 = .int .i64 x10_2 ∧ zab (zaJ.l0 kq a0 a1 x8_5 x9_2 x10_2 = some (r1, r2, r3)) ∧ zab (kq ≤ kj5) ∧ zab (Below w.heap.size w w'))
     case atStart => exact ⟨(x9_5), (1), (by first | rfl | (simp; done) | (simp [*]; done)), (by first | rfl | (simp; done) | (simp [*]; done)), H', ⟨Nat.le_refl _⟩, ⟨by repeat (first | (with_reducible first | exact HB.out | apply zad | apply zaa | apply zac) | exact HB.out)⟩⟩
     case round =>
      clear H'
      try clear c3b0
      try clear c4b0
      try clear p5
      try clear q5
      try clear hx5
      try clear c16b0
      try clear p5
      try clear q5
      obtain ⟨x9_2, x10_2, rfl, rfl, HA, HK2, HB⟩ := hrel
      cases gk with
      | zero => exact absurd HA.out (by simp [zaJ.l0])
      | succ k2 =>
       have H := HA.out; clear HA
       simp only [zaJ.l0] at H
       by_cases c17 : x10_2 ≤ x8_5
       ·rw [if_pos c17] at H
        have c17b0 : decide (x10_2 ≤ x8_5) = true := decide_eq_true c17
        clear c17
        obtain ⟨ji18, hji18⟩ : ∃ j_ : Int, (wrap64 (a1 + x10_2)) = j_ := ⟨_, rfl⟩
        replace H : (if 0 ≤ (ji18) then (if (ji18) < (a0.size : Int) then (if (wrap64 (bt a0 (ji18))) < 128 then (some (65533, 1, false)) else (if (wrap64 (bt a0 (ji18))) > 191 then (some (65533, 1, false)) else (zaJ.l0 k2 a0 a1 x8_5 (wrap64 ((wrap64 (x9_2 * 64)) + (Int.tmod (wrap64 (bt a0 (ji18))) 64))) (wrap64 (x10_2 + 1))))) else (none)) else (none)) = some (r1, r2, r3) := by first | (rw [hji18] at H; exact H) | (simp only [hji18] at H ⊢; exact H)
        have hji18w : (IntKind.i64.wrap (a1 + x10_2)) = ji18 := (zaR _).trans hji18
        by_cases c19 : 0 ≤ (ji18)
        ·rw [if_pos c19] at H
         have c19b0 : decide (0 ≤ (ji18)) = true := decide_eq_true c19
         clear c19
         by_cases c20 : (ji18) < (a0.size : Int)
         ·rw [if_pos c20] at H
          have c20b0 : decide ((ji18) < (a0.size : Int)) = true := decide_eq_true c20
          clear c20
          by_cases c22 : (wrap64 (bt a0 (ji18))) < 128
          ·rw [if_pos c22] at H
           have c22b0 : decide ((wrap64 (bt a0 (ji18))) < 128) = true := decide_eq_true c22
           clear c22
           simp only [Option.some.injEq, Prod.mk.injEq] at H
           obtain ⟨rfl, rfl, rfl⟩ := H
           have p21 : 0 ≤ ((ji18) : Int) := of_decide_eq_true (by first | (with_reducible assumption) | assumption)
           have q21 : (ji18) < (a0.size : Int) := of_decide_eq_true (by first | (with_reducible assumption) | assumption)
           have hx21 := bt_at a0 (ji18)
           replace p21 := eq_true p21
           replace q21 := eq_true q21
           go_wp2
           go_ret3
           exact ⟨by first | rfl | (simp [zar, zas] <;> rfl) | (simp only [← hji18]; first | rfl | (simp [zar, zas] <;> rfl)) | (simp [*, zar, zas] <;> rfl), by repeat (first | (with_reducible first | exact HB.out | apply zad | apply zaa | apply zac) | exact HB.out)⟩
          rw [if_neg c22] at H
          have c22b0 : decide ((wrap64 (bt a0 (ji18))) < 128) = false := decide_eq_false c22
          clear c22
          by_cases c23 : (wrap64 (bt a0 (ji18))) > 191
          ·rw [if_pos c23] at H
           have c23b0 : decide (191 < (wrap64 (bt a0 (ji18)))) = true := decide_eq_true c23
           clear c23
           simp only [Option.some.injEq, Prod.mk.injEq] at H
           obtain ⟨rfl, rfl, rfl⟩ := H
           have p21 : 0 ≤ ((ji18) : Int) := of_decide_eq_true (by first | (with_reducible assumption) | assumption)
           have q21 : (ji18) < (a0.size : Int) := of_decide_eq_true (by first | (with_reducible assumption) | assumption)
           have hx21 := bt_at a0 (ji18)
           replace p21 := eq_true p21
           replace q21 := eq_true q21
           go_wp2
           go_ret3
           exact ⟨by first | rfl | (simp [zar, zas] <;> rfl) | (simp only [← hji18]; first | rfl | (simp [zar, zas] <;> rfl)) | (simp [*, zar, zas] <;> rfl), by repeat (first | (with_reducible first | exact HB.out | apply zad | apply zaa | apply zac) | exact HB.out)⟩
          rw [if_neg c23] at H
          have c23b0 : decide (191 < (wrap64 (bt a0 (ji18)))) = false := decide_eq_false c23
          clear c23; have H' := zab.mk H; clear H
          have p21 : 0 ≤ ((ji18) : Int) := of_decide_eq_true (by first | (with_reducible assumption) | assumption)
          have q21 : (ji18) < (a0.size : Int) := of_decide_eq_true (by first | (with_reducible assumption) | assumption)
          have hx21 := bt_at a0 (ji18)
          replace p21 := eq_true p21
          replace q21 := eq_true q21
          go_wp2
          go_roundg k2
          case measure => have := HJ5.out; have := HK2.out; omega
          case rel => exact ⟨(wrap64 ((wrap64 (x9_2 * 64)) + (Int.tmod (wrap64 (bt a0 (ji18))) 64))), (wrap64 (x10_2 + 1)), (by first | rfl | (simp; done) | (simp only [← hji18] <;> (first | rfl | simp)) | (simp [*]; done)), (by first | rfl | (simp; done) | (simp [*]; done)), H', ⟨by have := HJ5.out; have := HK2.out; omega⟩, ⟨by repeat (first | (with_reducible first | exact HB.out | apply zad | apply zaa | apply zac) | exact HB.out)⟩⟩
         rw [if_neg c20] at H
         exact absurd H (by simp)
        rw [if_neg c19] at H
        exact absurd H (by simp)
       rw [if_neg c17] at H
       have c17b0 : decide (x10_2 ≤ x8_5) = false := decide_eq_false c17
       clear c17; replace H := Option.bind_eq_some_iff.mp H
       obtain ⟨t157, A240, H⟩ := H
       replace H : (if t157 = true then ((zbk.f k2 x9_2).bind fun t158 => (if (t158.size : Int) = (wrap64 (x8_5 + 1)) then (some (x9_2, wrap64 (x8_5 + 1), true)) else (some (65533, 1, false)))) else (some (65533, 1, false))) = some (r1, r2, r3) := H
       have A24 := zab.mk A240; clear A240
       by_cases c25 : t157 = true
       ·subst c25
        replace H : ((zbk.f k2 x9_2).bind fun t158 => (if (t158.size : Int) = (wrap64 (x8_5 + 1)) then (some (x9_2, wrap64 (x8_5 + 1), true)) else (some (65533, 1, false)))) = some (r1, r2, r3) := by rw [if_pos rfl] at H; exact H
        replace H := Option.bind_eq_some_iff.mp H
        obtain ⟨t158, A260, H⟩ := H
        replace H : (if (t158.size : Int) = (wrap64 (x8_5 + 1)) then (some (x9_2, wrap64 (x8_5 + 1), true)) else (some (65533, 1, false))) = some (r1, r2, r3) := H
        have A26 := zab.mk A260; clear A260
        by_cases c27 : (t158.size : Int) = (wrap64 (x8_5 + 1))
        ·rw [if_pos c27] at H
         have c27b0 : ((t158.size : Int) == (wrap64 (x8_5 + 1))) = true := beq_iff_eq.mpr c27
         have c27b1 : ((t158.size : Int) != (wrap64 (x8_5 + 1))) = false := bne_eq_false_iff_eq.mpr c27
         clear c27
         simp only [Option.some.injEq, Prod.mk.injEq] at H
         obtain ⟨rfl, rfl, rfl⟩ := H
         go_wp2_with (first | ((with_reducible refine zan (f := 58) rfl ?_); refine zaN (some 77) rfl rfl Tryd.func58 (by kernel_rfl) rfl #[.int .i64 x9_2] rfl (by (try simp only [List.map_toArray, List.map_cons, List.map_nil]); first | done | rfl | (simp only [List.length_drop, List.length_take]; rfl)) ?_; (with_reducible refine (zbA.calls x9_2 true _ A24.out).mono ?_); rintro e w' ⟨rfl, ⟨nd, rfl⟩⟩; refine ⟨_, rfl, ?_⟩) | (go_at_call 40; (with_reducible refine (zbk.calls k2 x9_2 t158 _ A26.out).mono ?_); rintro e w28 ⟨rfl, hb⟩; have n0_ := zab.mk (zau (by repeat (first | (with_reducible first | exact HB.out | apply zad | apply zaa | apply zac) | exact HB.out)) hb); clear HB; have HB := n0_; clear n0_; (try clear hb); (try clear hb2); (try clear hk); (try clear hi)))
         go_ret3
         exact ⟨by first | rfl | (simp [zar, zas] <;> rfl) | (simp [*, zar, zas] <;> rfl), by repeat (first | (with_reducible first | exact HB.out | apply zad | apply zaa | apply zac) | exact HB.out)⟩
        rw [if_neg c27] at H
        have c27b0 : ((t158.size : Int) == (wrap64 (x8_5 + 1))) = false := beq_eq_false_iff_ne.mpr c27
        have c27b1 : ((t158.size : Int) != (wrap64 (x8_5 + 1))) = true := bne_iff_ne.mpr c27
        simp only [Option.some.injEq, Prod.mk.injEq] at H
        obtain ⟨rfl, rfl, rfl⟩ := H
        go_wp2_with (first | ((with_reducible refine zan (f := 58) rfl ?_); refine zaN (some 77) rfl rfl Tryd.func58 (by kernel_rfl) rfl #[.int .i64 x9_2] rfl (by (try simp only [List.map_toArray, List.map_cons, List.map_nil]); first | done | rfl | (simp only [List.length_drop, List.length_take]; rfl)) ?_; (with_reducible refine (zbA.calls x9_2 true _ A24.out).mono ?_); rintro e w' ⟨rfl, ⟨nd, rfl⟩⟩; refine ⟨_, rfl, ?_⟩) | (go_at_call 40; (with_reducible refine (zbk.calls k2 x9_2 t158 _ A26.out).mono ?_); rintro e w29 ⟨rfl, hb⟩; have n0_ := zab.mk (zau (by repeat (first | (with_reducible first | exact HB.out | apply zad | apply zaa | apply zac) | exact HB.out)) hb); clear HB; have HB := n0_; clear n0_; (try clear hb); (try clear hb2); (try clear hk); (try clear hi)))
        go_ret3
        exact ⟨by first | rfl | (simp [zar, zas] <;> rfl) | (simp [*, zar, zas] <;> rfl), by repeat (first | (with_reducible first | exact HB.out | apply zad | apply zaa | apply zac) | exact HB.out)⟩
       replace c25 := Bool.eq_false_iff.mpr c25
       subst c25
       replace H : (some (65533, 1, false)) = some (r1, r2, r3) := by rw [if_neg (show ¬ (false = true) by decide)] at H; exact H
       simp only [Option.some.injEq, Prod.mk.injEq] at H
       obtain ⟨rfl, rfl, rfl⟩ := H
       go_wp2_with (first | ((with_reducible refine zan (f := 58) rfl ?_); refine zaN (some 77) rfl rfl Tryd.func58 (by kernel_rfl) rfl #[.int .i64 x9_2] rfl (by (try simp only [List.map_toArray, List.map_cons, List.map_nil]); first | done | rfl | (simp only [List.length_drop, List.length_take]; rfl)) ?_; (with_reducible refine (zbA.calls x9_2 false _ A24.out).mono ?_); rintro e w' ⟨rfl, ⟨nd, rfl⟩⟩; refine ⟨_, rfl, ?_⟩))
       go_ret3
       exact ⟨by first | rfl | (simp [zar, zas] <;> rfl) | (simp [*, zar, zas] <;> rfl), by repeat (first | (with_reducible first | exact HB.out | apply zad | apply zaa | apply zac) | exact HB.out)⟩
  rw [if_neg c4] at H
  exact absurd H (by simp)
 rw [if_neg c3] at H
 exact absurd H (by simp)
end Go.Proofs.YtfafjbolmeimmaaDoor.P
