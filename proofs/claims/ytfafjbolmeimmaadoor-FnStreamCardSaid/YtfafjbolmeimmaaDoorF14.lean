/- Written by a program of this session: plain Lean functions for Go functions, and for each the proof that the call comes to what the function says. -/
import Derived.Test.YtfafjbolmeimmaaDoorF0
namespace Go.Proofs.YtfafjbolmeimmaaDoor.P
open Go.RowKit Go.Proofs.YtfafjbolmeimmaaDoorW.PrintWords Go.Proofs.YtfafjbolmeimmaaDoorW.PrintLast Go.Proofs.YtfafjbolmeimmaaDoorW.PrintMore
attribute [local go_sem] max2_int min2_int max_two min_two max_three min_three max_four min_four
set_option linter.unusedVariables false
set_option linter.unusedSimpArgs false
mutual
def zaM.j3 : Nat → ByteArray → Int → Int → Int → Option (Int × Bool)
 | 0, _, _, _, _ => none
 | k + 1, x0, x5, x6, x7 => zaM.l0 k x0 x5 x6 x7 1
def zaM.l0 : Nat → ByteArray → Int → Int → Int → Int → Option (Int × Bool)
 | 0, _, _, _, _, _ => none
 | k + 1, x0, x5, x6, x7, x8 => if x8 < x5 then (if x8 < (x0.size : Int) then (if 0 ≤ x8 then (if (bt x0 x8) ≥ x6 then (if (bt x0 x8) ≤ x7 then (zaM.l0 k x0 x5 128 191 (wrap64 (x8 + 1))) else (some (x8, (x8 == x5)))) else (some (x8, (x8 == x5)))) else (none)) else (some (x8, (x8 == x5)))) else (some (x8, (x8 == x5)))
def zaM.j0 : Nat → ByteArray → Int → Int → Int → Bool → Option (Int × Bool)
 | 0, _, _, _, _, _ => none
 | k + 1, x0, x4, x6, x7, x14 => if x14 = true then (zaM.j3 k x0 2 x6 x7) else (if x4 ≥ 224 then (zaM.j1 k x0 x4 x6 x7 (decide (x4 ≤ 239))) else (zaM.j1 k x0 x4 x6 x7 false))
def zaM.j1 : Nat → ByteArray → Int → Int → Int → Bool → Option (Int × Bool)
 | 0, _, _, _, _, _ => none
 | k + 1, x0, x4, x6, x7, x21 => if x21 = true then (if x4 = 224 then (if x4 = 237 then (zaM.j3 k x0 3 160 159) else (zaM.j3 k x0 3 160 x7)) else (if x4 = 237 then (zaM.j3 k x0 3 x6 159) else (zaM.j3 k x0 3 x6 x7))) else (if x4 ≥ 240 then (zaM.j2 k x0 x4 x6 x7 (decide (x4 ≤ 244))) else (zaM.j2 k x0 x4 x6 x7 false))
def zaM.j2 : Nat → ByteArray → Int → Int → Int → Bool → Option (Int × Bool)
 | 0, _, _, _, _, _ => none
 | k + 1, x0, x4, x6, x7, x32 => if x32 = true then (if x4 = 240 then (if x4 = 244 then (zaM.j3 k x0 4 144 143) else (zaM.j3 k x0 4 144 x7)) else (if x4 = 244 then (zaM.j3 k x0 4 x6 143) else (zaM.j3 k x0 4 x6 x7))) else (some (0, false))
end
def zaM.f (k : Nat) (a0 : ByteArray) : Option (Int × Bool) := if 0 < (a0.size : Int) then (if (bt a0 0) < 128 then (some (1, true)) else (if (bt a0 0) ≥ 194 then (zaM.j0 k a0 (bt a0 0) 128 191 (decide ((bt a0 0) ≤ 223))) else (zaM.j0 k a0 (bt a0 0) 128 191 false))) else (none)
set_option maxHeartbeats 8000000 in
set_option maxRecDepth 100000 in
theorem zaM.calls (k : Nat) (a0 : ByteArray) (r1 : Int) (r2 : Bool) (w : World) (h : zaM.f k a0 = some (r1, r2)) :
  Calls Tryd.prog 43 #[.string a0] w fun e w' => e = .returned (.tuple #[.int .i64 r1, .bool r2]) ∧ zaK w w' := by
 have H : (if 0 < (a0.size : Int) then (if (bt a0 0) < 128 then (some (1, true)) else (if (bt a0 0) ≥ 194 then (zaM.j0 k a0 (bt a0 0) 128 191 (decide ((bt a0 0) ≤ 223))) else (zaM.j0 k a0 (bt a0 0) 128 191 false))) else (none)) = some (r1, r2) := h
 clear h
 by_cases c2 : 0 < (a0.size : Int)
 ·rw [if_pos c2] at H
  have c2b0 : decide (0 < (a0.size : Int)) = true := decide_eq_true c2
  have c2b1 : decide (0 < a0.size) = true := decide_eq_true (by omega)
  clear c2; have HC4 := zab.mk H; clear H
  have p3 : 0 ≤ (0 : Int) := (by omega)
  have q3 : 0 < a0.size := (by have : (0 : Int) < (a0.size : Int) := of_decide_eq_true (by first | (with_reducible assumption) | assumption); omega)
  have hx3 : ∀ h : 0 < a0.size, ((a0[0]'h).toNat : Int) = bt a0 0 := bt_at a0 0
  clear p3
  have qi3 : (0 < (a0.size : Int)) = True := eq_true (of_decide_eq_true (by first | (with_reducible assumption) | assumption))
  replace q3 := eq_true q3
  go_enter Tryd.func43, Tryd.ntmps43
  go_upto_block 0 with (fail)
  go_cut [5, 6, 7] (fun v5 v6 v7 wc => ∃ (kq : Nat) (x5_3 : Int) (x6_3 : Int) (x7_3 : Int), v5 = .int .i64 x5_3 ∧ v6 = .int .u8 x6_3 ∧ v7 = .int .u8 x7_3 ∧ zab (zaM.j3 kq a0 x5_3 x6_3 x7_3 = some (r1, r2)) ∧ zab (kq ≤ k) ∧ zaK w wc)
  case first =>
   have H := HC4.out; clear HC4
   by_cases c5 : (bt a0 0) < 128
   ·rw [if_pos c5] at H
    have c5b0 : decide ((bt a0 0) < 128) = true := decide_eq_true c5
    clear c5
    (first | rw [c5b0] | rw [c5b1] | (simp only [zaR, zaS]; rw [c5b0]) | skip)
    simp only [Option.some.injEq, Prod.mk.injEq] at H
    obtain ⟨rfl, rfl⟩ := H
    go_wp2
    go_ret2
    exact ⟨by first | rfl | (simp; done) | (simp [*]; done), by repeat (first | exact zaK.refl _ | apply zaK.step)⟩
   rw [if_neg c5] at H
   have c5b0 : decide ((bt a0 0) < 128) = false := decide_eq_false c5
   clear c5
   (first | rw [c5b0] | rw [c5b1] | (simp only [zaR, zaS]; rw [c5b0]) | skip)
   have HC6 := zab.mk H; clear H
   go_upto_region 6 with (fail)
   go_cut [14] (fun v14 wc => ∃ (kq : Nat) (x14_5 : Bool), v14 = .bool x14_5 ∧ zab (zaM.j0 kq a0 (bt a0 0) 128 191 x14_5 = some (r1, r2)) ∧ zab (kq ≤ k) ∧ zaK w wc)
   case first =>
    have H := HC6.out; clear HC6
    by_cases c7 : (bt a0 0) ≥ 194
    ·rw [if_pos c7] at H
     have c7b0 : decide (194 ≤ (bt a0 0)) = true := decide_eq_true c7
     clear c7
     (first | rw [c7b0] | rw [c7b1] | (simp only [zaR, zaS]; rw [c7b0]) | skip)
     have H' := zab.mk H; clear H
     go_wp2
     go_meet
     case rel => exact ⟨_, (decide ((bt a0 0) ≤ 223)), (by first | rfl | (simp; done) | (simp [*]; done)), H', ⟨by first | omega | exact Nat.le_refl _⟩, by repeat (first | exact zaK.refl _ | apply zaK.step)⟩
    rw [if_neg c7] at H
    have c7b0 : decide (194 ≤ (bt a0 0)) = false := decide_eq_false c7
    clear c7
    (first | rw [c7b0] | rw [c7b1] | (simp only [zaR, zaS]; rw [c7b0]) | skip)
    have H' := zab.mk H; clear H
    go_wp2
    go_meet
    case rel => exact ⟨_, (false), (by first | rfl | (simp; done) | (simp [*]; done)), H', ⟨by first | omega | exact Nat.le_refl _⟩, by repeat (first | exact zaK.refl _ | apply zaK.step)⟩
   case rest =>
    clear HC6
    try clear c2b0
    try clear c2b1
    try clear q3
    try clear hx3
    try clear qi3
    try clear c5b0
    try clear c5b1
    try clear q3
    obtain ⟨kq, x14_5, rfl, HA, HJ5, ⟨mc5, rfl⟩⟩ := hcut
    cases kq with
    | zero => exact absurd HA.out (by simp [zaM.j0])
    | succ kj5 =>
     have H := HA.out; clear HA
     simp only [zaM.j0] at H
     by_cases c8 : x14_5 = true
     ·subst c8
      replace H : (zaM.j3 kj5 a0 2 128 191) = some (r1, r2) := by rw [if_pos rfl] at H; exact H
      have H' := zab.mk H; clear H
      go_wp2
      go_meet
      case rel => exact ⟨_, (2), (128), (191), (by first | rfl | (simp; done) | (simp [*]; done)), (by first | rfl | (simp; done) | (simp [*]; done)), (by first | rfl | (simp; done) | (simp [*]; done)), H', ⟨by have := HJ5.out; first | omega | exact Nat.le_refl _⟩, by repeat (first | exact zaK.refl _ | apply zaK.step)⟩
     replace c8 := Bool.eq_false_iff.mpr c8
     subst c8
     replace H : (if (bt a0 0) ≥ 224 then (zaM.j1 kj5 a0 (bt a0 0) 128 191 (decide ((bt a0 0) ≤ 239))) else (zaM.j1 kj5 a0 (bt a0 0) 128 191 false)) = some (r1, r2) := by rw [if_neg (show ¬ (false = true) by decide)] at H; exact H
     have HC9 := zab.mk H; clear H
     go_upto_region 8 with (fail)
     go_cut [21] (fun v21 wc => ∃ (kq : Nat) (x21_8 : Bool), v21 = .bool x21_8 ∧ zab (zaM.j1 kq a0 (bt a0 0) 128 191 x21_8 = some (r1, r2)) ∧ zab (kq ≤ kj5) ∧ zaK w wc)
     case first =>
      have H := HC9.out; clear HC9
      by_cases c10 : (bt a0 0) ≥ 224
      ·rw [if_pos c10] at H
       have c10b0 : decide (224 ≤ (bt a0 0)) = true := decide_eq_true c10
       clear c10
       (first | rw [c10b0] | rw [c10b1] | (simp only [zaR, zaS]; rw [c10b0]) | skip)
       have H' := zab.mk H; clear H
       go_wp2
       go_meet
       case rel => exact ⟨_, (decide ((bt a0 0) ≤ 239)), (by first | rfl | (simp; done) | (simp [*]; done)), H', ⟨by have := HJ5.out; first | omega | exact Nat.le_refl _⟩, by repeat (first | exact zaK.refl _ | apply zaK.step)⟩
      rw [if_neg c10] at H
      have c10b0 : decide (224 ≤ (bt a0 0)) = false := decide_eq_false c10
      clear c10
      (first | rw [c10b0] | rw [c10b1] | (simp only [zaR, zaS]; rw [c10b0]) | skip)
      have H' := zab.mk H; clear H
      go_wp2
      go_meet
      case rel => exact ⟨_, (false), (by first | rfl | (simp; done) | (simp [*]; done)), H', ⟨by have := HJ5.out; first | omega | exact Nat.le_refl _⟩, by repeat (first | exact zaK.refl _ | apply zaK.step)⟩
     case rest =>
      clear HC9
      try clear c2b0
      try clear c2b1
      try clear q3
      try clear hx3
      try clear qi3
      try clear c5b0
      try clear c5b1
      try clear c8
      try clear q3
      obtain ⟨kq, x21_8, rfl, HA, HJ8, ⟨mc8, rfl⟩⟩ := hcut
      cases kq with
      | zero => exact absurd HA.out (by simp [zaM.j1])
      | succ kj8 =>
       have H := HA.out; clear HA
       simp only [zaM.j1] at H
       by_cases c11 : x21_8 = true
       ·subst c11
        replace H : (if (bt a0 0) = 224 then (if (bt a0 0) = 237 then (zaM.j3 kj8 a0 3 160 159) else (zaM.j3 kj8 a0 3 160 191)) else (if (bt a0 0) = 237 then (zaM.j3 kj8 a0 3 128 159) else (zaM.j3 kj8 a0 3 128 191))) = some (r1, r2) := by rw [if_pos rfl] at H; exact H
        by_cases c12 : (bt a0 0) = 224
        ·rw [if_pos c12] at H
         have c12b0 : ((bt a0 0) == 224) = true := beq_iff_eq.mpr c12
         have c12b1 : ((bt a0 0) != 224) = false := bne_eq_false_iff_eq.mpr c12
         clear c12
         by_cases c13 : (bt a0 0) = 237
         ·rw [if_pos c13] at H
          have c13b0 : ((bt a0 0) == 237) = true := beq_iff_eq.mpr c13
          have c13b1 : ((bt a0 0) != 237) = false := bne_eq_false_iff_eq.mpr c13
          clear c13; have H' := zab.mk H; clear H
          go_wp2
          go_meet
          case rel => exact ⟨_, (3), (160), (159), (by first | rfl | (simp; done) | (simp [*]; done)), (by first | rfl | (simp; done) | (simp [*]; done)), (by first | rfl | (simp; done) | (simp [*]; done)), H', ⟨by have := HJ5.out; have := HJ8.out; first | omega | exact Nat.le_refl _⟩, by repeat (first | exact zaK.refl _ | apply zaK.step)⟩
         rw [if_neg c13] at H
         have c13b0 : ((bt a0 0) == 237) = false := beq_eq_false_iff_ne.mpr c13
         have c13b1 : ((bt a0 0) != 237) = true := bne_iff_ne.mpr c13
         have H' := zab.mk H; clear H
         go_wp2
         go_meet
         case rel => exact ⟨_, (3), (160), (191), (by first | rfl | (simp; done) | (simp [*]; done)), (by first | rfl | (simp; done) | (simp [*]; done)), (by first | rfl | (simp; done) | (simp [*]; done)), H', ⟨by have := HJ5.out; have := HJ8.out; first | omega | exact Nat.le_refl _⟩, by repeat (first | exact zaK.refl _ | apply zaK.step)⟩
        rw [if_neg c12] at H
        have c12b0 : ((bt a0 0) == 224) = false := beq_eq_false_iff_ne.mpr c12
        have c12b1 : ((bt a0 0) != 224) = true := bne_iff_ne.mpr c12
        by_cases c14 : (bt a0 0) = 237
        ·rw [if_pos c14] at H
         have c14b0 : ((bt a0 0) == 237) = true := beq_iff_eq.mpr c14
         have c14b1 : ((bt a0 0) != 237) = false := bne_eq_false_iff_eq.mpr c14
         clear c14; have H' := zab.mk H; clear H
         go_wp2
         go_meet
         case rel => exact ⟨_, (3), (128), (159), (by first | rfl | (simp; done) | (simp [*]; done)), (by first | rfl | (simp; done) | (simp [*]; done)), (by first | rfl | (simp; done) | (simp [*]; done)), H', ⟨by have := HJ5.out; have := HJ8.out; first | omega | exact Nat.le_refl _⟩, by repeat (first | exact zaK.refl _ | apply zaK.step)⟩
        rw [if_neg c14] at H
        have c14b0 : ((bt a0 0) == 237) = false := beq_eq_false_iff_ne.mpr c14
        have c14b1 : ((bt a0 0) != 237) = true := bne_iff_ne.mpr c14
        have H' := zab.mk H; clear H
        go_wp2
        go_meet
        case rel => exact ⟨_, (3), (128), (191), (by first | rfl | (simp; done) | (simp [*]; done)), (by first | rfl | (simp; done) | (simp [*]; done)), (by first | rfl | (simp; done) | (simp [*]; done)), H', ⟨by have := HJ5.out; have := HJ8.out; first | omega | exact Nat.le_refl _⟩, by repeat (first | exact zaK.refl _ | apply zaK.step)⟩
       replace c11 := Bool.eq_false_iff.mpr c11
       subst c11
       replace H : (if (bt a0 0) ≥ 240 then (zaM.j2 kj8 a0 (bt a0 0) 128 191 (decide ((bt a0 0) ≤ 244))) else (zaM.j2 kj8 a0 (bt a0 0) 128 191 false)) = some (r1, r2) := by rw [if_neg (show ¬ (false = true) by decide)] at H; exact H
       have HC15 := zab.mk H; clear H
       go_upto_region 14 with (fail)
       go_cut [32] (fun v32 wc => ∃ (kq : Nat) (x32_14 : Bool), v32 = .bool x32_14 ∧ zab (zaM.j2 kq a0 (bt a0 0) 128 191 x32_14 = some (r1, r2)) ∧ zab (kq ≤ kj8) ∧ zaK w wc)
       case first =>
        have H := HC15.out; clear HC15
        by_cases c16 : (bt a0 0) ≥ 240
        ·rw [if_pos c16] at H
         have c16b0 : decide (240 ≤ (bt a0 0)) = true := decide_eq_true c16
         clear c16
         (first | rw [c16b0] | rw [c16b1] | (simp only [zaR, zaS]; rw [c16b0]) | skip)
         have H' := zab.mk H; clear H
         go_wp2
         go_meet
         case rel => exact ⟨_, (decide ((bt a0 0) ≤ 244)), (by first | rfl | (simp; done) | (simp [*]; done)), H', ⟨by have := HJ5.out; have := HJ8.out; first | omega | exact Nat.le_refl _⟩, by repeat (first | exact zaK.refl _ | apply zaK.step)⟩
        rw [if_neg c16] at H
        have c16b0 : decide (240 ≤ (bt a0 0)) = false := decide_eq_false c16
        clear c16
        (first | rw [c16b0] | rw [c16b1] | (simp only [zaR, zaS]; rw [c16b0]) | skip)
        have H' := zab.mk H; clear H
        go_wp2
        go_meet
        case rel => exact ⟨_, (false), (by first | rfl | (simp; done) | (simp [*]; done)), H', ⟨by have := HJ5.out; have := HJ8.out; first | omega | exact Nat.le_refl _⟩, by repeat (first | exact zaK.refl _ | apply zaK.step)⟩
       case rest =>
        clear HC15
        try clear c2b0
        try clear c2b1
        try clear q3
        try clear hx3
        try clear qi3
        try clear c5b0
        try clear c5b1
        try clear c8
        try clear c11
        try clear q3
        obtain ⟨kq, x32_14, rfl, HA, HJ14, ⟨mc14, rfl⟩⟩ := hcut
        cases kq with
        | zero => exact absurd HA.out (by simp [zaM.j2])
        | succ kj14 =>
         have H := HA.out; clear HA
         simp only [zaM.j2] at H
         by_cases c17 : x32_14 = true
         ·subst c17
          replace H : (if (bt a0 0) = 240 then (if (bt a0 0) = 244 then (zaM.j3 kj14 a0 4 144 143) else (zaM.j3 kj14 a0 4 144 191)) else (if (bt a0 0) = 244 then (zaM.j3 kj14 a0 4 128 143) else (zaM.j3 kj14 a0 4 128 191))) = some (r1, r2) := by rw [if_pos rfl] at H; exact H
          by_cases c18 : (bt a0 0) = 240
          ·rw [if_pos c18] at H
           have c18b0 : ((bt a0 0) == 240) = true := beq_iff_eq.mpr c18
           have c18b1 : ((bt a0 0) != 240) = false := bne_eq_false_iff_eq.mpr c18
           clear c18
           by_cases c19 : (bt a0 0) = 244
           ·rw [if_pos c19] at H
            have c19b0 : ((bt a0 0) == 244) = true := beq_iff_eq.mpr c19
            have c19b1 : ((bt a0 0) != 244) = false := bne_eq_false_iff_eq.mpr c19
            clear c19; have H' := zab.mk H; clear H
            go_wp2
            go_meet
            case rel => exact ⟨_, (4), (144), (143), (by first | rfl | (simp; done) | (simp [*]; done)), (by first | rfl | (simp; done) | (simp [*]; done)), (by first | rfl | (simp; done) | (simp [*]; done)), H', ⟨by have := HJ5.out; have := HJ8.out; have := HJ14.out; first | omega | exact Nat.le_refl _⟩, by repeat (first | exact zaK.refl _ | apply zaK.step)⟩
           rw [if_neg c19] at H
           have c19b0 : ((bt a0 0) == 244) = false := beq_eq_false_iff_ne.mpr c19
           have c19b1 : ((bt a0 0) != 244) = true := bne_iff_ne.mpr c19
           have H' := zab.mk H; clear H
           go_wp2
           go_meet
           case rel => exact ⟨_, (4), (144), (191), (by first | rfl | (simp; done) | (simp [*]; done)), (by first | rfl | (simp; done) | (simp [*]; done)), (by first | rfl | (simp; done) | (simp [*]; done)), H', ⟨by have := HJ5.out; have := HJ8.out; have := HJ14.out; first | omega | exact Nat.le_refl _⟩, by repeat (first | exact zaK.refl _ | apply zaK.step)⟩
          rw [if_neg c18] at H
          have c18b0 : ((bt a0 0) == 240) = false := beq_eq_false_iff_ne.mpr c18
          have c18b1 : ((bt a0 0) != 240) = true := bne_iff_ne.mpr c18
          by_cases c20 : (bt a0 0) = 244
          ·rw [if_pos c20] at H
           have c20b0 : ((bt a0 0) == 244) = true := beq_iff_eq.mpr c20
           have c20b1 : ((bt a0 0) != 244) = false := bne_eq_false_iff_eq.mpr c20
           clear c20; have H' := zab.mk H; clear H
           go_wp2
           go_meet
           case rel => exact ⟨_, (4), (128), (143), (by first | rfl | (simp; done) | (simp [*]; done)), (by first | rfl | (simp; done) | (simp [*]; done)), (by first | rfl | (simp; done) | (simp [*]; done)), H', ⟨by have := HJ5.out; have := HJ8.out; have := HJ14.out; first | omega | exact Nat.le_refl _⟩, by repeat (first | exact zaK.refl _ | apply zaK.step)⟩
          rw [if_neg c20] at H
          have c20b0 : ((bt a0 0) == 244) = false := beq_eq_false_iff_ne.mpr c20
          have c20b1 : ((bt a0 0) != 244) = true := bne_iff_ne.mpr c20
          have H' := zab.mk H; clear H
          go_wp2
          go_meet
          case rel => exact ⟨_, (4), (128), (191), (by first | rfl | (simp; done) | (simp [*]; done)), (by first | rfl | (simp; done) | (simp [*]; done)), (by first | rfl | (simp; done) | (simp [*]; done)), H', ⟨by have := HJ5.out; have := HJ8.out; have := HJ14.out; first | omega | exact Nat.le_refl _⟩, by repeat (first | exact zaK.refl _ | apply zaK.step)⟩
         replace c17 := Bool.eq_false_iff.mpr c17
         subst c17
         replace H : (some (0, false)) = some (r1, r2) := by rw [if_neg (show ¬ (false = true) by decide)] at H; exact H
         simp only [Option.some.injEq, Prod.mk.injEq] at H
         obtain ⟨rfl, rfl⟩ := H
         go_wp2
         go_ret2
         exact ⟨by first | rfl | (simp; done) | (simp [*]; done), by repeat (first | exact zaK.refl _ | apply zaK.step)⟩
  case rest =>
   clear HC4
   try clear c2b0
   try clear c2b1
   try clear q3
   try clear hx3
   try clear qi3
   try clear q3
   obtain ⟨kq, x5_3, x6_3, x7_3, rfl, rfl, rfl, HA, HJ3, ⟨mc3, rfl⟩⟩ := hcut
   cases kq with
   | zero => exact absurd HA.out (by simp [zaM.j3])
   | succ kj3 =>
    have H := HA.out; clear HA
    simp only [zaM.j3] at H
    have H' := zab.mk H; clear H
    go_wp2
    go_loopg [6, 7, 8] kj3 (fun kq v6 v7 v8 w' => ∃ (x6_2 : Int) (x7_2 : Int) (x8_2 : Int), v6 = .int .u8 x6_2 ∧ v7 = .int .u8 x7_2 ∧ v8 = .int .i64 x8_2 ∧ zab (zaM.l0 kq a0 x5_3 x6_2 x7_2 x8_2 = some (r1, r2)) ∧ zab (kq ≤ kj3) ∧ zaK w w')
    case atStart => exact ⟨(x6_3), (x7_3), (1), (by first | rfl | (simp; done) | (simp [*]; done)), (by first | rfl | (simp; done) | (simp [*]; done)), (by first | rfl | (simp; done) | (simp [*]; done)), H', ⟨Nat.le_refl _⟩, by repeat (first | exact zaK.refl _ | apply zaK.step)⟩
    case round =>
     clear H'
     try clear c2b0
     try clear c2b1
     try clear q3
     try clear hx3
     try clear qi3
     try clear q3
     obtain ⟨x6_2, x7_2, x8_2, rfl, rfl, rfl, HA, HK2, ⟨m2, rfl⟩⟩ := hrel
     cases gk with
     | zero => exact absurd HA.out (by simp [zaM.l0])
     | succ k2 =>
      have H := HA.out; clear HA
      simp only [zaM.l0] at H
      by_cases c21 : x8_2 < x5_3
      ·rw [if_pos c21] at H
       have c21b0 : decide (x8_2 < x5_3) = true := decide_eq_true c21
       clear c21
       by_cases c22 : x8_2 < (a0.size : Int)
       ·rw [if_pos c22] at H
        have c22b0 : decide (x8_2 < (a0.size : Int)) = true := decide_eq_true c22
        clear c22
        by_cases c23 : 0 ≤ x8_2
        ·rw [if_pos c23] at H
         have c23b0 : decide (0 ≤ x8_2) = true := decide_eq_true c23
         clear c23
         by_cases c25 : (bt a0 x8_2) ≥ x6_2
         ·rw [if_pos c25] at H
          have c25b0 : decide (x6_2 ≤ (bt a0 x8_2)) = true := decide_eq_true c25
          clear c25
          by_cases c27 : (bt a0 x8_2) ≤ x7_2
          ·rw [if_pos c27] at H
           have c27b0 : decide ((bt a0 x8_2) ≤ x7_2) = true := decide_eq_true c27
           clear c27; have H' := zab.mk H; clear H
           have p24 : 0 ≤ (x8_2 : Int) := of_decide_eq_true (by first | (with_reducible assumption) | assumption)
           have q24 : x8_2 < (a0.size : Int) := of_decide_eq_true (by first | (with_reducible assumption) | assumption)
           have hx24 := bt_at a0 x8_2
           replace p24 := eq_true p24
           replace q24 := eq_true q24
           have p26 : 0 ≤ (x8_2 : Int) := of_decide_eq_true (by first | (with_reducible assumption) | assumption)
           have q26 : x8_2 < (a0.size : Int) := of_decide_eq_true (by first | (with_reducible assumption) | assumption)
           have hx26 := bt_at a0 x8_2
           replace p26 := eq_true p26
           replace q26 := eq_true q26
           go_wp2
           go_roundg k2
           case measure => have := HJ3.out; have := HK2.out; omega
           case rel => exact ⟨(128), (191), (wrap64 (x8_2 + 1)), (by first | rfl | (simp; done) | (simp [*]; done)), (by first | rfl | (simp; done) | (simp [*]; done)), (by first | rfl | (simp; done) | (simp [*]; done)), H', ⟨by have := HJ3.out; have := HK2.out; omega⟩, by repeat (first | exact zaK.refl _ | apply zaK.step)⟩
          rw [if_neg c27] at H
          have c27b0 : decide ((bt a0 x8_2) ≤ x7_2) = false := decide_eq_false c27
          clear c27
          simp only [Option.some.injEq, Prod.mk.injEq] at H
          obtain ⟨rfl, rfl⟩ := H
          have p24 : 0 ≤ (x8_2 : Int) := of_decide_eq_true (by first | (with_reducible assumption) | assumption)
          have q24 : x8_2 < (a0.size : Int) := of_decide_eq_true (by first | (with_reducible assumption) | assumption)
          have hx24 := bt_at a0 x8_2
          replace p24 := eq_true p24
          replace q24 := eq_true q24
          have p26 : 0 ≤ (x8_2 : Int) := of_decide_eq_true (by first | (with_reducible assumption) | assumption)
          have q26 : x8_2 < (a0.size : Int) := of_decide_eq_true (by first | (with_reducible assumption) | assumption)
          have hx26 := bt_at a0 x8_2
          replace p26 := eq_true p26
          replace q26 := eq_true q26
          go_wp2
          go_ret2
          exact ⟨by first | rfl | (simp; done) | (simp [*]; done), by repeat (first | exact zaK.refl _ | apply zaK.step)⟩
         rw [if_neg c25] at H
         have c25b0 : decide (x6_2 ≤ (bt a0 x8_2)) = false := decide_eq_false c25
         clear c25
         simp only [Option.some.injEq, Prod.mk.injEq] at H
         obtain ⟨rfl, rfl⟩ := H
         have p24 : 0 ≤ (x8_2 : Int) := of_decide_eq_true (by first | (with_reducible assumption) | assumption)
         have q24 : x8_2 < (a0.size : Int) := of_decide_eq_true (by first | (with_reducible assumption) | assumption)
         have hx24 := bt_at a0 x8_2
         replace p24 := eq_true p24
         replace q24 := eq_true q24
         go_wp2
         go_ret2
         exact ⟨by first | rfl | (simp; done) | (simp [*]; done), by repeat (first | exact zaK.refl _ | apply zaK.step)⟩
        rw [if_neg c23] at H
        exact absurd H (by simp)
       rw [if_neg c22] at H
       have c22b0 : decide (x8_2 < (a0.size : Int)) = false := decide_eq_false c22
       clear c22
       simp only [Option.some.injEq, Prod.mk.injEq] at H
       obtain ⟨rfl, rfl⟩ := H
       go_wp2
       go_ret2
       exact ⟨by first | rfl | (simp; done) | (simp [*]; done), by repeat (first | exact zaK.refl _ | apply zaK.step)⟩
      rw [if_neg c21] at H
      have c21b0 : decide (x8_2 < x5_3) = false := decide_eq_false c21
      clear c21
      simp only [Option.some.injEq, Prod.mk.injEq] at H
      obtain ⟨rfl, rfl⟩ := H
      go_wp2
      go_ret2
      exact ⟨by first | rfl | (simp; done) | (simp [*]; done), by repeat (first | exact zaK.refl _ | apply zaK.step)⟩
 rw [if_neg c2] at H
 exact absurd H (by simp)
end Go.Proofs.YtfafjbolmeimmaaDoor.P
