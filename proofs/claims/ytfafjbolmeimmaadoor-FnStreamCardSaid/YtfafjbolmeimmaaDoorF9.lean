/- Written by a program of this session: plain Lean functions for Go functions, and for each the proof that the call comes to what the function says. -/
import Derived.Test.YtfafjbolmeimmaaDoorF0
namespace Go.Proofs.YtfafjbolmeimmaaDoor.P
open Go.RowKit Go.Proofs.YtfafjbolmeimmaaDoorW.PrintWords Go.Proofs.YtfafjbolmeimmaaDoorW.PrintLast Go.Proofs.YtfafjbolmeimmaaDoorW.PrintMore
attribute [local go_sem] max2_int min2_int max_two min_two max_three min_three max_four min_four
set_option linter.unusedVariables false
set_option linter.unusedSimpArgs false
mutual
def zaA.j2 : Nat → ByteArray → Int → Int → Int → Option (Bool)
 | 0, _, _, _, _ => none
 | k + 1, x0, x3, x4, x5 => if 0 < (x0.size : Int) then (if (bt x0 0) = 224 then (zaA.j3 k x0 160 x4 x5) else (if (bt x0 0) = 237 then (zaA.j3 k x0 x3 159 x5) else (if (bt x0 0) = 240 then (zaA.j3 k x0 144 x4 x5) else (if (bt x0 0) = 244 then (zaA.j3 k x0 x3 143 x5) else (zaA.j3 k x0 x3 x4 x5))))) else (none)
def zaA.j3 : Nat → ByteArray → Int → Int → Int → Option (Bool)
 | 0, _, _, _, _ => none
 | k + 1, x0, x3, x4, x5 => if (x0.size : Int) > x5 then (some false) else (zaA.l0 k x0 x3 x4 1)
def zaA.l0 : Nat → ByteArray → Int → Int → Int → Option (Bool)
 | 0, _, _, _, _ => none
 | k + 1, x0, x3, x4, x7 => if x7 < (x0.size : Int) then (if x7 = 1 then (if 0 ≤ x7 then (if (bt x0 x7) < x3 then (some false) else (if (bt x0 x7) > x4 then (some false) else (if (bt x0 x7) < 128 then (some false) else (if (bt x0 x7) > 191 then (some false) else (zaA.l0 k x0 x3 x4 (wrap64 (x7 + 1))))))) else (none)) else (if 0 ≤ x7 then (if (bt x0 x7) < 128 then (some false) else (if (bt x0 x7) > 191 then (some false) else (zaA.l0 k x0 x3 x4 (wrap64 (x7 + 1))))) else (none))) else (some true)
def zaA.j0 : Nat → ByteArray → Int → Int → Int → Int → Bool → Option (Bool)
 | 0, _, _, _, _, _, _ => none
 | k + 1, x0, x3, x4, x5, x6, x12 => if x12 = true then (zaA.j2 k x0 x3 x4 1) else (if x6 ≥ 224 then (zaA.j1 k x0 x3 x4 x5 x6 (decide (x6 ≤ 239))) else (zaA.j1 k x0 x3 x4 x5 x6 false))
def zaA.j1 : Nat → ByteArray → Int → Int → Int → Int → Bool → Option (Bool)
 | 0, _, _, _, _, _, _ => none
 | k + 1, x0, x3, x4, x5, x6, x19 => if x19 = true then (zaA.j2 k x0 x3 x4 2) else (if x6 ≥ 240 then (if x6 ≤ 244 then (zaA.j2 k x0 x3 x4 3) else (zaA.j2 k x0 x3 x4 x5)) else (zaA.j2 k x0 x3 x4 x5))
end
def zaA.f (k : Nat) (a0 : ByteArray) : Option (Bool) := if a0.toList = ([] : List UInt8) then (some false) else (if 0 < (a0.size : Int) then (if (bt a0 0) ≥ 194 then (zaA.j0 k a0 128 191 0 (bt a0 0) (decide ((bt a0 0) ≤ 223))) else (zaA.j0 k a0 128 191 0 (bt a0 0) false)) else (none))
set_option maxHeartbeats 8000000 in
set_option maxRecDepth 100000 in
theorem zaA.calls (k : Nat) (a0 : ByteArray) (r : Bool) (w : World) (h : zaA.f k a0 = some r) :
  Calls Tryd.prog 55 #[.string a0] w fun e w' => e = .returned (.bool r) ∧ zaK w w' := by
 have H : (if a0.toList = ([] : List UInt8) then (some false) else (if 0 < (a0.size : Int) then (if (bt a0 0) ≥ 194 then (zaA.j0 k a0 128 191 0 (bt a0 0) (decide ((bt a0 0) ≤ 223))) else (zaA.j0 k a0 128 191 0 (bt a0 0) false)) else (none))) = some r := h
 clear h
 by_cases c2 : a0.toList = ([] : List UInt8)
 ·rw [if_pos c2] at H
  have c2b0 : (a0.toList == ([] : List UInt8)) = true := beq_iff_eq.mpr c2
  have c2b1 : (a0.toList != ([] : List UInt8)) = false := bne_eq_false_iff_eq.mpr c2
  clear c2; obtain rfl := Option.some.inj H
  go_enter Tryd.func55, Tryd.ntmps55
  go_wp2
  go_ret
  exact ⟨by first | rfl | (simp; done) | (simp [*]; done), by repeat (first | exact zaK.refl _ | apply zaK.step)⟩
 rw [if_neg c2] at H
 have c2b0 : (a0.toList == ([] : List UInt8)) = false := beq_eq_false_iff_ne.mpr c2
 have c2b1 : (a0.toList != ([] : List UInt8)) = true := bne_iff_ne.mpr c2
 by_cases c3 : 0 < (a0.size : Int)
 ·rw [if_pos c3] at H
  have c3b0 : decide (0 < (a0.size : Int)) = true := decide_eq_true c3
  have c3b1 : decide (0 < a0.size) = true := decide_eq_true (by omega)
  clear c3; have HC5 := zab.mk H; clear H
  have p4 : 0 ≤ (0 : Int) := (by omega)
  have q4 : 0 < a0.size := (by have : (0 : Int) < (a0.size : Int) := of_decide_eq_true (by first | (with_reducible assumption) | assumption); omega)
  have hx4 : ∀ h : 0 < a0.size, ((a0[0]'h).toNat : Int) = bt a0 0 := bt_at a0 0
  clear p4
  have qi4 : (0 < (a0.size : Int)) = True := eq_true (of_decide_eq_true (by first | (with_reducible assumption) | assumption))
  replace q4 := eq_true q4
  go_enter Tryd.func55, Tryd.ntmps55
  go_upto_block 0 with (fail)
  go_cut [5] (fun v5 wc => ∃ (kq : Nat) (x5_4 : Int), v5 = .int .i64 x5_4 ∧ zab (zaA.j2 kq a0 128 191 x5_4 = some r) ∧ zab (kq ≤ k) ∧ zaK w wc)
  case first =>
   have H := HC5.out; clear HC5; have HC6 := zab.mk H; clear H
   go_upto_region 7 with (fail)
   go_cut [12] (fun v12 wc => ∃ (kq : Nat) (x12_5 : Bool), v12 = .bool x12_5 ∧ zab (zaA.j0 kq a0 128 191 0 (bt a0 0) x12_5 = some r) ∧ zab (kq ≤ k) ∧ zaK w wc)
   case first =>
    have H := HC6.out; clear HC6
    by_cases c7 : (bt a0 0) ≥ 194
    ·rw [if_pos c7] at H
     have c7b0 : decide (194 ≤ (bt a0 0)) = true := decide_eq_true c7
     clear c7
     (first | rw [c7b0] | rw [c7b1] | (simp only [zaR, zaS]; rw [c7b0]) | skip)
     have H' := zab.mk H; clear H
     go_wp2
     go_meet
     case rel => exact ⟨_, (decide ((bt a0 0) ≤ 223)), rfl, H', ⟨by first | omega | exact Nat.le_refl _⟩, by repeat (first | exact zaK.refl _ | apply zaK.step)⟩
    rw [if_neg c7] at H
    have c7b0 : decide (194 ≤ (bt a0 0)) = false := decide_eq_false c7
    clear c7
    (first | rw [c7b0] | rw [c7b1] | (simp only [zaR, zaS]; rw [c7b0]) | skip)
    have H' := zab.mk H; clear H
    go_wp2
    go_meet
    case rel => exact ⟨_, (false), rfl, H', ⟨by first | omega | exact Nat.le_refl _⟩, by repeat (first | exact zaK.refl _ | apply zaK.step)⟩
   case rest =>
    clear HC6
    try clear c2
    try clear c2b0
    try clear c2b1
    try clear c3b0
    try clear c3b1
    try clear q4
    try clear hx4
    try clear qi4
    try clear q4
    obtain ⟨kq, x12_5, rfl, HA, HJ5, ⟨mc5, rfl⟩⟩ := hcut
    cases kq with
    | zero => exact absurd HA.out (by simp [zaA.j0])
    | succ kj5 =>
     have H := HA.out; clear HA
     simp only [zaA.j0] at H
     by_cases c8 : x12_5 = true
     ·subst c8
      replace H : (zaA.j2 kj5 a0 128 191 1) = some r := by rw [if_pos rfl] at H; exact H
      have H' := zab.mk H; clear H
      go_wp2
      go_meet
      case rel => exact ⟨_, (1), rfl, H', ⟨by have := HJ5.out; first | omega | exact Nat.le_refl _⟩, by repeat (first | exact zaK.refl _ | apply zaK.step)⟩
     replace c8 := Bool.eq_false_iff.mpr c8
     subst c8
     replace H : (if (bt a0 0) ≥ 224 then (zaA.j1 kj5 a0 128 191 0 (bt a0 0) (decide ((bt a0 0) ≤ 239))) else (zaA.j1 kj5 a0 128 191 0 (bt a0 0) false)) = some r := by rw [if_neg (show ¬ (false = true) by decide)] at H; exact H
     have HC9 := zab.mk H; clear H
     go_upto_region 9 with (fail)
     go_cut [19] (fun v19 wc => ∃ (kq : Nat) (x19_8 : Bool), v19 = .bool x19_8 ∧ zab (zaA.j1 kq a0 128 191 0 (bt a0 0) x19_8 = some r) ∧ zab (kq ≤ kj5) ∧ zaK w wc)
     case first =>
      have H := HC9.out; clear HC9
      by_cases c10 : (bt a0 0) ≥ 224
      ·rw [if_pos c10] at H
       have c10b0 : decide (224 ≤ (bt a0 0)) = true := decide_eq_true c10
       clear c10
       (first | rw [c10b0] | rw [c10b1] | (simp only [zaR, zaS]; rw [c10b0]) | skip)
       have H' := zab.mk H; clear H
       go_wp2
       go_meet
       case rel => exact ⟨_, (decide ((bt a0 0) ≤ 239)), rfl, H', ⟨by have := HJ5.out; first | omega | exact Nat.le_refl _⟩, by repeat (first | exact zaK.refl _ | apply zaK.step)⟩
      rw [if_neg c10] at H
      have c10b0 : decide (224 ≤ (bt a0 0)) = false := decide_eq_false c10
      clear c10
      (first | rw [c10b0] | rw [c10b1] | (simp only [zaR, zaS]; rw [c10b0]) | skip)
      have H' := zab.mk H; clear H
      go_wp2
      go_meet
      case rel => exact ⟨_, (false), rfl, H', ⟨by have := HJ5.out; first | omega | exact Nat.le_refl _⟩, by repeat (first | exact zaK.refl _ | apply zaK.step)⟩
     case rest =>
      clear HC9
      try clear c2
      try clear c2b0
      try clear c2b1
      try clear c3b0
      try clear c3b1
      try clear q4
      try clear hx4
      try clear qi4
      try clear c8
      try clear q4
      obtain ⟨kq, x19_8, rfl, HA, HJ8, ⟨mc8, rfl⟩⟩ := hcut
      cases kq with
      | zero => exact absurd HA.out (by simp [zaA.j1])
      | succ kj8 =>
       have H := HA.out; clear HA
       simp only [zaA.j1] at H
       by_cases c11 : x19_8 = true
       ·subst c11
        replace H : (zaA.j2 kj8 a0 128 191 2) = some r := by rw [if_pos rfl] at H; exact H
        have H' := zab.mk H; clear H
        go_wp2
        go_meet
        case rel => exact ⟨_, (2), rfl, H', ⟨by have := HJ5.out; have := HJ8.out; first | omega | exact Nat.le_refl _⟩, by repeat (first | exact zaK.refl _ | apply zaK.step)⟩
       replace c11 := Bool.eq_false_iff.mpr c11
       subst c11
       replace H : (if (bt a0 0) ≥ 240 then (if (bt a0 0) ≤ 244 then (zaA.j2 kj8 a0 128 191 3) else (zaA.j2 kj8 a0 128 191 0)) else (zaA.j2 kj8 a0 128 191 0)) = some r := by rw [if_neg (show ¬ (false = true) by decide)] at H; exact H
       by_cases c12 : (bt a0 0) ≥ 240
       ·rw [if_pos c12] at H
        have c12b0 : decide (240 ≤ (bt a0 0)) = true := decide_eq_true c12
        clear c12
        by_cases c13 : (bt a0 0) ≤ 244
        ·rw [if_pos c13] at H
         have c13b0 : decide ((bt a0 0) ≤ 244) = true := decide_eq_true c13
         clear c13; have H' := zab.mk H; clear H
         go_wp2
         go_meet
         case rel => exact ⟨_, (3), rfl, H', ⟨by have := HJ5.out; have := HJ8.out; first | omega | exact Nat.le_refl _⟩, by repeat (first | exact zaK.refl _ | apply zaK.step)⟩
        rw [if_neg c13] at H
        have c13b0 : decide ((bt a0 0) ≤ 244) = false := decide_eq_false c13
        clear c13; have H' := zab.mk H; clear H
        go_wp2
        go_meet
        case rel => exact ⟨_, (0), rfl, H', ⟨by have := HJ5.out; have := HJ8.out; first | omega | exact Nat.le_refl _⟩, by repeat (first | exact zaK.refl _ | apply zaK.step)⟩
       rw [if_neg c12] at H
       have c12b0 : decide (240 ≤ (bt a0 0)) = false := decide_eq_false c12
       clear c12; have H' := zab.mk H; clear H
       go_wp2
       go_meet
       case rel => exact ⟨_, (0), rfl, H', ⟨by have := HJ5.out; have := HJ8.out; first | omega | exact Nat.le_refl _⟩, by repeat (first | exact zaK.refl _ | apply zaK.step)⟩
  case rest =>
   clear HC5
   try clear c2
   try clear c2b0
   try clear c2b1
   try clear c3b0
   try clear c3b1
   try clear q4
   try clear hx4
   try clear qi4
   try clear q4
   obtain ⟨kq, x5_4, rfl, HA, HJ4, ⟨mc4, rfl⟩⟩ := hcut
   cases kq with
   | zero => exact absurd HA.out (by simp [zaA.j2])
   | succ kj4 =>
    have H := HA.out; clear HA
    simp only [zaA.j2] at H
    by_cases c14 : 0 < (a0.size : Int)
    ·rw [if_pos c14] at H
     have c14b0 : decide (0 < (a0.size : Int)) = true := decide_eq_true c14
     have c14b1 : decide (0 < a0.size) = true := decide_eq_true (by omega)
     clear c14; have HC16 := zab.mk H; clear H
     have p15 : 0 ≤ (0 : Int) := (by omega)
     have q15 : 0 < a0.size := (by have : (0 : Int) < (a0.size : Int) := of_decide_eq_true (by first | (with_reducible assumption) | assumption); omega)
     have hx15 : ∀ h : 0 < a0.size, ((a0[0]'h).toNat : Int) = bt a0 0 := bt_at a0 0
     clear p15
     have qi15 : (0 < (a0.size : Int)) = True := eq_true (of_decide_eq_true (by first | (with_reducible assumption) | assumption))
     replace q15 := eq_true q15
     go_upto_block 1 with (fail)
     go_cut [3, 4] (fun v3 v4 wc => ∃ (kq : Nat) (x3_15 : Int) (x4_15 : Int), v3 = .int .u8 x3_15 ∧ v4 = .int .u8 x4_15 ∧ zab (zaA.j3 kq a0 x3_15 x4_15 x5_4 = some r) ∧ zab (kq ≤ kj4) ∧ zaK w wc)
     case first =>
      have H := HC16.out; clear HC16
      by_cases c17 : (bt a0 0) = 224
      ·rw [if_pos c17] at H
       have c17b0 : ((bt a0 0) == 224) = true := beq_iff_eq.mpr c17
       have c17b1 : ((bt a0 0) != 224) = false := bne_eq_false_iff_eq.mpr c17
       clear c17
       (first | rw [c17b0] | rw [c17b1] | (simp only [zaR, zaS]; rw [c17b0]) | skip)
       have H' := zab.mk H; clear H
       go_wp2
       go_meet
       case rel => exact ⟨_, (160), (191), rfl, rfl, H', ⟨by have := HJ4.out; first | omega | exact Nat.le_refl _⟩, by repeat (first | exact zaK.refl _ | apply zaK.step)⟩
      rw [if_neg c17] at H
      have c17b0 : ((bt a0 0) == 224) = false := beq_eq_false_iff_ne.mpr c17
      have c17b1 : ((bt a0 0) != 224) = true := bne_iff_ne.mpr c17
      (first | rw [c17b0] | rw [c17b1] | (simp only [zaR, zaS]; rw [c17b0]) | skip)
      by_cases c18 : (bt a0 0) = 237
      ·rw [if_pos c18] at H
       have c18b0 : ((bt a0 0) == 237) = true := beq_iff_eq.mpr c18
       have c18b1 : ((bt a0 0) != 237) = false := bne_eq_false_iff_eq.mpr c18
       clear c18; have H' := zab.mk H; clear H
       go_wp2
       go_meet
       case rel => exact ⟨_, (128), (159), rfl, rfl, H', ⟨by have := HJ4.out; first | omega | exact Nat.le_refl _⟩, by repeat (first | exact zaK.refl _ | apply zaK.step)⟩
      rw [if_neg c18] at H
      have c18b0 : ((bt a0 0) == 237) = false := beq_eq_false_iff_ne.mpr c18
      have c18b1 : ((bt a0 0) != 237) = true := bne_iff_ne.mpr c18
      by_cases c19 : (bt a0 0) = 240
      ·rw [if_pos c19] at H
       have c19b0 : ((bt a0 0) == 240) = true := beq_iff_eq.mpr c19
       have c19b1 : ((bt a0 0) != 240) = false := bne_eq_false_iff_eq.mpr c19
       clear c19; have H' := zab.mk H; clear H
       go_wp2
       go_meet
       case rel => exact ⟨_, (144), (191), rfl, rfl, H', ⟨by have := HJ4.out; first | omega | exact Nat.le_refl _⟩, by repeat (first | exact zaK.refl _ | apply zaK.step)⟩
      rw [if_neg c19] at H
      have c19b0 : ((bt a0 0) == 240) = false := beq_eq_false_iff_ne.mpr c19
      have c19b1 : ((bt a0 0) != 240) = true := bne_iff_ne.mpr c19
      by_cases c20 : (bt a0 0) = 244
      ·rw [if_pos c20] at H
       have c20b0 : ((bt a0 0) == 244) = true := beq_iff_eq.mpr c20
       have c20b1 : ((bt a0 0) != 244) = false := bne_eq_false_iff_eq.mpr c20
       clear c20; have H' := zab.mk H; clear H
       go_wp2
       go_meet
       case rel => exact ⟨_, (128), (143), rfl, rfl, H', ⟨by have := HJ4.out; first | omega | exact Nat.le_refl _⟩, by repeat (first | exact zaK.refl _ | apply zaK.step)⟩
      rw [if_neg c20] at H
      have c20b0 : ((bt a0 0) == 244) = false := beq_eq_false_iff_ne.mpr c20
      have c20b1 : ((bt a0 0) != 244) = true := bne_iff_ne.mpr c20
      have H' := zab.mk H; clear H
      go_wp2
      go_meet
      case rel => exact ⟨_, (128), (191), rfl, rfl, H', ⟨by have := HJ4.out; first | omega | exact Nat.le_refl _⟩, by repeat (first | exact zaK.refl _ | apply zaK.step)⟩
     case rest =>
      clear HC16
      try clear c2
      try clear c2b0
      try clear c2b1
      try clear c3b0
      try clear c3b1
      try clear q4
      try clear hx4
      try clear qi4
      try clear c14b0
      try clear c14b1
      try clear q15
      try clear hx15
      try clear qi15
      try clear q15
      try clear q4
      obtain ⟨kq, x3_15, x4_15, rfl, rfl, HA, HJ15, ⟨mc15, rfl⟩⟩ := hcut
      cases kq with
      | zero => exact absurd HA.out (by simp [zaA.j3])
      | succ kj15 =>
       have H := HA.out; clear HA
       simp only [zaA.j3] at H
       by_cases c21 : (a0.size : Int) > x5_4
       ·rw [if_pos c21] at H
        have c21b0 : decide (x5_4 < (a0.size : Int)) = true := decide_eq_true c21
        clear c21; obtain rfl := Option.some.inj H
        go_wp2
        go_ret
        exact ⟨by first | rfl | (simp; done) | (simp [*]; done), by repeat (first | exact zaK.refl _ | apply zaK.step)⟩
       rw [if_neg c21] at H
       have c21b0 : decide (x5_4 < (a0.size : Int)) = false := decide_eq_false c21
       clear c21; have H' := zab.mk H; clear H
       go_wp2
       go_loopg [7] kj15 (fun kq v7 w' => ∃ (x7_3 : Int), v7 = .int .i64 x7_3 ∧ zab (zaA.l0 kq a0 x3_15 x4_15 x7_3 = some r) ∧ zab (kq ≤ kj15) ∧ zaK w w')
       case atStart => exact ⟨(1), rfl, H', ⟨Nat.le_refl _⟩, by repeat (first | exact zaK.refl _ | apply zaK.step)⟩
       case round =>
        clear H'
        try clear c2
        try clear c2b0
        try clear c2b1
        try clear c3b0
        try clear c3b1
        try clear q4
        try clear hx4
        try clear qi4
        try clear c14b0
        try clear c14b1
        try clear q15
        try clear hx15
        try clear qi15
        try clear c21b0
        try clear q15
        try clear q4
        obtain ⟨x7_3, rfl, HA, HK3, ⟨m3, rfl⟩⟩ := hrel
        cases gk with
        | zero => exact absurd HA.out (by simp [zaA.l0])
        | succ k3 =>
         have H := HA.out; clear HA
         simp only [zaA.l0] at H
         by_cases c22 : x7_3 < (a0.size : Int)
         ·rw [if_pos c22] at H
          have c22b0 : decide (x7_3 < (a0.size : Int)) = true := decide_eq_true c22
          clear c22
          by_cases c23 : x7_3 = 1
          ·rw [if_pos c23] at H
           have c23b0 : (x7_3 == 1) = true := beq_iff_eq.mpr c23
           have c23b1 : (x7_3 != 1) = false := bne_eq_false_iff_eq.mpr c23
           clear c23
           by_cases c24 : 0 ≤ x7_3
           ·rw [if_pos c24] at H
            have c24b0 : decide (0 ≤ x7_3) = true := decide_eq_true c24
            clear c24
            by_cases c26 : (bt a0 x7_3) < x3_15
            ·rw [if_pos c26] at H
             have c26b0 : decide ((bt a0 x7_3) < x3_15) = true := decide_eq_true c26
             clear c26; obtain rfl := Option.some.inj H
             have p25 : 0 ≤ (x7_3 : Int) := of_decide_eq_true (by first | (with_reducible assumption) | assumption)
             have q25 : x7_3 < (a0.size : Int) := of_decide_eq_true (by first | (with_reducible assumption) | assumption)
             have hx25 := bt_at a0 x7_3
             replace p25 := eq_true p25
             replace q25 := eq_true q25
             go_wp2
             go_ret
             exact ⟨by first | rfl | (simp; done) | (simp [*]; done), by repeat (first | exact zaK.refl _ | apply zaK.step)⟩
            rw [if_neg c26] at H
            have c26b0 : decide ((bt a0 x7_3) < x3_15) = false := decide_eq_false c26
            clear c26
            by_cases c28 : (bt a0 x7_3) > x4_15
            ·rw [if_pos c28] at H
             have c28b0 : decide (x4_15 < (bt a0 x7_3)) = true := decide_eq_true c28
             clear c28; obtain rfl := Option.some.inj H
             have p25 : 0 ≤ (x7_3 : Int) := of_decide_eq_true (by first | (with_reducible assumption) | assumption)
             have q25 : x7_3 < (a0.size : Int) := of_decide_eq_true (by first | (with_reducible assumption) | assumption)
             have hx25 := bt_at a0 x7_3
             replace p25 := eq_true p25
             replace q25 := eq_true q25
             have p27 : 0 ≤ (x7_3 : Int) := of_decide_eq_true (by first | (with_reducible assumption) | assumption)
             have q27 : x7_3 < (a0.size : Int) := of_decide_eq_true (by first | (with_reducible assumption) | assumption)
             have hx27 := bt_at a0 x7_3
             replace p27 := eq_true p27
             replace q27 := eq_true q27
             go_wp2
             go_ret
             exact ⟨by first | rfl | (simp; done) | (simp [*]; done), by repeat (first | exact zaK.refl _ | apply zaK.step)⟩
            rw [if_neg c28] at H
            have c28b0 : decide (x4_15 < (bt a0 x7_3)) = false := decide_eq_false c28
            clear c28
            by_cases c30 : (bt a0 x7_3) < 128
            ·rw [if_pos c30] at H
             have c30b0 : decide ((bt a0 x7_3) < 128) = true := decide_eq_true c30
             clear c30; obtain rfl := Option.some.inj H
             have p25 : 0 ≤ (x7_3 : Int) := of_decide_eq_true (by first | (with_reducible assumption) | assumption)
             have q25 : x7_3 < (a0.size : Int) := of_decide_eq_true (by first | (with_reducible assumption) | assumption)
             have hx25 := bt_at a0 x7_3
             replace p25 := eq_true p25
             replace q25 := eq_true q25
             have p27 : 0 ≤ (x7_3 : Int) := of_decide_eq_true (by first | (with_reducible assumption) | assumption)
             have q27 : x7_3 < (a0.size : Int) := of_decide_eq_true (by first | (with_reducible assumption) | assumption)
             have hx27 := bt_at a0 x7_3
             replace p27 := eq_true p27
             replace q27 := eq_true q27
             have p29 : 0 ≤ (x7_3 : Int) := of_decide_eq_true (by first | (with_reducible assumption) | assumption)
             have q29 : x7_3 < (a0.size : Int) := of_decide_eq_true (by first | (with_reducible assumption) | assumption)
             have hx29 := bt_at a0 x7_3
             replace p29 := eq_true p29
             replace q29 := eq_true q29
             go_wp2
             go_ret
             exact ⟨by first | rfl | (simp; done) | (simp [*]; done), by repeat (first | exact zaK.refl _ | apply zaK.step)⟩
            rw [if_neg c30] at H
            have c30b0 : decide ((bt a0 x7_3) < 128) = false := decide_eq_false c30
            clear c30
            by_cases c32 : (bt a0 x7_3) > 191
            ·rw [if_pos c32] at H
             have c32b0 : decide (191 < (bt a0 x7_3)) = true := decide_eq_true c32
             clear c32; obtain rfl := Option.some.inj H
             have p25 : 0 ≤ (x7_3 : Int) := of_decide_eq_true (by first | (with_reducible assumption) | assumption)
             have q25 : x7_3 < (a0.size : Int) := of_decide_eq_true (by first | (with_reducible assumption) | assumption)
             have hx25 := bt_at a0 x7_3
             replace p25 := eq_true p25
             replace q25 := eq_true q25
             have p27 : 0 ≤ (x7_3 : Int) := of_decide_eq_true (by first | (with_reducible assumption) | assumption)
             have q27 : x7_3 < (a0.size : Int) := of_decide_eq_true (by first | (with_reducible assumption) | assumption)
             have hx27 := bt_at a0 x7_3
             replace p27 := eq_true p27
             replace q27 := eq_true q27
             have p29 : 0 ≤ (x7_3 : Int) := of_decide_eq_true (by first | (with_reducible assumption) | assumption)
             have q29 : x7_3 < (a0.size : Int) := of_decide_eq_true (by first | (with_reducible assumption) | assumption)
             have hx29 := bt_at a0 x7_3
             replace p29 := eq_true p29
             replace q29 := eq_true q29
             have p31 : 0 ≤ (x7_3 : Int) := of_decide_eq_true (by first | (with_reducible assumption) | assumption)
             have q31 : x7_3 < (a0.size : Int) := of_decide_eq_true (by first | (with_reducible assumption) | assumption)
             have hx31 := bt_at a0 x7_3
             replace p31 := eq_true p31
             replace q31 := eq_true q31
             go_wp2
             go_ret
             exact ⟨by first | rfl | (simp; done) | (simp [*]; done), by repeat (first | exact zaK.refl _ | apply zaK.step)⟩
            rw [if_neg c32] at H
            have c32b0 : decide (191 < (bt a0 x7_3)) = false := decide_eq_false c32
            clear c32; have H' := zab.mk H; clear H
            have p25 : 0 ≤ (x7_3 : Int) := of_decide_eq_true (by first | (with_reducible assumption) | assumption)
            have q25 : x7_3 < (a0.size : Int) := of_decide_eq_true (by first | (with_reducible assumption) | assumption)
            have hx25 := bt_at a0 x7_3
            replace p25 := eq_true p25
            replace q25 := eq_true q25
            have p27 : 0 ≤ (x7_3 : Int) := of_decide_eq_true (by first | (with_reducible assumption) | assumption)
            have q27 : x7_3 < (a0.size : Int) := of_decide_eq_true (by first | (with_reducible assumption) | assumption)
            have hx27 := bt_at a0 x7_3
            replace p27 := eq_true p27
            replace q27 := eq_true q27
            have p29 : 0 ≤ (x7_3 : Int) := of_decide_eq_true (by first | (with_reducible assumption) | assumption)
            have q29 : x7_3 < (a0.size : Int) := of_decide_eq_true (by first | (with_reducible assumption) | assumption)
            have hx29 := bt_at a0 x7_3
            replace p29 := eq_true p29
            replace q29 := eq_true q29
            have p31 : 0 ≤ (x7_3 : Int) := of_decide_eq_true (by first | (with_reducible assumption) | assumption)
            have q31 : x7_3 < (a0.size : Int) := of_decide_eq_true (by first | (with_reducible assumption) | assumption)
            have hx31 := bt_at a0 x7_3
            replace p31 := eq_true p31
            replace q31 := eq_true q31
            go_wp2
            go_roundg k3
            case measure => have := HJ4.out; have := HJ15.out; have := HK3.out; omega
            case rel => exact ⟨(wrap64 (x7_3 + 1)), rfl, H', ⟨by have := HJ4.out; have := HJ15.out; have := HK3.out; omega⟩, by repeat (first | exact zaK.refl _ | apply zaK.step)⟩
           rw [if_neg c24] at H
           exact absurd H (by simp)
          rw [if_neg c23] at H
          have c23b0 : (x7_3 == 1) = false := beq_eq_false_iff_ne.mpr c23
          have c23b1 : (x7_3 != 1) = true := bne_iff_ne.mpr c23
          by_cases c33 : 0 ≤ x7_3
          ·rw [if_pos c33] at H
           have c33b0 : decide (0 ≤ x7_3) = true := decide_eq_true c33
           clear c33
           by_cases c35 : (bt a0 x7_3) < 128
           ·rw [if_pos c35] at H
            have c35b0 : decide ((bt a0 x7_3) < 128) = true := decide_eq_true c35
            clear c35; obtain rfl := Option.some.inj H
            have p34 : 0 ≤ (x7_3 : Int) := of_decide_eq_true (by first | (with_reducible assumption) | assumption)
            have q34 : x7_3 < (a0.size : Int) := of_decide_eq_true (by first | (with_reducible assumption) | assumption)
            have hx34 := bt_at a0 x7_3
            replace p34 := eq_true p34
            replace q34 := eq_true q34
            go_wp2
            go_ret
            exact ⟨by first | rfl | (simp; done) | (simp [*]; done), by repeat (first | exact zaK.refl _ | apply zaK.step)⟩
           rw [if_neg c35] at H
           have c35b0 : decide ((bt a0 x7_3) < 128) = false := decide_eq_false c35
           clear c35
           by_cases c37 : (bt a0 x7_3) > 191
           ·rw [if_pos c37] at H
            have c37b0 : decide (191 < (bt a0 x7_3)) = true := decide_eq_true c37
            clear c37; obtain rfl := Option.some.inj H
            have p34 : 0 ≤ (x7_3 : Int) := of_decide_eq_true (by first | (with_reducible assumption) | assumption)
            have q34 : x7_3 < (a0.size : Int) := of_decide_eq_true (by first | (with_reducible assumption) | assumption)
            have hx34 := bt_at a0 x7_3
            replace p34 := eq_true p34
            replace q34 := eq_true q34
            have p36 : 0 ≤ (x7_3 : Int) := of_decide_eq_true (by first | (with_reducible assumption) | assumption)
            have q36 : x7_3 < (a0.size : Int) := of_decide_eq_true (by first | (with_reducible assumption) | assumption)
            have hx36 := bt_at a0 x7_3
            replace p36 := eq_true p36
            replace q36 := eq_true q36
            go_wp2
            go_ret
            exact ⟨by first | rfl | (simp; done) | (simp [*]; done), by repeat (first | exact zaK.refl _ | apply zaK.step)⟩
           rw [if_neg c37] at H
           have c37b0 : decide (191 < (bt a0 x7_3)) = false := decide_eq_false c37
           clear c37; have H' := zab.mk H; clear H
           have p34 : 0 ≤ (x7_3 : Int) := of_decide_eq_true (by first | (with_reducible assumption) | assumption)
           have q34 : x7_3 < (a0.size : Int) := of_decide_eq_true (by first | (with_reducible assumption) | assumption)
           have hx34 := bt_at a0 x7_3
           replace p34 := eq_true p34
           replace q34 := eq_true q34
           have p36 : 0 ≤ (x7_3 : Int) := of_decide_eq_true (by first | (with_reducible assumption) | assumption)
           have q36 : x7_3 < (a0.size : Int) := of_decide_eq_true (by first | (with_reducible assumption) | assumption)
           have hx36 := bt_at a0 x7_3
           replace p36 := eq_true p36
           replace q36 := eq_true q36
           go_wp2
           go_roundg k3
           case measure => have := HJ4.out; have := HJ15.out; have := HK3.out; omega
           case rel => exact ⟨(wrap64 (x7_3 + 1)), rfl, H', ⟨by have := HJ4.out; have := HJ15.out; have := HK3.out; omega⟩, by repeat (first | exact zaK.refl _ | apply zaK.step)⟩
          rw [if_neg c33] at H
          exact absurd H (by simp)
         rw [if_neg c22] at H
         have c22b0 : decide (x7_3 < (a0.size : Int)) = false := decide_eq_false c22
         clear c22; obtain rfl := Option.some.inj H
         go_wp2
         go_ret
         exact ⟨by first | rfl | (simp; done) | (simp [*]; done), by repeat (first | exact zaK.refl _ | apply zaK.step)⟩
    rw [if_neg c14] at H
    exact absurd H (by simp)
 rw [if_neg c3] at H
 exact absurd H (by simp)
end Go.Proofs.YtfafjbolmeimmaaDoor.P
