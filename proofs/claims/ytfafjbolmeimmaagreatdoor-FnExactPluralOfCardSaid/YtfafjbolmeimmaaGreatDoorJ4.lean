/- Written by a program of this session: plain Lean functions for Go functions, and for each the proof that the call comes to what the function says. -/
import Derived.Test.YtfafjbolmeimmaaGreatDoorAb
import Derived.Test.YtfafjbolmeimmaaGreatDoorF4
import Derived.Test.YtfafjbolmeimmaaGreatDoorXZl
namespace Go.Proofs.YtfafjbolmeimmaaGreatDoor.P
open Go.RowKit Go.Proofs.YtfafjbolmeimmaaGreatDoorW.PrintWords Go.Proofs.YtfafjbolmeimmaaGreatDoorW.PrintLast Go.Proofs.YtfafjbolmeimmaaGreatDoorW.PrintMore
attribute [local go_sem] zbn zbp max_two min_two zba zbb zbo zbm
set_option linter.unusedVariables false
set_option linter.unusedSimpArgs false
mutual
def zaB.j0 : Nat → ByteArray → Bool → Option (Bool)
 | 0, _, _ => none
 | k + 1, x0, x22 => if x22 = true then (some false) else (zaB.l0 k x0 1)
def zaB.l0 : Nat → ByteArray → Int → Option (Bool)
 | 0, _, _ => none
 | k + 1, x0, x3 => if x3 < (x0.size : Int) then (if 0 ≤ x3 then (if (bt x0 x3) < 97 then (if (bt x0 x3) < 48 then (if (bt x0 x3) = 45 then (zaB.l0 k x0 (wrap64 (x3 + 1))) else (some false)) else (if (bt x0 x3) > 57 then (if (bt x0 x3) = 45 then (zaB.l0 k x0 (wrap64 (x3 + 1))) else (some false)) else (zaB.l0 k x0 (wrap64 (x3 + 1))))) else (if (bt x0 x3) > 122 then (if (bt x0 x3) < 48 then (if (bt x0 x3) = 45 then (zaB.l0 k x0 (wrap64 (x3 + 1))) else (some false)) else (if (bt x0 x3) > 57 then (if (bt x0 x3) = 45 then (zaB.l0 k x0 (wrap64 (x3 + 1))) else (some false)) else (zaB.l0 k x0 (wrap64 (x3 + 1))))) else (zaB.l0 k x0 (wrap64 (x3 + 1))))) else (none)) else (some true)
end
def zaB.f (k : Nat) (a0 : ByteArray) : Option (Bool) := if (a0.size : Int) < 1 then (zaB.j0 k a0 true) else (if (a0.size : Int) > 20 then (zaB.j0 k a0 true) else (if 0 < (a0.size : Int) then (if (bt a0 0) < 97 then (zaB.j0 k a0 true) else (zaB.j0 k a0 (decide ((bt a0 0) > 122)))) else (none)))
set_option maxHeartbeats 8000000 in
set_option maxRecDepth 100000 in
theorem zaB.calls (k : Nat) (a0 : ByteArray) (r : Bool) (w : World) (h : zaB.f k a0 = some r) :
  Calls Tryz.prog 32 #[.string a0] w fun e w' => e = .returned (.bool r) ∧ zas w w' := by
 have H : (if (a0.size : Int) < 1 then (zaB.j0 k a0 true) else (if (a0.size : Int) > 20 then (zaB.j0 k a0 true) else (if 0 < (a0.size : Int) then (if (bt a0 0) < 97 then (zaB.j0 k a0 true) else (zaB.j0 k a0 (decide ((bt a0 0) > 122)))) else (none)))) = some r := h
 clear h; have HC2 := zaa.mk H; clear H
 go_enter Tryz.func32, Tryz.ntmps32
 go_upto_region 1 with (fail)
 go_cut [22] (fun v22 wc => ∃ (kq : Nat) (x22_1 : Bool), v22 = .bool x22_1 ∧ zaa (zaB.j0 kq a0 x22_1 = some r) ∧ zaa (kq ≤ k) ∧ zas w wc)
 case first =>
  have H := HC2.out; clear HC2
  by_cases c3 : (a0.size : Int) < 1
  ·rw [if_pos c3] at H
   have c3b0 : decide ((a0.size : Int) < 1) = true := decide_eq_true c3
   have c3b1 : decide (a0.size < 1) = true := decide_eq_true yq10
   clear c3
   (first | rw [c3b0] | rw [c3b1] | (simp only [zaL, zaQ]; rw [c3b0]) | skip)
   have H' := zaa.mk H; clear H
   go_wp2
   go_meet
   case rel => exact ⟨_, (true), yq2, H', ⟨yq36⟩, yq8⟩
  rw [if_neg c3] at H
  have c3b0 : decide ((a0.size : Int) < 1) = false := decide_eq_false c3
  have c3b1 : decide (a0.size < 1) = false := decide_eq_false yq10
  clear c3
  (first | rw [c3b0] | rw [c3b1] | (simp only [zaL, zaQ]; rw [c3b0]) | skip)
  by_cases c4 : (a0.size : Int) > 20
  ·rw [if_pos c4] at H
   have c4b0 : decide (20 < (a0.size : Int)) = true := decide_eq_true c4
   have c4b1 : decide (20 < a0.size) = true := decide_eq_true yq10
   clear c4; have H' := zaa.mk H; clear H
   go_wp2
   go_meet
   case rel => exact ⟨_, (true), yq2, H', ⟨yq36⟩, yq8⟩
  rw [if_neg c4] at H
  have c4b0 : decide (20 < (a0.size : Int)) = false := decide_eq_false c4
  have c4b1 : decide (20 < a0.size) = false := decide_eq_false yq10
  clear c4
  by_cases c5 : 0 < (a0.size : Int)
  ·rw [if_pos c5] at H
   have c5b0 : decide (0 < (a0.size : Int)) = true := decide_eq_true c5
   have c5b1 : decide (0 < a0.size) = true := decide_eq_true yq10
   clear c5
   by_cases c7 : (bt a0 0) < 97
   ·rw [if_pos c7] at H
    have c7b0 : decide ((bt a0 0) < 97) = true := decide_eq_true c7
    clear c7; have H' := zaa.mk H; clear H
    have p6 : 0 ≤ (0 : Int) := yq10
    have q6 : 0 < a0.size := (by have : (0 : Int) < (a0.size : Int) := of_decide_eq_true yq1; omega)
    have hx6 : ∀ h : 0 < a0.size, ((a0[0]'h).toNat : Int) = bt a0 0 := bt_at a0 0
    clear p6
    have qi6 : (0 < (a0.size : Int)) = True := eq_true (of_decide_eq_true yq1)
    replace q6 := eq_true q6
    go_wp2
    go_meet
    case rel => exact ⟨_, (true), yq2, H', ⟨yq36⟩, yq8⟩
   rw [if_neg c7] at H
   have c7b0 : decide ((bt a0 0) < 97) = false := decide_eq_false c7
   clear c7; have H' := zaa.mk H; clear H
   have p6 : 0 ≤ (0 : Int) := yq10
   have q6 : 0 < a0.size := (by have : (0 : Int) < (a0.size : Int) := of_decide_eq_true yq1; omega)
   have hx6 : ∀ h : 0 < a0.size, ((a0[0]'h).toNat : Int) = bt a0 0 := bt_at a0 0
   clear p6
   have qi6 : (0 < (a0.size : Int)) = True := eq_true (of_decide_eq_true yq1)
   replace q6 := eq_true q6
   have p8 : 0 ≤ (0 : Int) := yq10
   have q8 : 0 < a0.size := (by have : (0 : Int) < (a0.size : Int) := of_decide_eq_true yq1; omega)
   have hx8 : ∀ h : 0 < a0.size, ((a0[0]'h).toNat : Int) = bt a0 0 := bt_at a0 0
   clear p8
   have qi8 : (0 < (a0.size : Int)) = True := eq_true (of_decide_eq_true yq1)
   replace q8 := eq_true q8
   go_wp2
   go_meet
   case rel => exact ⟨_, (decide ((bt a0 0) > 122)), yq2, H', ⟨yq36⟩, yq8⟩
  rw [if_neg c5] at H
  exact absurd H yq27
 case rest =>
  clear HC2
  obtain ⟨kq, x22_1, rfl, HA, HJ1, ⟨mc1, rfl⟩⟩ := hcut
  cases kq with
  | zero => exact absurd HA.out (by simp [zaB.j0])
  | succ kj1 =>
   have H := HA.out; clear HA
   simp only [zaB.j0] at H
   by_cases c9 : x22_1 = true
   ·subst c9
    replace H : (some false) = some r := by rw [if_pos rfl] at H; exact H
    obtain rfl := Option.some.inj H
    go_wp2
    go_ret
    exact ⟨yq2, yq8⟩
   replace c9 := Bool.eq_false_iff.mpr c9
   subst c9
   replace H : (zaB.l0 kj1 a0 1) = some r := by rw [if_neg (show ¬ (false = true) by decide)] at H; exact H
   have H' := zaa.mk H; clear H
   go_wp2
   go_loopg [3] kj1 (fun kq v3 w' => ∃ (x3_2 : Int), v3 = .int .i64 x3_2 ∧ zaa (zaB.l0 kq a0 x3_2 = some r) ∧ zaa (kq ≤ kj1) ∧ zas w w')
   case atStart => exact ⟨(1), yq2, H', ⟨Nat.le_refl _⟩, yq8⟩
   case round =>
    clear H'
    try clear c9
    obtain ⟨x3_2, rfl, HA, HK2, ⟨m2, rfl⟩⟩ := hrel
    cases gk with
    | zero => exact absurd HA.out (by simp [zaB.l0])
    | succ k2 =>
     have H := HA.out; clear HA
     simp only [zaB.l0] at H
     by_cases c10 : x3_2 < (a0.size : Int)
     ·rw [if_pos c10] at H
      have c10b0 : decide (x3_2 < (a0.size : Int)) = true := decide_eq_true c10
      clear c10
      by_cases c11 : 0 ≤ x3_2
      ·rw [if_pos c11] at H
       have c11b0 : decide (0 ≤ x3_2) = true := decide_eq_true c11
       clear c11
       by_cases c13 : (bt a0 x3_2) < 97
       ·rw [if_pos c13] at H
        have c13b0 : decide ((bt a0 x3_2) < 97) = true := decide_eq_true c13
        clear c13
        by_cases c14 : (bt a0 x3_2) < 48
        ·rw [if_pos c14] at H
         have c14b0 : decide ((bt a0 x3_2) < 48) = true := decide_eq_true c14
         clear c14
         by_cases c15 : (bt a0 x3_2) = 45
         ·rw [if_pos c15] at H
          have c15b0 : ((bt a0 x3_2) == 45) = true := beq_iff_eq.mpr c15
          have c15b1 : ((bt a0 x3_2) != 45) = false := bne_eq_false_iff_eq.mpr c15
          clear c15; have H' := zaa.mk H; clear H
          have p12 : 0 ≤ (x3_2 : Int) := of_decide_eq_true yq1
          have q12 : x3_2 < (a0.size : Int) := of_decide_eq_true yq1
          have hx12 := bt_at a0 x3_2
          replace p12 := eq_true p12
          replace q12 := eq_true q12
          go_wp2
          go_roundg k2
          case measure => have := HJ1.out; have := HK2.out; omega
          case rel => exact ⟨(wrap64 (x3_2 + 1)), yq2, H', ⟨yq25 HJ1.out HK2.out⟩, yq8⟩
         rw [if_neg c15] at H
         have c15b0 : ((bt a0 x3_2) == 45) = false := beq_eq_false_iff_ne.mpr c15
         have c15b1 : ((bt a0 x3_2) != 45) = true := bne_iff_ne.mpr c15
         obtain rfl := Option.some.inj H
         have p12 : 0 ≤ (x3_2 : Int) := of_decide_eq_true yq1
         have q12 : x3_2 < (a0.size : Int) := of_decide_eq_true yq1
         have hx12 := bt_at a0 x3_2
         replace p12 := eq_true p12
         replace q12 := eq_true q12
         go_wp2
         go_ret
         exact ⟨yq2, yq8⟩
        rw [if_neg c14] at H
        have c14b0 : decide ((bt a0 x3_2) < 48) = false := decide_eq_false c14
        clear c14
        by_cases c16 : (bt a0 x3_2) > 57
        ·rw [if_pos c16] at H
         have c16b0 : decide (57 < (bt a0 x3_2)) = true := decide_eq_true c16
         clear c16
         by_cases c17 : (bt a0 x3_2) = 45
         ·rw [if_pos c17] at H
          have c17b0 : ((bt a0 x3_2) == 45) = true := beq_iff_eq.mpr c17
          have c17b1 : ((bt a0 x3_2) != 45) = false := bne_eq_false_iff_eq.mpr c17
          clear c17; have H' := zaa.mk H; clear H
          have p12 : 0 ≤ (x3_2 : Int) := of_decide_eq_true yq1
          have q12 : x3_2 < (a0.size : Int) := of_decide_eq_true yq1
          have hx12 := bt_at a0 x3_2
          replace p12 := eq_true p12
          replace q12 := eq_true q12
          go_wp2
          go_roundg k2
          case measure => have := HJ1.out; have := HK2.out; omega
          case rel => exact ⟨(wrap64 (x3_2 + 1)), yq2, H', ⟨yq25 HJ1.out HK2.out⟩, yq8⟩
         rw [if_neg c17] at H
         have c17b0 : ((bt a0 x3_2) == 45) = false := beq_eq_false_iff_ne.mpr c17
         have c17b1 : ((bt a0 x3_2) != 45) = true := bne_iff_ne.mpr c17
         obtain rfl := Option.some.inj H
         have p12 : 0 ≤ (x3_2 : Int) := of_decide_eq_true yq1
         have q12 : x3_2 < (a0.size : Int) := of_decide_eq_true yq1
         have hx12 := bt_at a0 x3_2
         replace p12 := eq_true p12
         replace q12 := eq_true q12
         go_wp2
         go_ret
         exact ⟨yq2, yq8⟩
        rw [if_neg c16] at H
        have c16b0 : decide (57 < (bt a0 x3_2)) = false := decide_eq_false c16
        clear c16; have H' := zaa.mk H; clear H
        have p12 : 0 ≤ (x3_2 : Int) := of_decide_eq_true yq1
        have q12 : x3_2 < (a0.size : Int) := of_decide_eq_true yq1
        have hx12 := bt_at a0 x3_2
        replace p12 := eq_true p12
        replace q12 := eq_true q12
        go_wp2
        go_roundg k2
        case measure => have := HJ1.out; have := HK2.out; omega
        case rel => exact ⟨(wrap64 (x3_2 + 1)), yq2, H', ⟨yq25 HJ1.out HK2.out⟩, yq8⟩
       rw [if_neg c13] at H
       have c13b0 : decide ((bt a0 x3_2) < 97) = false := decide_eq_false c13
       clear c13
       by_cases c18 : (bt a0 x3_2) > 122
       ·rw [if_pos c18] at H
        have c18b0 : decide (122 < (bt a0 x3_2)) = true := decide_eq_true c18
        clear c18
        by_cases c19 : (bt a0 x3_2) < 48
        ·rw [if_pos c19] at H
         have c19b0 : decide ((bt a0 x3_2) < 48) = true := decide_eq_true c19
         clear c19
         by_cases c20 : (bt a0 x3_2) = 45
         ·rw [if_pos c20] at H
          have c20b0 : ((bt a0 x3_2) == 45) = true := beq_iff_eq.mpr c20
          have c20b1 : ((bt a0 x3_2) != 45) = false := bne_eq_false_iff_eq.mpr c20
          clear c20; have H' := zaa.mk H; clear H
          have p12 : 0 ≤ (x3_2 : Int) := of_decide_eq_true yq1
          have q12 : x3_2 < (a0.size : Int) := of_decide_eq_true yq1
          have hx12 := bt_at a0 x3_2
          replace p12 := eq_true p12
          replace q12 := eq_true q12
          go_wp2
          go_roundg k2
          case measure => have := HJ1.out; have := HK2.out; omega
          case rel => exact ⟨(wrap64 (x3_2 + 1)), yq2, H', ⟨yq25 HJ1.out HK2.out⟩, yq8⟩
         rw [if_neg c20] at H
         have c20b0 : ((bt a0 x3_2) == 45) = false := beq_eq_false_iff_ne.mpr c20
         have c20b1 : ((bt a0 x3_2) != 45) = true := bne_iff_ne.mpr c20
         obtain rfl := Option.some.inj H
         have p12 : 0 ≤ (x3_2 : Int) := of_decide_eq_true yq1
         have q12 : x3_2 < (a0.size : Int) := of_decide_eq_true yq1
         have hx12 := bt_at a0 x3_2
         replace p12 := eq_true p12
         replace q12 := eq_true q12
         go_wp2
         go_ret
         exact ⟨yq2, yq8⟩
        rw [if_neg c19] at H
        have c19b0 : decide ((bt a0 x3_2) < 48) = false := decide_eq_false c19
        clear c19
        by_cases c21 : (bt a0 x3_2) > 57
        ·rw [if_pos c21] at H
         have c21b0 : decide (57 < (bt a0 x3_2)) = true := decide_eq_true c21
         clear c21
         by_cases c22 : (bt a0 x3_2) = 45
         ·rw [if_pos c22] at H
          have c22b0 : ((bt a0 x3_2) == 45) = true := beq_iff_eq.mpr c22
          have c22b1 : ((bt a0 x3_2) != 45) = false := bne_eq_false_iff_eq.mpr c22
          clear c22; have H' := zaa.mk H; clear H
          have p12 : 0 ≤ (x3_2 : Int) := of_decide_eq_true yq1
          have q12 : x3_2 < (a0.size : Int) := of_decide_eq_true yq1
          have hx12 := bt_at a0 x3_2
          replace p12 := eq_true p12
          replace q12 := eq_true q12
          go_wp2
          go_roundg k2
          case measure => have := HJ1.out; have := HK2.out; omega
          case rel => exact ⟨(wrap64 (x3_2 + 1)), yq2, H', ⟨yq25 HJ1.out HK2.out⟩, yq8⟩
         rw [if_neg c22] at H
         have c22b0 : ((bt a0 x3_2) == 45) = false := beq_eq_false_iff_ne.mpr c22
         have c22b1 : ((bt a0 x3_2) != 45) = true := bne_iff_ne.mpr c22
         obtain rfl := Option.some.inj H
         have p12 : 0 ≤ (x3_2 : Int) := of_decide_eq_true yq1
         have q12 : x3_2 < (a0.size : Int) := of_decide_eq_true yq1
         have hx12 := bt_at a0 x3_2
         replace p12 := eq_true p12
         replace q12 := eq_true q12
         go_wp2
         go_ret
         exact ⟨yq2, yq8⟩
        rw [if_neg c21] at H
        have c21b0 : decide (57 < (bt a0 x3_2)) = false := decide_eq_false c21
        clear c21; have H' := zaa.mk H; clear H
        have p12 : 0 ≤ (x3_2 : Int) := of_decide_eq_true yq1
        have q12 : x3_2 < (a0.size : Int) := of_decide_eq_true yq1
        have hx12 := bt_at a0 x3_2
        replace p12 := eq_true p12
        replace q12 := eq_true q12
        go_wp2
        go_roundg k2
        case measure => have := HJ1.out; have := HK2.out; omega
        case rel => exact ⟨(wrap64 (x3_2 + 1)), yq2, H', ⟨yq25 HJ1.out HK2.out⟩, yq8⟩
       rw [if_neg c18] at H
       have c18b0 : decide (122 < (bt a0 x3_2)) = false := decide_eq_false c18
       clear c18; have H' := zaa.mk H; clear H
       have p12 : 0 ≤ (x3_2 : Int) := of_decide_eq_true yq1
       have q12 : x3_2 < (a0.size : Int) := of_decide_eq_true yq1
       have hx12 := bt_at a0 x3_2
       replace p12 := eq_true p12
       replace q12 := eq_true q12
       go_wp2
       go_roundg k2
       case measure => have := HJ1.out; have := HK2.out; omega
       case rel => exact ⟨(wrap64 (x3_2 + 1)), yq2, H', ⟨yq25 HJ1.out HK2.out⟩, yq8⟩
      rw [if_neg c11] at H
      exact absurd H yq27
     rw [if_neg c10] at H
     have c10b0 : decide (x3_2 < (a0.size : Int)) = false := decide_eq_false c10
     clear c10; obtain rfl := Option.some.inj H
     go_wp2
     go_ret
     exact ⟨yq2, yq8⟩
end Go.Proofs.YtfafjbolmeimmaaGreatDoor.P
