/- Parts of a proof: words of the print tool that this claim uses, or plain lists. -/
import Derived.Test.YtfafjbolmeimmaaGreatDoorF4
import Derived.Test.YtfafjbolmeimmaaGreatDoorY17
import Derived.Test.YtfafjbolmeimmaaGreatDoorF5
import Derived.Lib.RuneCountTail
namespace Go.Proofs.YtfafjbolmeimmaaGreatDoor.P
open Go.RowKit Go.Proofs.YtfafjbolmeimmaaGreatDoorW.PrintWords Go.Proofs.YtfafjbolmeimmaaGreatDoorW.PrintLast Go.Proofs.YtfafjbolmeimmaaGreatDoorW.PrintMore
attribute [local go_sem] max2_int min2_int max_two min_two zbk zbl max_four min_four
set_option linter.unusedVariables false
set_option linter.unusedSimpArgs false
mutual
def zaF.j0 : Nat → ByteArray → Bool → Option (Bool)
 | 0, _, _ => none
 | k + 1, x0, x22 => if x22 = true then (some false) else (zaF.l0 k x0 1)
def zaF.l0 : Nat → ByteArray → Int → Option (Bool)
 | 0, _, _ => none
 | k + 1, x0, x3 => if x3 < (x0.size : Int) then (if 0 ≤ x3 then (if (bt x0 x3) < 97 then (if (bt x0 x3) < 48 then (if (bt x0 x3) = 45 then (zaF.l0 k x0 (wrap64 (x3 + 1))) else (some false)) else (if (bt x0 x3) > 57 then (if (bt x0 x3) = 45 then (zaF.l0 k x0 (wrap64 (x3 + 1))) else (some false)) else (zaF.l0 k x0 (wrap64 (x3 + 1))))) else (if (bt x0 x3) > 122 then (if (bt x0 x3) < 48 then (if (bt x0 x3) = 45 then (zaF.l0 k x0 (wrap64 (x3 + 1))) else (some false)) else (if (bt x0 x3) > 57 then (if (bt x0 x3) = 45 then (zaF.l0 k x0 (wrap64 (x3 + 1))) else (some false)) else (zaF.l0 k x0 (wrap64 (x3 + 1))))) else (zaF.l0 k x0 (wrap64 (x3 + 1))))) else (none)) else (some true)
end
def zaF.f (k : Nat) (a0 : ByteArray) : Option (Bool) := if (a0.size : Int) < 1 then (zaF.j0 k a0 true) else (if (a0.size : Int) > 20 then (zaF.j0 k a0 true) else (if 0 < (a0.size : Int) then (if (bt a0 0) < 97 then (zaF.j0 k a0 true) else (zaF.j0 k a0 (decide ((bt a0 0) > 122)))) else (none)))
set_option maxHeartbeats 8000000 in
set_option maxRecDepth 100000 in
theorem zaF.calls (k : Nat) (a0 : ByteArray) (r : Bool) (w : World) (h : zaF.f k a0 = some r) :
  Calls Tryz.prog 32 #[.string a0] w fun e w' => e = .returned (.bool r) ∧ zau w w' := by
 have H : (if (a0.size : Int) < 1 then (zaF.j0 k a0 true) else (if (a0.size : Int) > 20 then (zaF.j0 k a0 true) else (if 0 < (a0.size : Int) then (if (bt a0 0) < 97 then (zaF.j0 k a0 true) else (zaF.j0 k a0 (decide ((bt a0 0) > 122)))) else (none)))) = some r := h
 clear h; have HC2 := zab.mk H; clear H
 go_enter Tryz.func32, Tryz.ntmps32
 go_upto_region 1 with (fail)
 go_cut [22] (fun v22 wc => ∃ (kq : Nat) (x22_1 : Bool), v22 = .bool x22_1 ∧ zab (zaF.j0 kq a0 x22_1 = some r) ∧ zab (kq ≤ k) ∧ zau w wc)
 case first =>
  have H := HC2.out; clear HC2
  by_cases c3 : (a0.size : Int) < 1
  ·rw [if_pos c3] at H
   have c3b0 : decide ((a0.size : Int) < 1) = true := decide_eq_true c3
   have c3b1 : decide (a0.size < 1) = true := decide_eq_true (by omega)
   clear c3
   (first | rw [c3b0] | rw [c3b1] | (simp only [zaR, zaS]; rw [c3b0]) | skip)
   have H' := zab.mk H; clear H
   go_wp2
   go_meet
   case rel => exact ⟨_, (true), (by first | rfl | (simp; done) | (simp [*]; done)), H', ⟨by first | omega | exact Nat.le_refl _⟩, by repeat (first | exact zau.refl _ | apply zau.step)⟩
  rw [if_neg c3] at H
  have c3b0 : decide ((a0.size : Int) < 1) = false := decide_eq_false c3
  have c3b1 : decide (a0.size < 1) = false := decide_eq_false (by omega)
  clear c3
  (first | rw [c3b0] | rw [c3b1] | (simp only [zaR, zaS]; rw [c3b0]) | skip)
  by_cases c4 : (a0.size : Int) > 20
  ·rw [if_pos c4] at H
   have c4b0 : decide (20 < (a0.size : Int)) = true := decide_eq_true c4
   have c4b1 : decide (20 < a0.size) = true := decide_eq_true (by omega)
   clear c4; have H' := zab.mk H; clear H
   go_wp2
   go_meet
   case rel => exact ⟨_, (true), (by first | rfl | (simp; done) | (simp [*]; done)), H', ⟨by first | omega | exact Nat.le_refl _⟩, by repeat (first | exact zau.refl _ | apply zau.step)⟩
  rw [if_neg c4] at H
  have c4b0 : decide (20 < (a0.size : Int)) = false := decide_eq_false c4
  have c4b1 : decide (20 < a0.size) = false := decide_eq_false (by omega)
  clear c4
  by_cases c5 : 0 < (a0.size : Int)
  ·rw [if_pos c5] at H
   have c5b0 : decide (0 < (a0.size : Int)) = true := decide_eq_true c5
   have c5b1 : decide (0 < a0.size) = true := decide_eq_true (by omega)
   clear c5
   by_cases c7 : (bt a0 0) < 97
   ·rw [if_pos c7] at H
    have c7b0 : decide ((bt a0 0) < 97) = true := decide_eq_true c7
    clear c7; have H' := zab.mk H; clear H
    have p6 : 0 ≤ (0 : Int) := (by omega)
    have q6 : 0 < a0.size := (by have : (0 : Int) < (a0.size : Int) := of_decide_eq_true (by first | (with_reducible assumption) | assumption); omega)
    have hx6 : ∀ h : 0 < a0.size, ((a0[0]'h).toNat : Int) = bt a0 0 := bt_at a0 0
    clear p6
    have qi6 : (0 < (a0.size : Int)) = True := eq_true (of_decide_eq_true (by first | (with_reducible assumption) | assumption))
    replace q6 := eq_true q6
    go_wp2
    go_meet
    case rel => exact ⟨_, (true), (by first | rfl | (simp; done) | (simp [*]; done)), H', ⟨by first | omega | exact Nat.le_refl _⟩, by repeat (first | exact zau.refl _ | apply zau.step)⟩
   rw [if_neg c7] at H
   have c7b0 : decide ((bt a0 0) < 97) = false := decide_eq_false c7
   clear c7; have H' := zab.mk H; clear H
   have p6 : 0 ≤ (0 : Int) := (by omega)
   have q6 : 0 < a0.size := (by have : (0 : Int) < (a0.size : Int) := of_decide_eq_true (by first | (with_reducible assumption) | assumption); omega)
   have hx6 : ∀ h : 0 < a0.size, ((a0[0]'h).toNat : Int) = bt a0 0 := bt_at a0 0
   clear p6
   have qi6 : (0 < (a0.size : Int)) = True := eq_true (of_decide_eq_true (by first | (with_reducible assumption) | assumption))
   replace q6 := eq_true q6
   have p8 : 0 ≤ (0 : Int) := (by omega)
   have q8 : 0 < a0.size := (by have : (0 : Int) < (a0.size : Int) := of_decide_eq_true (by first | (with_reducible assumption) | assumption); omega)
   have hx8 : ∀ h : 0 < a0.size, ((a0[0]'h).toNat : Int) = bt a0 0 := bt_at a0 0
   clear p8
   have qi8 : (0 < (a0.size : Int)) = True := eq_true (of_decide_eq_true (by first | (with_reducible assumption) | assumption))
   replace q8 := eq_true q8
   go_wp2
   go_meet
   case rel => exact ⟨_, (decide ((bt a0 0) > 122)), (by first | rfl | (simp; done) | (simp [*]; done)), H', ⟨by first | omega | exact Nat.le_refl _⟩, by repeat (first | exact zau.refl _ | apply zau.step)⟩
  rw [if_neg c5] at H
  exact absurd H (by simp)
 case rest =>
  clear HC2
  obtain ⟨kq, x22_1, rfl, HA, HJ1, ⟨mc1, rfl⟩⟩ := hcut
  cases kq with
  | zero => exact absurd HA.out (by simp [zaF.j0])
  | succ kj1 =>
   have H := HA.out; clear HA
   simp only [zaF.j0] at H
   by_cases c9 : x22_1 = true
   ·subst c9
    replace H : (some false) = some r := by rw [if_pos rfl] at H; exact H
    obtain rfl := Option.some.inj H
    go_wp2
    go_ret
    exact ⟨by first | rfl | (simp; done) | (simp [*]; done), by repeat (first | exact zau.refl _ | apply zau.step)⟩
   replace c9 := Bool.eq_false_iff.mpr c9
   subst c9
   replace H : (zaF.l0 kj1 a0 1) = some r := by rw [if_neg (show ¬ (false = true) by decide)] at H; exact H
   have H' := zab.mk H; clear H
   go_wp2
   go_loopg [3] kj1 (fun kq v3 w' => ∃ (x3_2 : Int), v3 = .int .i64 x3_2 ∧ zab (zaF.l0 kq a0 x3_2 = some r) ∧ zab (kq ≤ kj1) ∧ zau w w')
   case atStart => exact ⟨(1), (by first | rfl | (simp; done) | (simp [*]; done)), H', ⟨Nat.le_refl _⟩, by repeat (first | exact zau.refl _ | apply zau.step)⟩
   case round =>
    clear H'
    try clear c9
    obtain ⟨x3_2, rfl, HA, HK2, ⟨m2, rfl⟩⟩ := hrel
    cases gk with
    | zero => exact absurd HA.out (by simp [zaF.l0])
    | succ k2 =>
     have H := HA.out; clear HA
     simp only [zaF.l0] at H
     by_cases c10 : x3_2 < (a0.size : Int)
     ·rw [if_pos c10] at H
      have c10b0 : decide (x3_2 < (a0.size : Int)) = true := decide_eq_true c10
      clear c10
      by_cases c11 : 0 ≤ x3_2
      ·rw [if_pos c11] at H
       have c11b0 : decide (0 ≤ x3_2) = true := decide_eq_true c11
       clear c11
       by_cases c13 : (bt a0 x3_2) < 97
       ·rw [if_pos c13] at H
        have c13b0 : decide ((bt a0 x3_2) < 97) = true := decide_eq_true c13
        clear c13
        by_cases c14 : (bt a0 x3_2) < 48
        ·rw [if_pos c14] at H
         have c14b0 : decide ((bt a0 x3_2) < 48) = true := decide_eq_true c14
         clear c14
         by_cases c15 : (bt a0 x3_2) = 45
         ·rw [if_pos c15] at H
          have c15b0 : ((bt a0 x3_2) == 45) = true := beq_iff_eq.mpr c15
          have c15b1 : ((bt a0 x3_2) != 45) = false := bne_eq_false_iff_eq.mpr c15
          clear c15; have H' := zab.mk H; clear H
          have p12 : 0 ≤ (x3_2 : Int) := of_decide_eq_true (by first | (with_reducible assumption) | assumption)
          have q12 : x3_2 < (a0.size : Int) := of_decide_eq_true (by first | (with_reducible assumption) | assumption)
          have hx12 := bt_at a0 x3_2
          replace p12 := eq_true p12
          replace q12 := eq_true q12
          go_wp2
          go_roundg k2
          case measure => have := HJ1.out; have := HK2.out; omega
          case rel => exact ⟨(wrap64 (x3_2 + 1)), (by first | rfl | (simp; done) | (simp [*]; done)), H', ⟨by have := HJ1.out; have := HK2.out; omega⟩, by repeat (first | exact zau.refl _ | apply zau.step)⟩
         rw [if_neg c15] at H
         have c15b0 : ((bt a0 x3_2) == 45) = false := beq_eq_false_iff_ne.mpr c15
         have c15b1 : ((bt a0 x3_2) != 45) = true := bne_iff_ne.mpr c15
         obtain rfl := Option.some.inj H
         have p12 : 0 ≤ (x3_2 : Int) := of_decide_eq_true (by first | (with_reducible assumption) | assumption)
         have q12 : x3_2 < (a0.size : Int) := of_decide_eq_true (by first | (with_reducible assumption) | assumption)
         have hx12 := bt_at a0 x3_2
         replace p12 := eq_true p12
         replace q12 := eq_true q12
         go_wp2
         go_ret
         exact ⟨by first | rfl | (simp; done) | (simp [*]; done), by repeat (first | exact zau.refl _ | apply zau.step)⟩
        rw [if_neg c14] at H
        have c14b0 : decide ((bt a0 x3_2) < 48) = false := decide_eq_false c14
        clear c14
        by_cases c16 : (bt a0 x3_2) > 57
        ·rw [if_pos c16] at H
         have c16b0 : decide (57 < (bt a0 x3_2)) = true := decide_eq_true c16
         clear c16
         by_cases c17 : (bt a0 x3_2) = 45
         ·rw [if_pos c17] at H
          have c17b0 : ((bt a0 x3_2) == 45) = true := beq_iff_eq.mpr c17
          have c17b1 : ((bt a0 x3_2) != 45) = false := bne_eq_false_iff_eq.mpr c17
          clear c17; have H' := zab.mk H; clear H
          have p12 : 0 ≤ (x3_2 : Int) := of_decide_eq_true (by first | (with_reducible assumption) | assumption)
          have q12 : x3_2 < (a0.size : Int) := of_decide_eq_true (by first | (with_reducible assumption) | assumption)
          have hx12 := bt_at a0 x3_2
          replace p12 := eq_true p12
          replace q12 := eq_true q12
          go_wp2
          go_roundg k2
          case measure => have := HJ1.out; have := HK2.out; omega
          case rel => exact ⟨(wrap64 (x3_2 + 1)), (by first | rfl | (simp; done) | (simp [*]; done)), H', ⟨by have := HJ1.out; have := HK2.out; omega⟩, by repeat (first | exact zau.refl _ | apply zau.step)⟩
         rw [if_neg c17] at H
         have c17b0 : ((bt a0 x3_2) == 45) = false := beq_eq_false_iff_ne.mpr c17
         have c17b1 : ((bt a0 x3_2) != 45) = true := bne_iff_ne.mpr c17
         obtain rfl := Option.some.inj H
         have p12 : 0 ≤ (x3_2 : Int) := of_decide_eq_true (by first | (with_reducible assumption) | assumption)
         have q12 : x3_2 < (a0.size : Int) := of_decide_eq_true (by first | (with_reducible assumption) | assumption)
         have hx12 := bt_at a0 x3_2
         replace p12 := eq_true p12
         replace q12 := eq_true q12
         go_wp2
         go_ret
         exact ⟨by first | rfl | (simp; done) | (simp [*]; done), by repeat (first | exact zau.refl _ | apply zau.step)⟩
        rw [if_neg c16] at H
        have c16b0 : decide (57 < (bt a0 x3_2)) = false := decide_eq_false c16
        clear c16; have H' := zab.mk H; clear H
        have p12 : 0 ≤ (x3_2 : Int) := of_decide_eq_true (by first | (with_reducible assumption) | assumption)
        have q12 : x3_2 < (a0.size : Int) := of_decide_eq_true (by first | (with_reducible assumption) | assumption)
        have hx12 := bt_at a0 x3_2
        replace p12 := eq_true p12
        replace q12 := eq_true q12
        go_wp2
        go_roundg k2
        case measure => have := HJ1.out; have := HK2.out; omega
        case rel => exact ⟨(wrap64 (x3_2 + 1)), (by first | rfl | (simp; done) | (simp [*]; done)), H', ⟨by have := HJ1.out; have := HK2.out; omega⟩, by repeat (first | exact zau.refl _ | apply zau.step)⟩
       rw [if_neg c13] at H
       have c13b0 : decide ((bt a0 x3_2) < 97) = false := decide_eq_false c13
       clear c13
       by_cases c18 : (bt a0 x3_2) > 122
       ·rw [if_pos c18] at H
        have c18b0 : decide (122 < (bt a0 x3_2)) = true := decide_eq_true c18
        clear c18
        by_cases c19 : (bt a0 x3_2) < 48
        ·rw [if_pos c19] at H
         have c19b0 : decide ((bt a0 x3_2) < 48) = true := decide_eq_true c19
         clear c19
         by_cases c20 : (bt a0 x3_2) = 45
         ·rw [if_pos c20] at H
          have c20b0 : ((bt a0 x3_2) == 45) = true := beq_iff_eq.mpr c20
          have c20b1 : ((bt a0 x3_2) != 45) = false := bne_eq_false_iff_eq.mpr c20
          clear c20; have H' := zab.mk H; clear H
          have p12 : 0 ≤ (x3_2 : Int) := of_decide_eq_true (by first | (with_reducible assumption) | assumption)
          have q12 : x3_2 < (a0.size : Int) := of_decide_eq_true (by first | (with_reducible assumption) | assumption)
          have hx12 := bt_at a0 x3_2
          replace p12 := eq_true p12
          replace q12 := eq_true q12
          go_wp2
          go_roundg k2
          case measure => have := HJ1.out; have := HK2.out; omega
          case rel => exact ⟨(wrap64 (x3_2 + 1)), (by first | rfl | (simp; done) | (simp [*]; done)), H', ⟨by have := HJ1.out; have := HK2.out; omega⟩, by repeat (first | exact zau.refl _ | apply zau.step)⟩
         rw [if_neg c20] at H
         have c20b0 : ((bt a0 x3_2) == 45) = false := beq_eq_false_iff_ne.mpr c20
         have c20b1 : ((bt a0 x3_2) != 45) = true := bne_iff_ne.mpr c20
         obtain rfl := Option.some.inj H
         have p12 : 0 ≤ (x3_2 : Int) := of_decide_eq_true (by first | (with_reducible assumption) | assumption)
         have q12 : x3_2 < (a0.size : Int) := of_decide_eq_true (by first | (with_reducible assumption) | assumption)
         have hx12 := bt_at a0 x3_2
         replace p12 := eq_true p12
         replace q12 := eq_true q12
         go_wp2
         go_ret
         exact ⟨by first | rfl | (simp; done) | (simp [*]; done), by repeat (first | exact zau.refl _ | apply zau.step)⟩
        rw [if_neg c19] at H
        have c19b0 : decide ((bt a0 x3_2) < 48) = false := decide_eq_false c19
        clear c19
        by_cases c21 : (bt a0 x3_2) > 57
        ·rw [if_pos c21] at H
         have c21b0 : decide (57 < (bt a0 x3_2)) = true := decide_eq_true c21
         clear c21
         by_cases c22 : (bt a0 x3_2) = 45
         ·rw [if_pos c22] at H
          have c22b0 : ((bt a0 x3_2) == 45) = true := beq_iff_eq.mpr c22
          have c22b1 : ((bt a0 x3_2) != 45) = false := bne_eq_false_iff_eq.mpr c22
          clear c22; have H' := zab.mk H; clear H
          have p12 : 0 ≤ (x3_2 : Int) := of_decide_eq_true (by first | (with_reducible assumption) | assumption)
          have q12 : x3_2 < (a0.size : Int) := of_decide_eq_true (by first | (with_reducible assumption) | assumption)
          have hx12 := bt_at a0 x3_2
          replace p12 := eq_true p12
          replace q12 := eq_true q12
          go_wp2
          go_roundg k2
          case measure => have := HJ1.out; have := HK2.out; omega
          case rel => exact ⟨(wrap64 (x3_2 + 1)), (by first | rfl | (simp; done) | (simp [*]; done)), H', ⟨by have := HJ1.out; have := HK2.out; omega⟩, by repeat (first | exact zau.refl _ | apply zau.step)⟩
         rw [if_neg c22] at H
         have c22b0 : ((bt a0 x3_2) == 45) = false := beq_eq_false_iff_ne.mpr c22
         have c22b1 : ((bt a0 x3_2) != 45) = true := bne_iff_ne.mpr c22
         obtain rfl := Option.some.inj H
         have p12 : 0 ≤ (x3_2 : Int) := of_decide_eq_true (by first | (with_reducible assumption) | assumption)
         have q12 : x3_2 < (a0.size : Int) := of_decide_eq_true (by first | (with_reducible assumption) | assumption)
         have hx12 := bt_at a0 x3_2
         replace p12 := eq_true p12
         replace q12 := eq_true q12
         go_wp2
         go_ret
         exact ⟨by first | rfl | (simp; done) | (simp [*]; done), by repeat (first | exact zau.refl _ | apply zau.step)⟩
        rw [if_neg c21] at H
        have c21b0 : decide (57 < (bt a0 x3_2)) = false := decide_eq_false c21
        clear c21; have H' := zab.mk H; clear H
        have p12 : 0 ≤ (x3_2 : Int) := of_decide_eq_true (by first | (with_reducible assumption) | assumption)
        have q12 : x3_2 < (a0.size : Int) := of_decide_eq_true (by first | (with_reducible assumption) | assumption)
        have hx12 := bt_at a0 x3_2
        replace p12 := eq_true p12
        replace q12 := eq_true q12
        go_wp2
        go_roundg k2
        case measure => have := HJ1.out; have := HK2.out; omega
        case rel => exact ⟨(wrap64 (x3_2 + 1)), (by first | rfl | (simp; done) | (simp [*]; done)), H', ⟨by have := HJ1.out; have := HK2.out; omega⟩, by repeat (first | exact zau.refl _ | apply zau.step)⟩
       rw [if_neg c18] at H
       have c18b0 : decide (122 < (bt a0 x3_2)) = false := decide_eq_false c18
       clear c18; have H' := zab.mk H; clear H
       have p12 : 0 ≤ (x3_2 : Int) := of_decide_eq_true (by first | (with_reducible assumption) | assumption)
       have q12 : x3_2 < (a0.size : Int) := of_decide_eq_true (by first | (with_reducible assumption) | assumption)
       have hx12 := bt_at a0 x3_2
       replace p12 := eq_true p12
       replace q12 := eq_true q12
       go_wp2
       go_roundg k2
       case measure => have := HJ1.out; have := HK2.out; omega
       case rel => exact ⟨(wrap64 (x3_2 + 1)), (by first | rfl | (simp; done) | (simp [*]; done)), H', ⟨by have := HJ1.out; have := HK2.out; omega⟩, by repeat (first | exact zau.refl _ | apply zau.step)⟩
      rw [if_neg c11] at H
      exact absurd H (by simp)
     rw [if_neg c10] at H
     have c10b0 : decide (x3_2 < (a0.size : Int)) = false := decide_eq_false c10
     clear c10; obtain rfl := Option.some.inj H
     go_wp2
     go_ret
     exact ⟨by first | rfl | (simp; done) | (simp [*]; done), by repeat (first | exact zau.refl _ | apply zau.step)⟩
end Go.Proofs.YtfafjbolmeimmaaGreatDoor.P
namespace Go.Proofs.YtfafjbolmeimmaaGreatDoor.P
open Go.RowKit Go.Proofs.YtfafjbolmeimmaaGreatDoorW.PrintWords Go.Proofs.YtfafjbolmeimmaaGreatDoorW.PrintLast Go.Proofs.YtfafjbolmeimmaaGreatDoorW.PrintMore
attribute [local go_sem] max2_int min2_int max_two min_two zbk zbl max_four min_four
set_option linter.unusedVariables false
set_option linter.unusedSimpArgs false
def spec_l01IsPoint.f (a0 : Int) : Option (Bool) := if a0 ≥ 0 then (if a0 ≤ 1114111 then (if a0 < 55296 then (some true) else (some (decide (a0 > 57343)))) else (some false)) else (some false)
set_option maxHeartbeats 8000000 in
set_option maxRecDepth 100000 in
theorem spec_l01IsPoint.calls (a0 : Int) (r : Bool) (w : World) (h : spec_l01IsPoint.f a0 = some r) :
  Calls Tryz.prog 118 #[.int .i64 a0] w fun e w' => e = .returned (.bool r) ∧ zau w w' := by
 have H : (if a0 ≥ 0 then (if a0 ≤ 1114111 then (if a0 < 55296 then (some true) else (some (decide (a0 > 57343)))) else (some false)) else (some false)) = some r := h
 clear h
 by_cases c2 : a0 ≥ 0
 ·rw [if_pos c2] at H
  have c2b0 : decide (0 ≤ a0) = true := decide_eq_true c2
  clear c2
  by_cases c3 : a0 ≤ 1114111
  ·rw [if_pos c3] at H
   have c3b0 : decide (a0 ≤ 1114111) = true := decide_eq_true c3
   clear c3
   by_cases c4 : a0 < 55296
   ·rw [if_pos c4] at H
    have c4b0 : decide (a0 < 55296) = true := decide_eq_true c4
    clear c4; obtain rfl := Option.some.inj H
    go_enter Tryz.func118, Tryz.ntmps118
    go_wp2
    go_ret
    exact ⟨by first | rfl | (simp; done) | (simp [*]; done), by repeat (first | exact zau.refl _ | apply zau.step)⟩
   rw [if_neg c4] at H
   have c4b0 : decide (a0 < 55296) = false := decide_eq_false c4
   clear c4; obtain rfl := Option.some.inj H
   go_enter Tryz.func118, Tryz.ntmps118
   go_wp2
   go_ret
   exact ⟨by first | rfl | (simp; done) | (simp [*]; done), by repeat (first | exact zau.refl _ | apply zau.step)⟩
  rw [if_neg c3] at H
  have c3b0 : decide (a0 ≤ 1114111) = false := decide_eq_false c3
  clear c3; obtain rfl := Option.some.inj H
  go_enter Tryz.func118, Tryz.ntmps118
  go_wp2
  go_ret
  exact ⟨by first | rfl | (simp; done) | (simp [*]; done), by repeat (first | exact zau.refl _ | apply zau.step)⟩
 rw [if_neg c2] at H
 have c2b0 : decide (0 ≤ a0) = false := decide_eq_false c2
 clear c2; obtain rfl := Option.some.inj H
 go_enter Tryz.func118, Tryz.ntmps118
 go_wp2
 go_ret
 exact ⟨by first | rfl | (simp; done) | (simp [*]; done), by repeat (first | exact zau.refl _ | apply zau.step)⟩
end Go.Proofs.YtfafjbolmeimmaaGreatDoor.P
namespace Go.Proofs.YtfafjbolmeimmaaGreatDoor.P
open Go.RowKit Go.Proofs.YtfafjbolmeimmaaGreatDoorW.PrintWords
set_option linter.unusedVariables false
theorem bt_get (s : ByteArray) (i : Nat) : bt s (i : Int) = ((s.get! i).toNat : Int) := by
 unfold bt
 rw [Int.toNat_natCast]
 by_cases h : i < s.size
 ·rw [dif_pos h, Utf8W.get!_of_lt s i h]
 rw [dif_neg h]
 cases s with
 | mk d =>
  have : d.size ≤ i := Nat.le_of_not_lt h
  show (0 : Int) = ((d[i]!).toNat : Int)
  rw [getElem!_neg d i (by omega)]
  rfl
def dec (s : ByteArray) (i : Nat) : Nat × Nat := Utf8.decode s i
theorem dec_eq (s : ByteArray) (i : Nat) : dec s i = Lib.decodeN (s.size - i) (s.get! i).toNat (s.get! (i + 1)).toNat (s.get! (i + 2)).toNat (s.get! (i + 3)).toNat := Lib.decode_at s i
theorem decodeN_bd (n b0 b1 b2 b3 : Nat) (hn : 1 ≤ n) : 1 ≤ (Lib.decodeN n b0 b1 b2 b3).2 ∧ (Lib.decodeN n b0 b1 b2 b3).2 ≤ 4 ∧ (Lib.decodeN n b0 b1 b2 b3).2 ≤ n ∧ (Lib.decodeN n b0 b1 b2 b3).1 ≤ 1114111 ∧ ((Lib.decodeN n b0 b1 b2 b3).1 < 55296 ∨ 57344 ≤ (Lib.decodeN n b0 b1 b2 b3).1) := by
 unfold Lib.decodeN
 repeat' split
 all_goals (simp only []; omega)
theorem dec_bd (s : ByteArray) (i : Nat) (h : i < s.size) : 1 ≤ (dec s i).2 ∧ (dec s i).2 ≤ 4 ∧ (dec s i).2 ≤ s.size - i ∧ (dec s i).1 ≤ 1114111 ∧ ((dec s i).1 < 55296 ∨ 57344 ≤ (dec s i).1) := by
 rw [dec_eq]
 exact decodeN_bd _ _ _ _ _ (by omega)
def badAt (s : ByteArray) (i : Nat) : Bool := (dec s i).1 == 65533 && (dec s i).2 == 1
def ptsFrom (s : ByteArray) (i : Nat) : List Int :=
 if h : i < s.size then ((dec s i).1 : Int) :: ptsFrom s (i + (dec s i).2) else []
termination_by s.size - i
decreasing_by have := dec_bd s i h; omega
def pts (s : ByteArray) : List Int := ptsFrom s 0
theorem ptsFrom_lt {s : ByteArray} {i : Nat} (h : i < s.size) : ptsFrom s i = ((dec s i).1 : Int) :: ptsFrom s (i + (dec s i).2) := by rw [ptsFrom, dif_pos h]
theorem ptsFrom_ge {s : ByteArray} {i : Nat} (h : ¬ i < s.size) : ptsFrom s i = [] := by rw [ptsFrom, dif_neg h]
def atsFrom (s : ByteArray) (i : Nat) : List S89 :=
 if h : i < s.size then ⟨((dec s i).1 : Int), (i : Int), ((i + (dec s i).2 : Nat) : Int), badAt s i⟩ :: atsFrom s (i + (dec s i).2) else []
termination_by s.size - i
decreasing_by have := dec_bd s i h; omega
def ats (s : ByteArray) : List S89 := atsFrom s 0
theorem atsFrom_lt {s : ByteArray} {i : Nat} (h : i < s.size) : atsFrom s i = ⟨((dec s i).1 : Int), (i : Int), ((i + (dec s i).2 : Nat) : Int), badAt s i⟩ :: atsFrom s (i + (dec s i).2) := by rw [atsFrom, dif_pos h]
theorem atsFrom_ge {s : ByteArray} {i : Nat} (h : ¬ i < s.size) : atsFrom s i = [] := by rw [atsFrom, dif_neg h]
theorem rec_places (s : ByteArray) {motive : Nat → Prop} (end_ : ∀ i, ¬ i < s.size → motive i) (step : ∀ i, i < s.size → motive (i + (dec s i).2) → motive i) : ∀ i, motive i := by
 have : ∀ d i, s.size - i ≤ d → motive i := by
  intro d
  induction d with
  | zero => intro i hi; exact end_ i (by omega)
  | succ d ih =>
   intro i hi
   by_cases h : i < s.size
   ·have := dec_bd s i h
    exact step i h (ih _ (by omega))
   exact end_ i h
 exact fun i => this _ i (Nat.le_refl _)
theorem ats_pts (s : ByteArray) : ∀ i, (atsFrom s i).map (·.f0) = ptsFrom s i := by
 refine rec_places s (motive := fun i => (atsFrom s i).map (·.f0) = ptsFrom s i) ?_ ?_
 ·intro i h; show _ = _; rw [atsFrom_ge h, ptsFrom_ge h]; rfl
 intro i h ih; show _ = _; rw [atsFrom_lt h, ptsFrom_lt h, List.map_cons, ih]
theorem pts_len (s : ByteArray) : ∀ i, (ptsFrom s i).length ≤ s.size - i := by
 refine rec_places s (motive := fun i => (ptsFrom s i).length ≤ s.size - i) ?_ ?_
 ·intro i h; show _ ≤ _; rw [ptsFrom_ge h]; simp
 intro i h ih
 have := dec_bd s i h
 show _ ≤ _
 rw [ptsFrom_lt h, List.length_cons]; omega
theorem ats_len (s : ByteArray) : ∀ i, (atsFrom s i).length ≤ s.size - i := by
 intro i
 have := pts_len s i
 rw [← ats_pts, List.length_map] at this
 exact this
theorem pts_range (s : ByteArray) : ∀ i, ∀ p ∈ ptsFrom s i, 0 ≤ p ∧ p ≤ 1114111 ∧ (p < 55296 ∨ 57344 ≤ p) := by
 refine rec_places s (motive := fun i => ∀ p ∈ ptsFrom s i, 0 ≤ p ∧ p ≤ 1114111 ∧ (p < 55296 ∨ 57344 ≤ p)) ?_ ?_
 ·intro i h p hp; rw [ptsFrom_ge h] at hp; cases hp
 intro i h ih p hp
 have := dec_bd s i h
 rw [ptsFrom_lt h] at hp
 rcases List.mem_cons.1 hp with rfl | h2
 ·omega
 exact ih p h2
theorem decodeGo_at (s : ByteArray) (i : Nat) (h : i < s.size) : Lib.decodeGo (s.extract i s.size) = dec s i := by
 unfold Lib.decodeGo
 rw [if_neg (by rw [Lib.tail_size]; omega), Lib.tail_decode, Nat.add_zero]
 rfl
theorem read_ev (s : ByteArray) (hs : s.size ≤ 1099511627776) : ∀ i, ∀ acc : List S89, acc.length + (s.size - i) ≤ 1099511627776 → Ev (fun k => impl_read.l0 k s acc (i : Int)) (acc ++ atsFrom s i) := by
 refine rec_places s (motive := fun i => ∀ acc : List S89, acc.length + (s.size - i) ≤ 1099511627776 → Ev (fun k => impl_read.l0 k s acc (i : Int)) (acc ++ atsFrom s i)) ?_ ?_
 ·intro i h acc ha
  refine Ev.step (fun k => by rw [impl_read.l0]) ?_
  rw [atsFrom_ge h, List.append_nil]
  exact Ev.neg (by omega) (Ev.now _)
 intro i h ih acc ha
 have hb := dec_bd s i h
 refine Ev.step (fun k => by rw [impl_read.l0]) ?_
 refine Ev.pos (by omega) (Ev.pos (by omega) (Ev.pos (by omega) ?_))
 rw [Int.toNat_natCast]
 refine Ev.bind (Ev.done (r := (((dec s i).1 : Int), ((dec s i).2 : Int))) (by unfold utf8_DecodeRuneInString.f; rw [decodeGo_at s i h])) ?_
 have e1 : wrap64 ((dec s i).1 : Int) = ((dec s i).1 : Int) := w64 (by omega) (by omega)
 have e2 : wrap64 ((i : Int) + ((dec s i).2 : Int)) = ((i + (dec s i).2 : Nat) : Int) := by rw [w64 (by omega) (by omega)]; omega
 simp only [e1, e2]
 rw [atsFrom_lt h]
 have key : ∀ b : Bool, b = badAt s i → Ev (fun k => if acc.length < 4398046511104 then impl_read.l0 k s (acc ++ [(⟨((dec s i).1 : Int), (i : Int), ((i + (dec s i).2 : Nat) : Int), b⟩ : S89)]) ((i + (dec s i).2 : Nat) : Int) else none) (acc ++ (⟨((dec s i).1 : Int), (i : Int), ((i + (dec s i).2 : Nat) : Int), badAt s i⟩ :: atsFrom s (i + (dec s i).2))) := by
  rintro b rfl
  refine Ev.pos (by omega) ?_
  refine (ih _ ?_).to (by simp)
  rw [List.length_append, List.length_singleton]
  omega
 by_cases h3 : (dec s i).1 = 65533
 ·refine Ev.pos (by omega) (key _ ?_)
  unfold badAt
  rw [h3]
  by_cases h4 : (dec s i).2 = 1
  ·rw [h4]; rfl
  have : ¬ (((dec s i).2 : Int) = 1) := by omega
  rw [beq_eq_false_iff_ne.2 this, beq_eq_false_iff_ne.2 h4]
  rfl
 refine Ev.neg (by omega) (key _ ?_)
 unfold badAt
 rw [beq_eq_false_iff_ne.2 h3]
 rfl
theorem read_f (s : ByteArray) (hs : s.size ≤ 1099511627776) : Ev (fun k => impl_read.f k s) (ats s) :=
 (read_ev s hs 0 [] (by simp; omega)).to (by simp [ats])
end Go.Proofs.YtfafjbolmeimmaaGreatDoor.P
namespace Go.Proofs.YtfafjbolmeimmaaGreatDoorW.PrintLast
open Go.RowKit Go.Proofs.YtfafjbolmeimmaaGreatDoorW.PrintWords
set_option linter.unusedVariables false
section
variable {P : Program} {md : Region.Mode} {ops : Array Oper} {Q : Exit → Act → World → Prop} {S : World → Prop} {T : Bool × List (List Nat × List Nat)} {B : List Nat}
def upA (k n : Nat) : Array Bool := (List.replicate k true ++ List.replicate (n - k) false).toArray
theorem sn_ {id n : Nat} {a : Act} {w : World} (hm : P.follows .mixedOrders = true) (hn : ops.size = n) (hl : Array.replicate n false = upA 0 n) (hS : S w.drew)
  (h : S w.drew → wpAnyLast P .any ops Q S [] n (upA 0 n) a w.drew) : (Code.region id ops true).wp P Q a w := start_ _ hm hn hl hS h
theorem pn_ (b : Nat) {k n : Nat} {oi : Oper} {v : Value} {fuel : Nat} {a : Act} {w : World} (hi : ops[k]? = some oi) (hN : oi.dst = some (b + k)) (hT : zab (rtab md ops = T)) (hc : anyT T (upA k n).toList (upA (k + 1) n).toList k = true)
  (hQ : ∀ c a w, Q (.panic c) (a.put oi.dst v) w → Q (.panic c) a w) (hy : Yields P ops oi v a) {a' : Act} (ha : a.put (some (b + k)) v = a')
  (h : wpAnyLast P md ops Q S [] fuel (upA (k + 1) n) a' w) : wpAnyLast P md ops Q S [] (fuel + 1) (upA k n) a w := pure_ _ hi hN (any_of hT.out hc) hQ hy ha h
theorem tn_ (b : Nat) {k n : Nat} {oi : Oper} {v : Value} {fuel : Nat} {a : Act} {w : World} (hi : ops[k]? = some oi) (hN : oi.dst = some (b + k)) (hT : zab (rtab md ops = T)) (hB : zab (waitsOk T.2 B = true)) (hc : takeW T B [] (upA k n).toList (upA (k + 1) n).toList k = true)
  (hQ : ∀ c a w, Q (.panic c) (a.put oi.dst v) w → Q (.panic c) a w) (hy : YieldsIf P ops S oi v a) (hS : S w) {a' : Act} (ha : a.put (some (b + k)) v = a')
  (h : wpAnyLast P md ops Q S [] fuel (upA (k + 1) n) a' w) : wpAnyLast P md ops Q S [] (fuel + 1) (upA k n) a w := take_ _ hi hN (take_ofW hT.out hB.out hc) hQ hy hS ha h
theorem on_ (b : Nat) {k n : Nat} {oi : Oper} {fuel : Nat} {a : Act} {w : World} (hi : ops[k]? = some oi) (hN : oi.dst = some (b + k)) (hT : zab (rtab md ops = T)) (hc : (readyT T.2 (upA k n).toList == [k] && (upA k n).toList.set k true == (upA (k + 1) n).toList) = true)
  (h : ∀ K : Act → World → Prop, Shut (∀ a' w', S w' → (S w' → wpAnyLast P md ops Q S [] fuel (upA (k + 1) n) a' w') → K a' w') → if Region.wanted oi (yielded ops a.tmps) = true then Oper.wp P oi a w K Q else K (a.put (some (b + k)) undef) w) :
  wpAnyLast P md ops Q S [] (fuel + 1) (upA k n) a w := one_ _ hi hN (one_of hT.out hc) (by simp) h
theorem pf_ (N : Tmp) {k n : Nat} {oi : Oper} {v : Value} {fuel : Nat} {a : Act} {w : World} (hi : ops[k]? = some oi) (hN : oi.dst = some N) (hT : zab (rtab md ops = T)) (hc : anyT T (upA k n).toList (upA (k + 1) n).toList k = true)
  (hQ : ∀ c a w, Q (.panic c) (a.put oi.dst v) w → Q (.panic c) a w) (hy : Yields P ops oi v a) {a' : Act} (ha : a.put (some N) v = a')
  (h : wpAnyLast P md ops Q S [] fuel (upA (k + 1) n) a' w) : wpAnyLast P md ops Q S [] (fuel + 1) (upA k n) a w := pure_ _ hi hN (any_of hT.out hc) hQ hy ha h
theorem dn_ {k n : Nat} {a : Act} {w : World} {fuel : Nat} (hT : zab (rtab md ops = T)) (hr : (readyT T.2 (upA k n).toList == []) = true) (h : Q .normal a w) : wpAnyLast P md ops Q S [] fuel (upA k n) a w := done_ (done_of hT.out hr) h
end
end Go.Proofs.YtfafjbolmeimmaaGreatDoorW.PrintLast
