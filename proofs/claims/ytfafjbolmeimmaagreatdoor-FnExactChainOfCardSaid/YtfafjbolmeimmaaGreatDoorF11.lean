/- Parts of a proof: words of the print tool that this claim uses, or plain lists. -/
import Derived.Test.YtfafjbolmeimmaaGreatDoorAb
import Derived.Test.YtfafjbolmeimmaaGreatDoorF4
namespace Go.Proofs.YtfafjbolmeimmaaGreatDoor.P
open Go.RowKit Go.Proofs.YtfafjbolmeimmaaGreatDoorW.PrintWords Go.Proofs.YtfafjbolmeimmaaGreatDoorW.PrintLast Go.Proofs.YtfafjbolmeimmaaGreatDoorW.PrintMore
attribute [local go_sem] zbm zbn max_two min_two za9 za8 zbk zbj
set_option linter.unusedVariables false
set_option linter.unusedSimpArgs false
def zbi.l0 : Nat → ByteArray → Int → Int → Option (Bool)
 | 0, _, _, _ => none
 | k + 1, x0, x6, x7 => if x7 < x6 then (if 0 ≤ x7 then (if x7 < (x0.size : Int) then (if (bt x0 x7) ≥ 97 then (if (bt x0 x7) ≤ 122 then (zbi.l0 k x0 x6 (wrap64 (x7 + 1))) else (if x7 > 0 then (if (bt x0 x7) ≥ 48 then (if (bt x0 x7) ≤ 57 then (zbi.l0 k x0 x6 (wrap64 (x7 + 1))) else (if (bt x0 x7) = 45 then (zbi.l0 k x0 x6 (wrap64 (x7 + 1))) else (some false))) else (if (bt x0 x7) = 45 then (zbi.l0 k x0 x6 (wrap64 (x7 + 1))) else (some false))) else (some false))) else (if x7 > 0 then (if (bt x0 x7) ≥ 48 then (if (bt x0 x7) ≤ 57 then (zbi.l0 k x0 x6 (wrap64 (x7 + 1))) else (if (bt x0 x7) = 45 then (zbi.l0 k x0 x6 (wrap64 (x7 + 1))) else (some false))) else (if (bt x0 x7) = 45 then (zbi.l0 k x0 x6 (wrap64 (x7 + 1))) else (some false))) else (some false))) else (none)) else (none)) else (if (x0.size : Int) ≥ 1 then (some (decide ((x0.size : Int) ≤ 20))) else (some false))
def zbi.f (k : Nat) (a0 : ByteArray) : Option (Bool) := zbi.l0 k a0 (a0.size : Int) 0
set_option maxHeartbeats 8000000 in
set_option maxRecDepth 100000 in
theorem zbi.calls (k : Nat) (a0 : ByteArray) (r : Bool) (w : World) (h : zbi.f k a0 = some r) :
  Calls Tryz.prog 41 #[.string a0] w fun e w' => e = .returned (.bool r) ∧ zas w w' := by
 have H : (zbi.l0 k a0 (a0.size : Int) 0) = some r := h
 clear h; have H' := zaa.mk H; clear H
 go_enter Tryz.func41, Tryz.ntmps41
 go_wp2
 go_loopg [7] k (fun kq v7 w' => ∃ (x7_1 : Int), v7 = .int .i64 x7_1 ∧ zaa (zbi.l0 kq a0 (a0.size : Int) x7_1 = some r) ∧ zaa (kq ≤ k) ∧ zas w w')
 case atStart => exact ⟨(0), yq3, H', ⟨Nat.le_refl _⟩, yq11⟩
 case round =>
  clear H'
  obtain ⟨x7_1, rfl, HA, HK1, ⟨m1, rfl⟩⟩ := hrel
  cases gk with
  | zero => exact absurd HA.out (by simp [zbi.l0])
  | succ k1 =>
   have H := HA.out; clear HA
   simp only [zbi.l0] at H
   by_cases c2 : x7_1 < (a0.size : Int)
   ·rw [if_pos c2] at H
    have c2b0 : decide (x7_1 < (a0.size : Int)) = true := decide_eq_true c2
    clear c2
    by_cases c3 : 0 ≤ x7_1
    ·rw [if_pos c3] at H
     have c3b0 : decide (0 ≤ x7_1) = true := decide_eq_true c3
     clear c3
     by_cases c4 : x7_1 < (a0.size : Int)
     ·rw [if_pos c4] at H
      have c4b0 : decide (x7_1 < (a0.size : Int)) = true := decide_eq_true c4
      clear c4
      by_cases c6 : (bt a0 x7_1) ≥ 97
      ·rw [if_pos c6] at H
       have c6b0 : decide (97 ≤ (bt a0 x7_1)) = true := decide_eq_true c6
       clear c6
       by_cases c7 : (bt a0 x7_1) ≤ 122
       ·rw [if_pos c7] at H
        have c7b0 : decide ((bt a0 x7_1) ≤ 122) = true := decide_eq_true c7
        clear c7; have H' := zaa.mk H; clear H
        have p5 : 0 ≤ (x7_1 : Int) := of_decide_eq_true yq1
        have q5 : x7_1 < (a0.size : Int) := of_decide_eq_true yq1
        have hx5 := bt_at a0 x7_1
        replace p5 := eq_true p5
        replace q5 := eq_true q5
        go_wp2
        go_roundg k1
        case measure => have := HK1.out; omega
        case rel => exact ⟨(wrap64 (x7_1 + 1)), yq3, H', ⟨yq15 HK1.out⟩, yq11⟩
       rw [if_neg c7] at H
       have c7b0 : decide ((bt a0 x7_1) ≤ 122) = false := decide_eq_false c7
       clear c7
       by_cases c8 : x7_1 > 0
       ·rw [if_pos c8] at H
        have c8b0 : decide (0 < x7_1) = true := decide_eq_true c8
        clear c8
        by_cases c9 : (bt a0 x7_1) ≥ 48
        ·rw [if_pos c9] at H
         have c9b0 : decide (48 ≤ (bt a0 x7_1)) = true := decide_eq_true c9
         clear c9
         by_cases c10 : (bt a0 x7_1) ≤ 57
         ·rw [if_pos c10] at H
          have c10b0 : decide ((bt a0 x7_1) ≤ 57) = true := decide_eq_true c10
          clear c10; have H' := zaa.mk H; clear H
          have p5 : 0 ≤ (x7_1 : Int) := of_decide_eq_true yq1
          have q5 : x7_1 < (a0.size : Int) := of_decide_eq_true yq1
          have hx5 := bt_at a0 x7_1
          replace p5 := eq_true p5
          replace q5 := eq_true q5
          go_wp2
          go_roundg k1
          case measure => have := HK1.out; omega
          case rel => exact ⟨(wrap64 (x7_1 + 1)), yq3, H', ⟨yq15 HK1.out⟩, yq11⟩
         rw [if_neg c10] at H
         have c10b0 : decide ((bt a0 x7_1) ≤ 57) = false := decide_eq_false c10
         clear c10
         by_cases c11 : (bt a0 x7_1) = 45
         ·rw [if_pos c11] at H
          have c11b0 : ((bt a0 x7_1) == 45) = true := beq_iff_eq.mpr c11
          have c11b1 : ((bt a0 x7_1) != 45) = false := bne_eq_false_iff_eq.mpr c11
          clear c11; have H' := zaa.mk H; clear H
          have p5 : 0 ≤ (x7_1 : Int) := of_decide_eq_true yq1
          have q5 : x7_1 < (a0.size : Int) := of_decide_eq_true yq1
          have hx5 := bt_at a0 x7_1
          replace p5 := eq_true p5
          replace q5 := eq_true q5
          go_wp2
          go_roundg k1
          case measure => have := HK1.out; omega
          case rel => exact ⟨(wrap64 (x7_1 + 1)), yq3, H', ⟨yq15 HK1.out⟩, yq11⟩
         rw [if_neg c11] at H
         have c11b0 : ((bt a0 x7_1) == 45) = false := beq_eq_false_iff_ne.mpr c11
         have c11b1 : ((bt a0 x7_1) != 45) = true := bne_iff_ne.mpr c11
         obtain rfl := Option.some.inj H
         have p5 : 0 ≤ (x7_1 : Int) := of_decide_eq_true yq1
         have q5 : x7_1 < (a0.size : Int) := of_decide_eq_true yq1
         have hx5 := bt_at a0 x7_1
         replace p5 := eq_true p5
         replace q5 := eq_true q5
         go_wp2
         go_ret
         exact ⟨yq3, yq11⟩
        rw [if_neg c9] at H
        have c9b0 : decide (48 ≤ (bt a0 x7_1)) = false := decide_eq_false c9
        clear c9
        by_cases c12 : (bt a0 x7_1) = 45
        ·rw [if_pos c12] at H
         have c12b0 : ((bt a0 x7_1) == 45) = true := beq_iff_eq.mpr c12
         have c12b1 : ((bt a0 x7_1) != 45) = false := bne_eq_false_iff_eq.mpr c12
         clear c12; have H' := zaa.mk H; clear H
         have p5 : 0 ≤ (x7_1 : Int) := of_decide_eq_true yq1
         have q5 : x7_1 < (a0.size : Int) := of_decide_eq_true yq1
         have hx5 := bt_at a0 x7_1
         replace p5 := eq_true p5
         replace q5 := eq_true q5
         go_wp2
         go_roundg k1
         case measure => have := HK1.out; omega
         case rel => exact ⟨(wrap64 (x7_1 + 1)), yq3, H', ⟨yq15 HK1.out⟩, yq11⟩
        rw [if_neg c12] at H
        have c12b0 : ((bt a0 x7_1) == 45) = false := beq_eq_false_iff_ne.mpr c12
        have c12b1 : ((bt a0 x7_1) != 45) = true := bne_iff_ne.mpr c12
        obtain rfl := Option.some.inj H
        have p5 : 0 ≤ (x7_1 : Int) := of_decide_eq_true yq1
        have q5 : x7_1 < (a0.size : Int) := of_decide_eq_true yq1
        have hx5 := bt_at a0 x7_1
        replace p5 := eq_true p5
        replace q5 := eq_true q5
        go_wp2
        go_ret
        exact ⟨yq3, yq11⟩
       rw [if_neg c8] at H
       have c8b0 : decide (0 < x7_1) = false := decide_eq_false c8
       clear c8; obtain rfl := Option.some.inj H
       have p5 : 0 ≤ (x7_1 : Int) := of_decide_eq_true yq1
       have q5 : x7_1 < (a0.size : Int) := of_decide_eq_true yq1
       have hx5 := bt_at a0 x7_1
       replace p5 := eq_true p5
       replace q5 := eq_true q5
       go_wp2
       go_ret
       exact ⟨yq3, yq11⟩
      rw [if_neg c6] at H
      have c6b0 : decide (97 ≤ (bt a0 x7_1)) = false := decide_eq_false c6
      clear c6
      by_cases c13 : x7_1 > 0
      ·rw [if_pos c13] at H
       have c13b0 : decide (0 < x7_1) = true := decide_eq_true c13
       clear c13
       by_cases c14 : (bt a0 x7_1) ≥ 48
       ·rw [if_pos c14] at H
        have c14b0 : decide (48 ≤ (bt a0 x7_1)) = true := decide_eq_true c14
        clear c14
        by_cases c15 : (bt a0 x7_1) ≤ 57
        ·rw [if_pos c15] at H
         have c15b0 : decide ((bt a0 x7_1) ≤ 57) = true := decide_eq_true c15
         clear c15; have H' := zaa.mk H; clear H
         have p5 : 0 ≤ (x7_1 : Int) := of_decide_eq_true yq1
         have q5 : x7_1 < (a0.size : Int) := of_decide_eq_true yq1
         have hx5 := bt_at a0 x7_1
         replace p5 := eq_true p5
         replace q5 := eq_true q5
         go_wp2
         go_roundg k1
         case measure => have := HK1.out; omega
         case rel => exact ⟨(wrap64 (x7_1 + 1)), yq3, H', ⟨yq15 HK1.out⟩, yq11⟩
        rw [if_neg c15] at H
        have c15b0 : decide ((bt a0 x7_1) ≤ 57) = false := decide_eq_false c15
        clear c15
        by_cases c16 : (bt a0 x7_1) = 45
        ·rw [if_pos c16] at H
         have c16b0 : ((bt a0 x7_1) == 45) = true := beq_iff_eq.mpr c16
         have c16b1 : ((bt a0 x7_1) != 45) = false := bne_eq_false_iff_eq.mpr c16
         clear c16; have H' := zaa.mk H; clear H
         have p5 : 0 ≤ (x7_1 : Int) := of_decide_eq_true yq1
         have q5 : x7_1 < (a0.size : Int) := of_decide_eq_true yq1
         have hx5 := bt_at a0 x7_1
         replace p5 := eq_true p5
         replace q5 := eq_true q5
         go_wp2
         go_roundg k1
         case measure => have := HK1.out; omega
         case rel => exact ⟨(wrap64 (x7_1 + 1)), yq3, H', ⟨yq15 HK1.out⟩, yq11⟩
        rw [if_neg c16] at H
        have c16b0 : ((bt a0 x7_1) == 45) = false := beq_eq_false_iff_ne.mpr c16
        have c16b1 : ((bt a0 x7_1) != 45) = true := bne_iff_ne.mpr c16
        obtain rfl := Option.some.inj H
        have p5 : 0 ≤ (x7_1 : Int) := of_decide_eq_true yq1
        have q5 : x7_1 < (a0.size : Int) := of_decide_eq_true yq1
        have hx5 := bt_at a0 x7_1
        replace p5 := eq_true p5
        replace q5 := eq_true q5
        go_wp2
        go_ret
        exact ⟨yq3, yq11⟩
       rw [if_neg c14] at H
       have c14b0 : decide (48 ≤ (bt a0 x7_1)) = false := decide_eq_false c14
       clear c14
       by_cases c17 : (bt a0 x7_1) = 45
       ·rw [if_pos c17] at H
        have c17b0 : ((bt a0 x7_1) == 45) = true := beq_iff_eq.mpr c17
        have c17b1 : ((bt a0 x7_1) != 45) = false := bne_eq_false_iff_eq.mpr c17
        clear c17; have H' := zaa.mk H; clear H
        have p5 : 0 ≤ (x7_1 : Int) := of_decide_eq_true yq1
        have q5 : x7_1 < (a0.size : Int) := of_decide_eq_true yq1
        have hx5 := bt_at a0 x7_1
        replace p5 := eq_true p5
        replace q5 := eq_true q5
        go_wp2
        go_roundg k1
        case measure => have := HK1.out; omega
        case rel => exact ⟨(wrap64 (x7_1 + 1)), yq3, H', ⟨yq15 HK1.out⟩, yq11⟩
       rw [if_neg c17] at H
       have c17b0 : ((bt a0 x7_1) == 45) = false := beq_eq_false_iff_ne.mpr c17
       have c17b1 : ((bt a0 x7_1) != 45) = true := bne_iff_ne.mpr c17
       obtain rfl := Option.some.inj H
       have p5 : 0 ≤ (x7_1 : Int) := of_decide_eq_true yq1
       have q5 : x7_1 < (a0.size : Int) := of_decide_eq_true yq1
       have hx5 := bt_at a0 x7_1
       replace p5 := eq_true p5
       replace q5 := eq_true q5
       go_wp2
       go_ret
       exact ⟨yq3, yq11⟩
      rw [if_neg c13] at H
      have c13b0 : decide (0 < x7_1) = false := decide_eq_false c13
      clear c13; obtain rfl := Option.some.inj H
      have p5 : 0 ≤ (x7_1 : Int) := of_decide_eq_true yq1
      have q5 : x7_1 < (a0.size : Int) := of_decide_eq_true yq1
      have hx5 := bt_at a0 x7_1
      replace p5 := eq_true p5
      replace q5 := eq_true q5
      go_wp2
      go_ret
      exact ⟨yq3, yq11⟩
     rw [if_neg c4] at H
     exact absurd H yq21
    rw [if_neg c3] at H
    exact absurd H yq21
   rw [if_neg c2] at H
   have c2b0 : decide (x7_1 < (a0.size : Int)) = false := decide_eq_false c2
   clear c2
   by_cases c18 : (a0.size : Int) ≥ 1
   ·rw [if_pos c18] at H
    have c18b0 : decide (1 ≤ (a0.size : Int)) = true := decide_eq_true c18
    have c18b1 : decide (1 ≤ a0.size) = true := decide_eq_true yq9
    clear c18; obtain rfl := Option.some.inj H
    go_wp2
    go_ret
    exact ⟨yq3, yq11⟩
   rw [if_neg c18] at H
   have c18b0 : decide (1 ≤ (a0.size : Int)) = false := decide_eq_false c18
   have c18b1 : decide (1 ≤ a0.size) = false := decide_eq_false yq9
   clear c18; obtain rfl := Option.some.inj H
   go_wp2
   go_ret
   exact ⟨yq3, yq11⟩
end Go.Proofs.YtfafjbolmeimmaaGreatDoor.P
namespace Go.Proofs.YtfafjbolmeimmaaGreatDoor.P
open Go.RowKit Go.Proofs.YtfafjbolmeimmaaGreatDoorW.PrintWords Go.Proofs.YtfafjbolmeimmaaGreatDoorW.PrintLast Go.Proofs.YtfafjbolmeimmaaGreatDoorW.PrintMore
attribute [local go_sem] zbm zbn max_two min_two za9 za8 zbk zbj
set_option linter.unusedVariables false
set_option linter.unusedSimpArgs false
def zae (w0 W : World) (g : Nat) (f0 : ByteArray) (f1 : Int) (f2 : Bool) : Prop := W.heap[g]? = some (.cells #[.string f0, .int .i64 f1, .bool f2] 119 (0, 0)) ∧ w0.heap.size ≤ g
theorem zae.grown {w0 W : World} {g : Nat} {f0 : ByteArray} {f1 : Int} {f2 : Bool} {W1 : World} {row : Option Nat} (h : zae w0 W g f0 f1 f2) (hw : W.grownBy W1 row) (hne : some g ≠ row) : zae w0 W1 g f0 f1 f2 := by
 obtain ⟨hb, hg⟩ := h
 exact ⟨blk_grown hb hw hne, hg⟩
theorem zae.below {w0 W : World} {g : Nat} {f0 : ByteArray} {f1 : Int} {f2 : Bool} {W1 : World} (h : zae w0 W g f0 f1 f2) (hw : Below W.heap.size W W1) : zae w0 W1 g f0 f1 f2 := h.grown (grown_of_below hw none) yq21
theorem zae.alloc {w0 W : World} {g : Nat} {f0 : ByteArray} {f1 : Int} {f2 : Bool} (h : zae w0 W g f0 f1 f2) (o : Obj) : zae w0 (W.alloc o) g f0 f1 f2 := h.below (zad (Below.refl _ _) o)
theorem zae.drewN {w0 W : World} {g : Nat} {f0 : ByteArray} {f1 : Int} {f2 : Bool} (h : zae w0 W g f0 f1 f2) (m : Nat) : zae w0 (W.drewN m) g f0 f1 f2 := h
theorem zae.drew {w0 W : World} {g : Nat} {f0 : ByteArray} {f1 : Int} {f2 : Bool} (h : zae w0 W g f0 f1 f2) : zae w0 W.drew g f0 f1 f2 := h
theorem zae.lt {w0 W : World} {g : Nat} {f0 : ByteArray} {f1 : Int} {f2 : Bool} (h : zae w0 W g f0 f1 f2) : g < W.heap.size := by
 obtain ⟨hb, hg⟩ := h
 exact blk_lt hb
theorem zae.ge {w0 W : World} {g : Nat} {f0 : ByteArray} {f1 : Int} {f2 : Bool} (h : zae w0 W g f0 f1 f2) : w0.heap.size ≤ g := by
 obtain ⟨hb, hg⟩ := h
 exact hg
theorem zae.far {w0 W : World} {g : Nat} {f0 : ByteArray} {f1 : Int} {f2 : Bool} {p : Addr} (h : zae w0 W g f0 f1 f2) (hne : g ≠ p.block) (u : Value) : zae w0 (W.setCell p u) g f0 f1 f2 := by
 obtain ⟨hb, hg⟩ := h
 exact ⟨blk_far hb hne u, hg⟩
theorem cellS119_0 {W : World} {g : Nat} {f0 : ByteArray} {f1 : Int} {f2 : Bool} (h : W.heap[g]? = some (.cells #[.string f0, .int .i64 f1, .bool f2] 119 (0, 0))) : W.cell? ⟨g, 0, none⟩ = some (.string f0) := (zal h 0).trans rfl
theorem zae.set_0 {w0 W : World} {g : Nat} {f0 : ByteArray} {f1 : Int} {f2 : Bool} (h : zae w0 W g f0 f1 f2) (x : ByteArray) : zae w0 (W.setCell ⟨g, 0, none⟩ (.string x)) g x f1 f2 := by
 obtain ⟨hb, hg⟩ := h
 exact ⟨by simpa using blk_set hb 0 (.string x), hg⟩
theorem cellS119_1 {W : World} {g : Nat} {f0 : ByteArray} {f1 : Int} {f2 : Bool} (h : W.heap[g]? = some (.cells #[.string f0, .int .i64 f1, .bool f2] 119 (0, 0))) : W.cell? ⟨g, 1, none⟩ = some (.int .i64 f1) := (zal h 1).trans rfl
theorem zae.set_1 {w0 W : World} {g : Nat} {f0 : ByteArray} {f1 : Int} {f2 : Bool} (h : zae w0 W g f0 f1 f2) (x : Int) : zae w0 (W.setCell ⟨g, 1, none⟩ (.int .i64 x)) g f0 x f2 := by
 obtain ⟨hb, hg⟩ := h
 exact ⟨by simpa using blk_set hb 1 (.int .i64 x), hg⟩
theorem cellS119_2 {W : World} {g : Nat} {f0 : ByteArray} {f1 : Int} {f2 : Bool} (h : W.heap[g]? = some (.cells #[.string f0, .int .i64 f1, .bool f2] 119 (0, 0))) : W.cell? ⟨g, 2, none⟩ = some (.bool f2) := (zal h 2).trans rfl
theorem zae.set_2 {w0 W : World} {g : Nat} {f0 : ByteArray} {f1 : Int} {f2 : Bool} (h : zae w0 W g f0 f1 f2) (x : Bool) : zae w0 (W.setCell ⟨g, 2, none⟩ (.bool x)) g f0 f1 x := by
 obtain ⟨hb, hg⟩ := h
 exact ⟨by simpa using blk_set hb 2 (.bool x), hg⟩
def spec_l04Reader_is.f (s0_0 : ByteArray) (s0_1 : Int) (s0_2 : Bool) (a1 : Int) : Option (Bool × ByteArray × Int × Bool) := if s0_2 = true then (some (false, s0_0, s0_1, s0_2)) else (if s0_1 < (s0_0.size : Int) then (if 0 ≤ s0_1 then (some (((bt s0_0 s0_1) == a1), s0_0, s0_1, s0_2)) else (none)) else (some (false, s0_0, s0_1, s0_2)))
set_option maxHeartbeats 8000000 in
set_option maxRecDepth 100000 in
theorem spec_l04Reader_is.calls (g : Nat) (s0_0 : ByteArray) (s0_1 : Int) (s0_2 : Bool) (a1 : Int) (r1 : Bool) (r2 : ByteArray) (r3 : Int) (r4 : Bool) (w0 w : World) (hI : zae w0 w g s0_0 s0_1 s0_2) (hB : Below w0.heap.size w0 w) (h : spec_l04Reader_is.f s0_0 s0_1 s0_2 a1 = some (r1, r2, r3, r4)) :
  Calls Tryz.prog 121 #[.pointer (some ⟨g, 0, none⟩), .int .u8 a1] w fun e w' => e = .returned (.bool r1) ∧ zae w0 w' g r2 r3 r4 ∧ Below w0.heap.size w0 w' ∧ KeepBut w w' g none := by
 have HI0 := zaa.mk hI
 have HK := zaa.mk (KeepBut.refl w g none)
 have HL := zaa.mk hB.size; clear hI; have HW0 := zaa.mk hB.size; have HB := zaa.mk hB; clear hB
 have H : (if s0_2 = true then (some (false, s0_0, s0_1, s0_2)) else (if s0_1 < (s0_0.size : Int) then (if 0 ≤ s0_1 then (some (((bt s0_0 s0_1) == a1), s0_0, s0_1, s0_2)) else (none)) else (some (false, s0_0, s0_1, s0_2)))) = some (r1, r2, r3, r4) := h
 clear h
 by_cases c3 : s0_2 = true
 ·subst c3
  replace H : (some (false, s0_0, s0_1, true)) = some (r1, r2, r3, r4) := by rw [if_pos rfl] at H; exact H
  simp only [Option.some.injEq, Prod.mk.injEq] at H
  obtain ⟨rfl, rfl, rfl, rfl⟩ := H
  obtain ⟨HGz4, hgz4⟩ := HI0.out
  have hcz4_0 := cellS119_0 HGz4
  have hcz4_1 := cellS119_1 HGz4
  have hcz4_2 := cellS119_2 HGz4
  have hfz4_0 := zah HGz4 0
  have hfz4_1 := zah HGz4 1
  have hfz4_2 := zah HGz4 2
  clear HGz4 hgz4
  go_enter Tryz.func121, Tryz.ntmps121
  go_wp2
  repeat (go_quiet (fail); try go_wp2)
  go_ret
  exact ⟨yq4, yq12 HI0.out, yq13 HB.out HI0.out, yq6 HK.out⟩
 replace c3 := Bool.eq_false_iff.mpr c3
 subst c3
 replace H : (if s0_1 < (s0_0.size : Int) then (if 0 ≤ s0_1 then (some (((bt s0_0 s0_1) == a1), s0_0, s0_1, false)) else (none)) else (some (false, s0_0, s0_1, false))) = some (r1, r2, r3, r4) := by rw [if_neg (show ¬ (false = true) by decide)] at H; exact H
 by_cases c5 : s0_1 < (s0_0.size : Int)
 ·rw [if_pos c5] at H
  have c5b0 : decide (s0_1 < (s0_0.size : Int)) = true := decide_eq_true c5
  clear c5
  by_cases c6 : 0 ≤ s0_1
  ·rw [if_pos c6] at H
   have c6b0 : decide (0 ≤ s0_1) = true := decide_eq_true c6
   clear c6
   simp only [Option.some.injEq, Prod.mk.injEq] at H
   obtain ⟨rfl, rfl, rfl, rfl⟩ := H
   obtain ⟨HGz8, hgz8⟩ := HI0.out
   have hcz8_0 := cellS119_0 HGz8
   have hcz8_1 := cellS119_1 HGz8
   have hcz8_2 := cellS119_2 HGz8
   have hfz8_0 := zah HGz8 0
   have hfz8_1 := zah HGz8 1
   have hfz8_2 := zah HGz8 2
   clear HGz8 hgz8
   have p7 : 0 ≤ (s0_1 : Int) := of_decide_eq_true yq1
   have q7 : s0_1 < (s0_0.size : Int) := of_decide_eq_true yq1
   have hx7 := bt_at s0_0 s0_1
   replace p7 := eq_true p7
   replace q7 := eq_true q7
   go_enter Tryz.func121, Tryz.ntmps121
   go_wp2
   repeat (go_quiet (fail); try go_wp2)
   go_ret
   exact ⟨yq4, yq12 HI0.out, yq13 HB.out HI0.out, yq6 HK.out⟩
  rw [if_neg c6] at H
  exact absurd H yq21
 rw [if_neg c5] at H
 have c5b0 : decide (s0_1 < (s0_0.size : Int)) = false := decide_eq_false c5
 clear c5
 simp only [Option.some.injEq, Prod.mk.injEq] at H
 obtain ⟨rfl, rfl, rfl, rfl⟩ := H
 obtain ⟨HGz9, hgz9⟩ := HI0.out
 have hcz9_0 := cellS119_0 HGz9
 have hcz9_1 := cellS119_1 HGz9
 have hcz9_2 := cellS119_2 HGz9
 have hfz9_0 := zah HGz9 0
 have hfz9_1 := zah HGz9 1
 have hfz9_2 := zah HGz9 2
 clear HGz9 hgz9
 go_enter Tryz.func121, Tryz.ntmps121
 go_wp2
 repeat (go_quiet (fail); try go_wp2)
 go_ret
 exact ⟨yq4, yq12 HI0.out, yq13 HB.out HI0.out, yq6 HK.out⟩
def zav.f (s0_0 : ByteArray) (s0_1 : Int) (s0_2 : Bool) (a1 : Int) : Option (Bool × ByteArray × Int × Bool) := (spec_l04Reader_is.f s0_0 s0_1 s0_2 a1).bind fun bt181 => (if bt181.1 = true then (some (true, bt181.2.1, wrap64 (bt181.2.2.1 + 1), bt181.2.2.2)) else (some (false, bt181.2.1, bt181.2.2.1, bt181.2.2.2)))
set_option maxHeartbeats 8000000 in
set_option maxRecDepth 100000 in
theorem zav.calls (g : Nat) (s0_0 : ByteArray) (s0_1 : Int) (s0_2 : Bool) (a1 : Int) (r1 : Bool) (r2 : ByteArray) (r3 : Int) (r4 : Bool) (w0 w : World) (hI : zae w0 w g s0_0 s0_1 s0_2) (hB : Below w0.heap.size w0 w) (h : zav.f s0_0 s0_1 s0_2 a1 = some (r1, r2, r3, r4)) :
  Calls Tryz.prog 100 #[.pointer (some ⟨g, 0, none⟩), .int .u8 a1] w fun e w' => e = .returned (.bool r1) ∧ zae w0 w' g r2 r3 r4 ∧ Below w0.heap.size w0 w' ∧ KeepBut w w' g none := by
 have HI0 := zaa.mk hI
 have HK := zaa.mk (KeepBut.refl w g none)
 have HL := zaa.mk hB.size; clear hI; have HW0 := zaa.mk hB.size; have HB := zaa.mk hB; clear hB
 have H : ((spec_l04Reader_is.f s0_0 s0_1 s0_2 a1).bind fun bt181 => (if bt181.1 = true then (some (true, bt181.2.1, wrap64 (bt181.2.2.1 + 1), bt181.2.2.2)) else (some (false, bt181.2.1, bt181.2.2.1, bt181.2.2.2)))) = some (r1, r2, r3, r4) := h
 clear h; replace H := Option.bind_eq_some_iff.mp H
 obtain ⟨⟨t181, t182, t183, t184⟩, A30, H⟩ := H
 replace H : (if t181 = true then (some (true, t182, wrap64 (t183 + 1), t184)) else (some (false, t182, t183, t184))) = some (r1, r2, r3, r4) := H
 have A3 := zaa.mk A30; clear A30
 by_cases c4 : t181 = true
 ·subst c4
  replace H : (some (true, t182, wrap64 (t183 + 1), t184)) = some (r1, r2, r3, r4) := by rw [if_pos rfl] at H; exact H
  simp only [Option.some.injEq, Prod.mk.injEq] at H
  obtain ⟨rfl, rfl, rfl, rfl⟩ := H
  go_enter Tryz.func100, Tryz.ntmps100
  go_wp2_with (first | ((with_reducible refine zaD (f := 121) rfl ?_); refine zbr (some 7) rfl rfl Tryz.func121 yq10 rfl #[.pointer (some ⟨g, 0, none⟩), .int .u8 a1] rfl yq2 ?_; (with_reducible refine (spec_l04Reader_is.calls g s0_0 s0_1 s0_2 a1 true t182 t183 t184 w0 _ ?side1 ?side2 A3.out).mono ?_); (case side1 => repeat (first | (with_reducible first | exact HI0.out | apply zae.alloc | apply zae.drewN | apply zae.drew | apply zae.set_0 | apply zae.set_1 | apply zae.set_2) | exact HI0.out)); (case side2 => repeat (first | (with_reducible first | exact HB.out | apply zad | apply zab | apply zac | refine zai ?_ (zae.ge HI0.out)) | exact HB.out)); rintro e w5 ⟨rfl, hi, hb, hk⟩; refine ⟨_, rfl, ?_⟩; have n0_ := zaa.mk (KeepBut.trans (yq6 HK.out) hk (.inl rfl)); have n1_ := zaa.mk (hb); have n2_ := zaa.mk (hi); clear HK HB HI0; have HK := n0_; have HB := n1_; have HI0 := n2_; clear n0_ n1_ n2_; (try clear hb); (try clear hb2); (try clear hk); (try clear hi); obtain ⟨HGz6, hgz6⟩ := HI0.out; have hcz6_0 := cellS119_0 HGz6; have hcz6_1 := cellS119_1 HGz6; have hcz6_2 := cellS119_2 HGz6; have hfz6_0 := zah HGz6 0; have hfz6_1 := zah HGz6 1; have hfz6_2 := zah HGz6 2; clear HGz6 hgz6))
  go_ret
  exact ⟨yq4, yq12 HI0.out, yq13 HB.out HI0.out, yq6 HK.out⟩
 replace c4 := Bool.eq_false_iff.mpr c4
 subst c4
 replace H : (some (false, t182, t183, t184)) = some (r1, r2, r3, r4) := by rw [if_neg (show ¬ (false = true) by decide)] at H; exact H
 simp only [Option.some.injEq, Prod.mk.injEq] at H
 obtain ⟨rfl, rfl, rfl, rfl⟩ := H
 go_enter Tryz.func100, Tryz.ntmps100
 go_wp2_with (first | ((with_reducible refine zaD (f := 121) rfl ?_); refine zbr (some 7) rfl rfl Tryz.func121 yq10 rfl #[.pointer (some ⟨g, 0, none⟩), .int .u8 a1] rfl yq2 ?_; (with_reducible refine (spec_l04Reader_is.calls g s0_0 s0_1 s0_2 a1 false t182 t183 t184 w0 _ ?side1 ?side2 A3.out).mono ?_); (case side1 => repeat (first | (with_reducible first | exact HI0.out | apply zae.alloc | apply zae.drewN | apply zae.drew | apply zae.set_0 | apply zae.set_1 | apply zae.set_2) | exact HI0.out)); (case side2 => repeat (first | (with_reducible first | exact HB.out | apply zad | apply zab | apply zac | refine zai ?_ (zae.ge HI0.out)) | exact HB.out)); rintro e w7 ⟨rfl, hi, hb, hk⟩; refine ⟨_, rfl, ?_⟩; have n0_ := zaa.mk (KeepBut.trans (yq6 HK.out) hk (.inl rfl)); have n1_ := zaa.mk (hb); have n2_ := zaa.mk (hi); clear HK HB HI0; have HK := n0_; have HB := n1_; have HI0 := n2_; clear n0_ n1_ n2_; (try clear hb); (try clear hb2); (try clear hk); (try clear hi)))
 go_ret
 exact ⟨yq4, yq12 HI0.out, yq13 HB.out HI0.out, yq6 HK.out⟩
end Go.Proofs.YtfafjbolmeimmaaGreatDoor.P
