/- Parts of a proof: words of the print tool that this claim uses, or plain lists. -/
import Derived.Test.YtfafjbolmeimmaaGreatDoorF4
import Derived.Test.YtfafjbolmeimmaaGreatDoorF12
import Derived.Test.YtfafjbolmeimmaaGreatDoorF9
import Derived.Test.YtfafjbolmeimmaaGreatDoorF5
import Derived.Lib.CountLaws
import Derived.Lib.IndexBytes
import Derived.Lib.IndexMore
namespace Go.Proofs.YtfafjbolmeimmaaGreatDoor.P
open Go.RowKit Go.Proofs.YtfafjbolmeimmaaGreatDoorW.PrintWords Go.Proofs.YtfafjbolmeimmaaGreatDoorW.PrintLast Go.Proofs.YtfafjbolmeimmaaGreatDoorW.PrintMore
attribute [local go_sem] max2_int min2_int max_two min_two zbk zbl max_four min_four
set_option linter.unusedVariables false
set_option linter.unusedSimpArgs false
def zaW.l0 : Nat → ByteArray → ByteArray → Int → Int → Option (Int)
 | 0, _, _, _, _ => none
 | k + 1, x0, x1, x5, x6 => if (wrap64 (x6 + (x1.size : Int))) ≤ (x0.size : Int) then (if 0 ≤ x6 then (if x6 ≤ (wrap64 (x6 + (x1.size : Int))) then (if (x0.extract (x6 : Int).toNat ((wrap64 (x6 + (x1.size : Int))) : Int).toNat).toList = x1.toList then (zaW.l0 k x0 x1 (wrap64 (x5 + 1)) (wrap64 (x6 + 1))) else (zaW.l0 k x0 x1 x5 (wrap64 (x6 + 1)))) else (none)) else (none)) else (some x5)
def zaW.f (k : Nat) (a0 : ByteArray) (a1 : ByteArray) : Option (Int) := zaW.l0 k a0 a1 0 0
set_option maxHeartbeats 8000000 in
set_option maxRecDepth 100000 in
theorem zaW.calls (k : Nat) (a0 : ByteArray) (a1 : ByteArray) (r : Int) (w : World) (h : zaW.f k a0 a1 = some r) :
  Calls Tryz.prog 72 #[.string a0, .string a1] w fun e w' => e = .returned (.int .i64 r) ∧ zau w w' := by
 have H : (zaW.l0 k a0 a1 0 0) = some r := h
 clear h; have H' := zab.mk H; clear H
 go_enter Tryz.func72, Tryz.ntmps72
 go_wp2
 go_loopg [5, 6] k (fun kq v5 v6 w' => ∃ (x5_1 : Int) (x6_1 : Int), v5 = .int .i64 x5_1 ∧ v6 = .int .i64 x6_1 ∧ zab (zaW.l0 kq a0 a1 x5_1 x6_1 = some r) ∧ zab (kq ≤ k) ∧ zau w w')
 case atStart => exact ⟨(0), (0), (by first | rfl | (simp; done) | (simp [*]; done)), (by first | rfl | (simp; done) | (simp [*]; done)), H', ⟨Nat.le_refl _⟩, by repeat (first | exact zau.refl _ | apply zau.step)⟩
 case round =>
  clear H'
  obtain ⟨x5_1, x6_1, rfl, rfl, HA, HK1, ⟨m1, rfl⟩⟩ := hrel
  cases gk with
  | zero => exact absurd HA.out (by simp [zaW.l0])
  | succ k1 =>
   have H := HA.out; clear HA
   simp only [zaW.l0] at H
   by_cases c3 : (wrap64 (x6_1 + (a1.size : Int))) ≤ (a0.size : Int)
   ·rw [if_pos c3] at H
    have c3b0 : decide ((wrap64 (x6_1 + (a1.size : Int))) ≤ (a0.size : Int)) = true := decide_eq_true c3
    clear c3
    by_cases c4 : 0 ≤ x6_1
    ·rw [if_pos c4] at H
     have c4b0 := eq_true c4
     have c4b1 : decide (0 ≤ x6_1) = true := decide_eq_true c4
     clear c4
     by_cases c5 : x6_1 ≤ (wrap64 (x6_1 + (a1.size : Int)))
     ·rw [if_pos c5] at H
      have c5b0 := eq_true c5
      have c5b1 : decide (x6_1 ≤ (wrap64 (x6_1 + (a1.size : Int)))) = true := decide_eq_true c5
      have c6b0 := eq_true (of_decide_eq_true (by first | (with_reducible assumption) | assumption) : (wrap64 (x6_1 + (a1.size : Int))) ≤ (a0.size : Int))
      by_cases c7 : (a0.extract (x6_1 : Int).toNat ((wrap64 (x6_1 + (a1.size : Int))) : Int).toNat).toList = a1.toList
      ·rw [if_pos c7] at H
       have c7b0 : ((a0.extract (x6_1 : Int).toNat ((wrap64 (x6_1 + (a1.size : Int))) : Int).toNat).toList == a1.toList) = true := beq_iff_eq.mpr c7
       have c7b1 : ((a0.extract (x6_1 : Int).toNat ((wrap64 (x6_1 + (a1.size : Int))) : Int).toNat).toList != a1.toList) = false := bne_eq_false_iff_eq.mpr c7
       clear c7; have H' := zab.mk H; clear H
       go_wp2
       go_roundg k1
       case measure => have := HK1.out; omega
       case rel => exact ⟨(wrap64 (x5_1 + 1)), (wrap64 (x6_1 + 1)), (by first | rfl | (simp; done) | (simp [*]; done)), (by first | rfl | (simp; done) | (simp [*]; done)), H', ⟨by have := HK1.out; omega⟩, by repeat (first | exact zau.refl _ | apply zau.step)⟩
      rw [if_neg c7] at H
      have c7b0 : ((a0.extract (x6_1 : Int).toNat ((wrap64 (x6_1 + (a1.size : Int))) : Int).toNat).toList == a1.toList) = false := beq_eq_false_iff_ne.mpr c7
      have c7b1 : ((a0.extract (x6_1 : Int).toNat ((wrap64 (x6_1 + (a1.size : Int))) : Int).toNat).toList != a1.toList) = true := bne_iff_ne.mpr c7
      have H' := zab.mk H; clear H
      go_wp2
      go_roundg k1
      case measure => have := HK1.out; omega
      case rel => exact ⟨(x5_1), (wrap64 (x6_1 + 1)), (by first | rfl | (simp; done) | (simp [*]; done)), (by first | rfl | (simp; done) | (simp [*]; done)), H', ⟨by have := HK1.out; omega⟩, by repeat (first | exact zau.refl _ | apply zau.step)⟩
     rw [if_neg c5] at H
     exact absurd H (by simp)
    rw [if_neg c4] at H
    exact absurd H (by simp)
   rw [if_neg c3] at H
   have c3b0 : decide ((wrap64 (x6_1 + (a1.size : Int))) ≤ (a0.size : Int)) = false := decide_eq_false c3
   clear c3; obtain rfl := Option.some.inj H
   go_wp2
   go_ret
   exact ⟨by first | rfl | (simp; done) | (simp [*]; done), by repeat (first | exact zau.refl _ | apply zau.step)⟩
def zaX.l0 : Nat → ByteArray → ByteArray → Int → Option (Int)
 | 0, _, _, _ => none
 | k + 1, x0, x1, x5 => if (wrap64 (x5 + (x1.size : Int))) ≤ (x0.size : Int) then (if 0 ≤ x5 then (if x5 ≤ (wrap64 (x5 + (x1.size : Int))) then (if (x0.extract (x5 : Int).toNat ((wrap64 (x5 + (x1.size : Int))) : Int).toNat).toList = x1.toList then (some x5) else (zaX.l0 k x0 x1 (wrap64 (x5 + 1)))) else (none)) else (none)) else (some (-1))
def zaX.f (k : Nat) (a0 : ByteArray) (a1 : ByteArray) : Option (Int) := zaX.l0 k a0 a1 0
set_option maxHeartbeats 8000000 in
set_option maxRecDepth 100000 in
theorem zaX.calls (k : Nat) (a0 : ByteArray) (a1 : ByteArray) (r : Int) (w : World) (h : zaX.f k a0 a1 = some r) :
  Calls Tryz.prog 73 #[.string a0, .string a1] w fun e w' => e = .returned (.int .i64 r) ∧ zau w w' := by
 have H : (zaX.l0 k a0 a1 0) = some r := h
 clear h; have H' := zab.mk H; clear H
 go_enter Tryz.func73, Tryz.ntmps73
 go_wp2
 go_loopg [5] k (fun kq v5 w' => ∃ (x5_1 : Int), v5 = .int .i64 x5_1 ∧ zab (zaX.l0 kq a0 a1 x5_1 = some r) ∧ zab (kq ≤ k) ∧ zau w w')
 case atStart => exact ⟨(0), (by first | rfl | (simp; done) | (simp [*]; done)), H', ⟨Nat.le_refl _⟩, by repeat (first | exact zau.refl _ | apply zau.step)⟩
 case round =>
  clear H'
  obtain ⟨x5_1, rfl, HA, HK1, ⟨m1, rfl⟩⟩ := hrel
  cases gk with
  | zero => exact absurd HA.out (by simp [zaX.l0])
  | succ k1 =>
   have H := HA.out; clear HA
   simp only [zaX.l0] at H
   by_cases c3 : (wrap64 (x5_1 + (a1.size : Int))) ≤ (a0.size : Int)
   ·rw [if_pos c3] at H
    have c3b0 : decide ((wrap64 (x5_1 + (a1.size : Int))) ≤ (a0.size : Int)) = true := decide_eq_true c3
    clear c3
    by_cases c4 : 0 ≤ x5_1
    ·rw [if_pos c4] at H
     have c4b0 := eq_true c4
     have c4b1 : decide (0 ≤ x5_1) = true := decide_eq_true c4
     clear c4
     by_cases c5 : x5_1 ≤ (wrap64 (x5_1 + (a1.size : Int)))
     ·rw [if_pos c5] at H
      have c5b0 := eq_true c5
      have c5b1 : decide (x5_1 ≤ (wrap64 (x5_1 + (a1.size : Int)))) = true := decide_eq_true c5
      have c6b0 := eq_true (of_decide_eq_true (by first | (with_reducible assumption) | assumption) : (wrap64 (x5_1 + (a1.size : Int))) ≤ (a0.size : Int))
      by_cases c7 : (a0.extract (x5_1 : Int).toNat ((wrap64 (x5_1 + (a1.size : Int))) : Int).toNat).toList = a1.toList
      ·rw [if_pos c7] at H
       have c7b0 : ((a0.extract (x5_1 : Int).toNat ((wrap64 (x5_1 + (a1.size : Int))) : Int).toNat).toList == a1.toList) = true := beq_iff_eq.mpr c7
       have c7b1 : ((a0.extract (x5_1 : Int).toNat ((wrap64 (x5_1 + (a1.size : Int))) : Int).toNat).toList != a1.toList) = false := bne_eq_false_iff_eq.mpr c7
       clear c7; obtain rfl := Option.some.inj H
       go_wp2
       go_ret
       exact ⟨by first | rfl | (simp; done) | (simp [*]; done), by repeat (first | exact zau.refl _ | apply zau.step)⟩
      rw [if_neg c7] at H
      have c7b0 : ((a0.extract (x5_1 : Int).toNat ((wrap64 (x5_1 + (a1.size : Int))) : Int).toNat).toList == a1.toList) = false := beq_eq_false_iff_ne.mpr c7
      have c7b1 : ((a0.extract (x5_1 : Int).toNat ((wrap64 (x5_1 + (a1.size : Int))) : Int).toNat).toList != a1.toList) = true := bne_iff_ne.mpr c7
      have H' := zab.mk H; clear H
      go_wp2
      go_roundg k1
      case measure => have := HK1.out; omega
      case rel => exact ⟨(wrap64 (x5_1 + 1)), (by first | rfl | (simp; done) | (simp [*]; done)), H', ⟨by have := HK1.out; omega⟩, by repeat (first | exact zau.refl _ | apply zau.step)⟩
     rw [if_neg c5] at H
     exact absurd H (by simp)
    rw [if_neg c4] at H
    exact absurd H (by simp)
   rw [if_neg c3] at H
   have c3b0 : decide ((wrap64 (x5_1 + (a1.size : Int))) ≤ (a0.size : Int)) = false := decide_eq_false c3
   clear c3; obtain rfl := Option.some.inj H
   go_wp2
   go_ret
   exact ⟨by first | rfl | (simp; done) | (simp [*]; done), by repeat (first | exact zau.refl _ | apply zau.step)⟩
def spec_l17Frame.f (k : Nat) (a0 : ByteArray) : Option (Bool) := if a0.toList = ([] : List UInt8) then (some true) else (if (a0.size : Int) ≤ 50 then ((za2.f k a0).bind fun t175 => (if t175 = true then ((zaW.f k a0 (⟨#[123, 48, 125]⟩ : ByteArray)).bind fun t176 => (if t176 = 1 then ((zaW.f k a0 (⟨#[123, 49, 125]⟩ : ByteArray)).bind fun t177 => (if t177 = 1 then ((zaX.f k a0 (⟨#[123, 48, 125]⟩ : ByteArray)).bind fun t178 => ((zaX.f k a0 (⟨#[123, 49, 125]⟩ : ByteArray)).bind fun t179 => (some (decide (t178 < t179))))) else (some false))) else (some false))) else (some false))) else (some false))
set_option maxHeartbeats 8000000 in
set_option maxRecDepth 100000 in
theorem spec_l17Frame.calls (k : Nat) (a0 : ByteArray) (r : Bool) (w : World) (h : spec_l17Frame.f k a0 = some r) :
  Calls Tryz.prog 35 #[.string a0] w fun e w' => e = .returned (.bool r) ∧ Below w.heap.size w w' := by
 have HB := zab.mk (Below.refl w.heap.size w)
 have H : (if a0.toList = ([] : List UInt8) then (some true) else (if (a0.size : Int) ≤ 50 then ((za2.f k a0).bind fun t175 => (if t175 = true then ((zaW.f k a0 (⟨#[123, 48, 125]⟩ : ByteArray)).bind fun t176 => (if t176 = 1 then ((zaW.f k a0 (⟨#[123, 49, 125]⟩ : ByteArray)).bind fun t177 => (if t177 = 1 then ((zaX.f k a0 (⟨#[123, 48, 125]⟩ : ByteArray)).bind fun t178 => ((zaX.f k a0 (⟨#[123, 49, 125]⟩ : ByteArray)).bind fun t179 => (some (decide (t178 < t179))))) else (some false))) else (some false))) else (some false))) else (some false))) = some r := h
 clear h
 by_cases c2 : a0.toList = ([] : List UInt8)
 ·rw [if_pos c2] at H
  have c2b0 : (a0.toList == ([] : List UInt8)) = true := beq_iff_eq.mpr c2
  have c2b1 : (a0.toList != ([] : List UInt8)) = false := bne_eq_false_iff_eq.mpr c2
  clear c2; obtain rfl := Option.some.inj H
  go_enter Tryz.func35, Tryz.ntmps35
  go_wp2
  go_ret
  exact ⟨by first | rfl | (simp [zam, zan] <;> rfl) | (simp [*, zam, zan] <;> rfl), by repeat (first | (with_reducible first | exact HB.out | apply zaf | apply zac | apply zae) | exact HB.out)⟩
 rw [if_neg c2] at H
 have c2b0 : (a0.toList == ([] : List UInt8)) = false := beq_eq_false_iff_ne.mpr c2
 have c2b1 : (a0.toList != ([] : List UInt8)) = true := bne_iff_ne.mpr c2
 by_cases c3 : (a0.size : Int) ≤ 50
 ·rw [if_pos c3] at H
  have c3b0 : decide ((a0.size : Int) ≤ 50) = true := decide_eq_true c3
  have c3b1 : decide (a0.size ≤ 50) = true := decide_eq_true (by omega)
  clear c3; replace H := Option.bind_eq_some_iff.mp H
  obtain ⟨t175, A40, H⟩ := H
  replace H : (if t175 = true then ((zaW.f k a0 (⟨#[123, 48, 125]⟩ : ByteArray)).bind fun t176 => (if t176 = 1 then ((zaW.f k a0 (⟨#[123, 49, 125]⟩ : ByteArray)).bind fun t177 => (if t177 = 1 then ((zaX.f k a0 (⟨#[123, 48, 125]⟩ : ByteArray)).bind fun t178 => ((zaX.f k a0 (⟨#[123, 49, 125]⟩ : ByteArray)).bind fun t179 => (some (decide (t178 < t179))))) else (some false))) else (some false))) else (some false)) = some r := H
  have A4 := zab.mk A40; clear A40
  by_cases c5 : t175 = true
  ·subst c5
   replace H : ((zaW.f k a0 (⟨#[123, 48, 125]⟩ : ByteArray)).bind fun t176 => (if t176 = 1 then ((zaW.f k a0 (⟨#[123, 49, 125]⟩ : ByteArray)).bind fun t177 => (if t177 = 1 then ((zaX.f k a0 (⟨#[123, 48, 125]⟩ : ByteArray)).bind fun t178 => ((zaX.f k a0 (⟨#[123, 49, 125]⟩ : ByteArray)).bind fun t179 => (some (decide (t178 < t179))))) else (some false))) else (some false))) = some r := by rw [if_pos rfl] at H; exact H
   replace H := Option.bind_eq_some_iff.mp H
   obtain ⟨t176, A60, H⟩ := H
   replace H : (if t176 = 1 then ((zaW.f k a0 (⟨#[123, 49, 125]⟩ : ByteArray)).bind fun t177 => (if t177 = 1 then ((zaX.f k a0 (⟨#[123, 48, 125]⟩ : ByteArray)).bind fun t178 => ((zaX.f k a0 (⟨#[123, 49, 125]⟩ : ByteArray)).bind fun t179 => (some (decide (t178 < t179))))) else (some false))) else (some false)) = some r := H
   have A6 := zab.mk A60; clear A60
   by_cases c7 : t176 = 1
   ·rw [if_pos c7] at H
    have c7b0 : (t176 == 1) = true := beq_iff_eq.mpr c7
    have c7b1 : (t176 != 1) = false := bne_eq_false_iff_eq.mpr c7
    clear c7; replace H := Option.bind_eq_some_iff.mp H
    obtain ⟨t177, A80, H⟩ := H
    replace H : (if t177 = 1 then ((zaX.f k a0 (⟨#[123, 48, 125]⟩ : ByteArray)).bind fun t178 => ((zaX.f k a0 (⟨#[123, 49, 125]⟩ : ByteArray)).bind fun t179 => (some (decide (t178 < t179))))) else (some false)) = some r := H
    have A8 := zab.mk A80; clear A80
    by_cases c9 : t177 = 1
    ·rw [if_pos c9] at H
     have c9b0 : (t177 == 1) = true := beq_iff_eq.mpr c9
     have c9b1 : (t177 != 1) = false := bne_eq_false_iff_eq.mpr c9
     clear c9; replace H := Option.bind_eq_some_iff.mp H
     obtain ⟨t178, A100, H⟩ := H
     replace H : ((zaX.f k a0 (⟨#[123, 49, 125]⟩ : ByteArray)).bind fun t179 => (some (decide (t178 < t179)))) = some r := H
     have A10 := zab.mk A100; clear A100; replace H := Option.bind_eq_some_iff.mp H
     obtain ⟨t179, A110, H⟩ := H
     replace H : (some (decide (t178 < t179))) = some r := H
     have A11 := zab.mk A110; clear A110; obtain rfl := Option.some.inj H
     go_enter Tryz.func35, Tryz.ntmps35
     go_wp2_with (first | (go_at_call 37; (with_reducible refine (za2.calls k a0 true _ A4.out).mono ?_); rintro e w12 ⟨rfl, hb⟩; have n0_ := zab.mk (zaq (by repeat (first | (with_reducible first | exact HB.out | apply zaf | apply zac | apply zae) | exact HB.out)) hb); clear HB; have HB := n0_; clear n0_; (try clear hb); (try clear hb2); (try clear hk); (try clear hi)) | (go_at_call 72; (with_reducible refine (zaW.calls k a0 (⟨#[123, 48, 125]⟩ : ByteArray) t176 _ A6.out).mono ?_); rintro e w' ⟨rfl, ⟨nd, rfl⟩⟩) | (go_at_call 72; (with_reducible refine (zaW.calls k a0 (⟨#[123, 49, 125]⟩ : ByteArray) t177 _ A8.out).mono ?_); rintro e w' ⟨rfl, ⟨nd, rfl⟩⟩) | (go_at_call 73; (with_reducible refine (zaX.calls k a0 (⟨#[123, 48, 125]⟩ : ByteArray) t178 _ A10.out).mono ?_); rintro e w' ⟨rfl, ⟨nd, rfl⟩⟩) | (go_at_call 73; (with_reducible refine (zaX.calls k a0 (⟨#[123, 49, 125]⟩ : ByteArray) t179 _ A11.out).mono ?_); rintro e w' ⟨rfl, ⟨nd, rfl⟩⟩))
     go_ret
     exact ⟨by first | rfl | (simp [zam, zan] <;> rfl) | (simp [*, zam, zan] <;> rfl), by repeat (first | (with_reducible first | exact HB.out | apply zaf | apply zac | apply zae) | exact HB.out)⟩
    rw [if_neg c9] at H
    have c9b0 : (t177 == 1) = false := beq_eq_false_iff_ne.mpr c9
    have c9b1 : (t177 != 1) = true := bne_iff_ne.mpr c9
    obtain rfl := Option.some.inj H
    go_enter Tryz.func35, Tryz.ntmps35
    go_wp2_with (first | (go_at_call 37; (with_reducible refine (za2.calls k a0 true _ A4.out).mono ?_); rintro e w13 ⟨rfl, hb⟩; have n0_ := zab.mk (zaq (by repeat (first | (with_reducible first | exact HB.out | apply zaf | apply zac | apply zae) | exact HB.out)) hb); clear HB; have HB := n0_; clear n0_; (try clear hb); (try clear hb2); (try clear hk); (try clear hi)) | (go_at_call 72; (with_reducible refine (zaW.calls k a0 (⟨#[123, 48, 125]⟩ : ByteArray) t176 _ A6.out).mono ?_); rintro e w' ⟨rfl, ⟨nd, rfl⟩⟩) | (go_at_call 72; (with_reducible refine (zaW.calls k a0 (⟨#[123, 49, 125]⟩ : ByteArray) t177 _ A8.out).mono ?_); rintro e w' ⟨rfl, ⟨nd, rfl⟩⟩))
    go_ret
    exact ⟨by first | rfl | (simp [zam, zan] <;> rfl) | (simp [*, zam, zan] <;> rfl), by repeat (first | (with_reducible first | exact HB.out | apply zaf | apply zac | apply zae) | exact HB.out)⟩
   rw [if_neg c7] at H
   have c7b0 : (t176 == 1) = false := beq_eq_false_iff_ne.mpr c7
   have c7b1 : (t176 != 1) = true := bne_iff_ne.mpr c7
   obtain rfl := Option.some.inj H
   go_enter Tryz.func35, Tryz.ntmps35
   go_wp2_with (first | (go_at_call 37; (with_reducible refine (za2.calls k a0 true _ A4.out).mono ?_); rintro e w14 ⟨rfl, hb⟩; have n0_ := zab.mk (zaq (by repeat (first | (with_reducible first | exact HB.out | apply zaf | apply zac | apply zae) | exact HB.out)) hb); clear HB; have HB := n0_; clear n0_; (try clear hb); (try clear hb2); (try clear hk); (try clear hi)) | (go_at_call 72; (with_reducible refine (zaW.calls k a0 (⟨#[123, 48, 125]⟩ : ByteArray) t176 _ A6.out).mono ?_); rintro e w' ⟨rfl, ⟨nd, rfl⟩⟩))
   go_ret
   exact ⟨by first | rfl | (simp [zam, zan] <;> rfl) | (simp [*, zam, zan] <;> rfl), by repeat (first | (with_reducible first | exact HB.out | apply zaf | apply zac | apply zae) | exact HB.out)⟩
  replace c5 := Bool.eq_false_iff.mpr c5
  subst c5
  replace H : (some false) = some r := by rw [if_neg (show ¬ (false = true) by decide)] at H; exact H
  obtain rfl := Option.some.inj H
  go_enter Tryz.func35, Tryz.ntmps35
  go_wp2_with (first | (go_at_call 37; (with_reducible refine (za2.calls k a0 false _ A4.out).mono ?_); rintro e w15 ⟨rfl, hb⟩; have n0_ := zab.mk (zaq (by repeat (first | (with_reducible first | exact HB.out | apply zaf | apply zac | apply zae) | exact HB.out)) hb); clear HB; have HB := n0_; clear n0_; (try clear hb); (try clear hb2); (try clear hk); (try clear hi)))
  go_ret
  exact ⟨by first | rfl | (simp [zam, zan] <;> rfl) | (simp [*, zam, zan] <;> rfl), by repeat (first | (with_reducible first | exact HB.out | apply zaf | apply zac | apply zae) | exact HB.out)⟩
 rw [if_neg c3] at H
 have c3b0 : decide ((a0.size : Int) ≤ 50) = false := decide_eq_false c3
 have c3b1 : decide (a0.size ≤ 50) = false := decide_eq_false (by omega)
 clear c3; obtain rfl := Option.some.inj H
 go_enter Tryz.func35, Tryz.ntmps35
 go_wp2
 go_ret
 exact ⟨by first | rfl | (simp [zam, zan] <;> rfl) | (simp [*, zam, zan] <;> rfl), by repeat (first | (with_reducible first | exact HB.out | apply zaf | apply zac | apply zae) | exact HB.out)⟩
end Go.Proofs.YtfafjbolmeimmaaGreatDoor.P
namespace Go.Proofs.YtfafjbolmeimmaaGreatDoor.P
open Go.RowKit Go.Proofs.YtfafjbolmeimmaaGreatDoorW.PrintWords
set_option linter.unusedVariables false
def nmAt (s : ByteArray) (i : Nat) : Bool := decide ((97 ≤ bt s i ∧ bt s i ≤ 122) ∨ (0 < i ∧ ((48 ≤ bt s i ∧ bt s i ≤ 57) ∨ bt s i = 45)))
def nmFrom (s : ByteArray) (i : Nat) : Bool := (List.range' i (s.size - i)).all (nmAt s)
def nameB (s : ByteArray) : Bool := decide (1 ≤ s.size ∧ s.size ≤ 20) && nmFrom s 0
theorem nmFrom_lt {s : ByteArray} {i : Nat} (h : i < s.size) : nmFrom s i = (nmAt s i && nmFrom s (i + 1)) := by
 unfold nmFrom
 obtain ⟨n, hn⟩ : ∃ n, s.size - i = n + 1 := ⟨s.size - i - 1, by omega⟩
 rw [hn, show s.size - (i + 1) = n by omega, List.range'_succ, List.all_cons]
theorem nmFrom_ge {s : ByteArray} {i : Nat} (h : ¬ i < s.size) : nmFrom s i = true := by
 unfold nmFrom
 rw [show s.size - i = 0 by omega]
 rfl
theorem im_tree (b i : Int) (A : Option Bool) (c : Bool) (hc : c = decide ((97 ≤ b ∧ b ≤ 122) ∨ (0 < i ∧ ((48 ≤ b ∧ b ≤ 57) ∨ b = 45)))) :
  (if b ≥ 97 then (if b ≤ 122 then A else (if i > 0 then (if b ≥ 48 then (if b ≤ 57 then A else (if b = 45 then A else (some false))) else (if b = 45 then A else (some false))) else (some false))) else (if i > 0 then (if b ≥ 48 then (if b ≤ 57 then A else (if b = 45 then A else (some false))) else (if b = 45 then A else (some false))) else (some false))) = if c = true then A else some false := by
 subst hc
 simp only [decide_eq_true_eq]
 repeat' split
 all_goals first | rfl | (exfalso; omega)
theorem sm_tree (b i : Int) (hi : 0 < i) (A : Option Bool) (c : Bool) (hc : c = decide ((97 ≤ b ∧ b ≤ 122) ∨ (0 < i ∧ ((48 ≤ b ∧ b ≤ 57) ∨ b = 45)))) :
  (if b < 97 then (if b < 48 then (if b = 45 then A else (some false)) else (if b > 57 then (if b = 45 then A else (some false)) else A)) else (if b > 122 then (if b < 48 then (if b = 45 then A else (some false)) else (if b > 57 then (if b = 45 then A else (some false)) else A)) else A)) = if c = true then A else some false := by
 subst hc
 simp only [decide_eq_true_eq]
 repeat' split
 all_goals first | rfl | (exfalso; omega)
theorem nmAt_eq (s : ByteArray) (i : Nat) : nmAt s i = decide ((97 ≤ bt s (i : Int) ∧ bt s (i : Int) ≤ 122) ∨ (0 < (i : Int) ∧ ((48 ≤ bt s (i : Int) ∧ bt s (i : Int) ≤ 57) ∨ bt s (i : Int) = 45))) := by
 unfold nmAt
 exact decide_eq_decide.2 (by omega)
theorem isName_l (s : ByteArray) (hs : s.size ≤ 1099511627776) : ∀ (d i : Nat), s.size - i = d → i ≤ s.size → Ev (fun k => zbi.l0 k s (s.size : Int) (i : Int)) (nmFrom s i && decide (1 ≤ s.size ∧ s.size ≤ 20)) := by
 intro d
 induction d with
 | zero =>
  intro i hd hi
  refine Ev.step (fun k => by rw [zbi.l0]) ?_
  refine Ev.neg (by omega) ?_
  rw [nmFrom_ge (by omega), Bool.true_and]
  by_cases h : (s.size : Int) ≥ 1
  ·refine Ev.pos h ((Ev.now _).to ?_)
   exact decide_eq_decide.2 (by omega)
  refine Ev.neg h ((Ev.now _).to ?_)
  exact (decide_eq_false (by omega)).symm
 | succ d ih =>
  intro i hd hi
  refine Ev.step (fun k => by rw [zbi.l0]) ?_
  refine Ev.pos (by omega) (Ev.pos (by omega) (Ev.pos (by omega) ?_))
  refine Ev.congr (fun k => im_tree (bt s (i : Int)) (i : Int) _ (nmAt s i) (nmAt_eq s i)) ?_
  rw [nmFrom_lt (by omega)]
  cases h : nmAt s i with
  | true =>
   refine Ev.pos rfl ?_
   rw [w_succ i (by omega), Bool.true_and]
   exact ih (i + 1) (by omega) (by omega)
  | false => exact Ev.neg (by simp) ((Ev.now _).to rfl)
theorem isName_ev (s : ByteArray) (hs : s.size ≤ 1099511627776) : Ev (fun k => zbi.f k s) (nameB s) :=
 (isName_l s hs _ 0 rfl (by omega)).to (by unfold nameB; rw [Bool.and_comm])
theorem sName_l (s : ByteArray) (hs : s.size ≤ 1099511627776) : ∀ (d i : Nat), s.size - i = d → 1 ≤ i → i ≤ s.size → Ev (fun k => zaF.l0 k s (i : Int)) (nmFrom s i) := by
 intro d
 induction d with
 | zero =>
  intro i hd h1 hi
  refine Ev.step (fun k => by rw [zaF.l0]) ?_
  refine Ev.neg (by omega) ((Ev.now _).to ?_)
  rw [nmFrom_ge (by omega)]
 | succ d ih =>
  intro i hd h1 hi
  refine Ev.step (fun k => by rw [zaF.l0]) ?_
  refine Ev.pos (by omega) (Ev.pos (by omega) ?_)
  refine Ev.congr (fun k => sm_tree (bt s (i : Int)) (i : Int) (by omega) _ (nmAt s i) (nmAt_eq s i)) ?_
  rw [nmFrom_lt (by omega)]
  cases h : nmAt s i with
  | true =>
   refine Ev.pos rfl ?_
   rw [w_succ i (by omega), Bool.true_and]
   exact ih (i + 1) (by omega) (by omega) (by omega)
  | false => exact Ev.neg (by simp) ((Ev.now _).to rfl)
theorem sName_ev (s : ByteArray) (hs : s.size ≤ 1099511627776) : Ev (fun k => zaF.f k s) (nameB s) := by
 unfold zaF.f nameB
 by_cases h1 : (s.size : Int) < 1
 ·refine Ev.pos h1 (Ev.step (fun k => by rw [zaF.j0]) (Ev.pos rfl ((Ev.now _).to ?_)))
  rw [decide_eq_false (by omega), Bool.false_and]
 refine Ev.neg h1 ?_
 by_cases h2 : (s.size : Int) > 20
 ·refine Ev.pos h2 (Ev.step (fun k => by rw [zaF.j0]) (Ev.pos rfl ((Ev.now _).to ?_)))
  rw [decide_eq_false (by omega), Bool.false_and]
 refine Ev.neg h2 (Ev.pos (by omega) ?_)
 rw [show decide (1 ≤ s.size ∧ s.size ≤ 20) = true from decide_eq_true (by omega), Bool.true_and, nmFrom_lt (by omega)]
 have e0 : nmAt s 0 = decide (97 ≤ bt s 0 ∧ bt s 0 ≤ 122) := decide_eq_decide.2 ⟨fun h => h.elim id (fun h => absurd h.1 (Nat.lt_irrefl 0)), Or.inl⟩
 rw [e0]
 by_cases h3 : bt s 0 < 97
 ·refine Ev.pos h3 (Ev.step (fun k => by rw [zaF.j0]) (Ev.pos rfl ((Ev.now _).to ?_)))
  rw [decide_eq_false (by omega), Bool.false_and]
 refine Ev.neg h3 (Ev.step (fun k => by rw [zaF.j0]) ?_)
 by_cases h4 : bt s 0 > 122
 ·refine Ev.pos (decide_eq_true h4) ((Ev.now _).to ?_)
  rw [decide_eq_false (by omega), Bool.false_and]
 refine Ev.neg (by simpa using h4) ?_
 rw [show decide (97 ≤ bt s 0 ∧ bt s 0 ≤ 122) = true from decide_eq_true (by omega), Bool.true_and]
 exact sName_l s hs _ 1 rfl (by omega) (by omega)
def stB (a b : ByteArray) : Bool := if (a.size : Int) ≥ (b.size : Int) then (a.extract 0 ((b.size : Int) : Int).toNat).toList == b.toList else false
theorem starts_f (a b : ByteArray) : zbn.f a b = some (stB a b) := by
 unfold zbn.f stB
 split
 ·first | rfl | (rw [if_pos (by omega), if_pos (by omega)])
 rfl
theorem prefix_f (a b : ByteArray) : strings_HasPrefix.f a b = some (stB a b) := by
 show (stringslite_HasPrefix.f a b).bind (fun t => some t) = _
 have : stringslite_HasPrefix.f a b = some (stB a b) := by
  unfold stringslite_HasPrefix.f stB
  split
  ·first | rfl | (rw [if_pos (by omega), if_pos (by omega)])
  rfl
 rw [this]
 rfl
def begB (a b : ByteArray) : Bool := stB a b || stB b a
theorem begins_f (a b : ByteArray) : impl_begins.f a b = some (begB a b) := by
 unfold impl_begins.f begB
 rw [prefix_f, prefix_f]
 cases stB a b <;> rfl
def nilB (a : ByteArray) : Bool := a.toList == ([] : List UInt8)
def apartB (a b : ByteArray) : Bool := nilB a || nilB b || !begB a b
theorem apart_f (a b : ByteArray) : spec_l17Apart.f a b = some (apartB a b) := by
 unfold spec_l17Apart.f apartB begB nilB
 by_cases h1 : a.toList = ([] : List UInt8)
 ·rw [if_pos h1, beq_iff_eq.2 h1]; rfl
 rw [if_neg h1, beq_eq_false_iff_ne.2 h1]
 by_cases h2 : b.toList = ([] : List UInt8)
 ·rw [if_pos h2, beq_iff_eq.2 h2]; rfl
 rw [if_neg h2, beq_eq_false_iff_ne.2 h2, starts_f, starts_f]
 cases stB a b <;> cases stB b a <;> rfl
def occN (sub : List UInt8) : List UInt8 → Nat
 | [] => 0
 | b :: l => (if sub.isPrefixOf (b :: l) = true then 1 else 0) + occN sub l
theorem occN_drop {s sub : List UInt8} {i : Nat} (h : i < s.length) : occN sub (s.drop i) = (if Lib.occAt s sub i = true then 1 else 0) + occN sub (s.drop (i + 1)) := by
 unfold Lib.occAt
 rw [List.drop_eq_getElem_cons h]
 rfl
theorem occN_short (sub : List UInt8) : ∀ s : List UInt8, s.length < sub.length → occN sub s = 0
 | [], _ => rfl
 | b :: l, h => by
  have h1 : sub.isPrefixOf (b :: l) = false := by
   cases hp : sub.isPrefixOf (b :: l) with
   | false => rfl
   | true =>
    have := (List.isPrefixOf_iff_prefix.1 hp).length_le
    omega
  have h2 := occN_short sub l (by rw [List.length_cons] at h; omega)
  unfold occN
  rw [h1, h2]
  rfl
theorem occN_none {s sub : List UInt8} : ∀ i, i ≤ s.length → (∀ j, j < i → Lib.occAt s sub j = false) → occN sub s = occN sub (s.drop i)
 | 0, _, _ => rfl
 | i + 1, hi, h => by
  rw [occN_none i (by omega) (fun j hj => h j (by omega)), occN_drop (by omega), h i (by omega)]
  simp
def mk3 (x : UInt8) : List UInt8 := [123, x, 125]
theorem count_occ (x : UInt8) (hx : x ≠ 123) : ∀ (n : Nat) (s : List UInt8), s.length ≤ n → Lib.count s (mk3 x) = occN (mk3 x) s := by
 intro n
 induction n with
 | zero =>
  intro s h
  obtain rfl : s = [] := List.length_eq_zero_iff.1 (by omega)
  rfl
 | succ n ih =>
  intro s hn
  rcases Lib.index_spec s (mk3 x) with ⟨h1, h2⟩ | ⟨i, h1, h2, h3, h4⟩
  ·rw [Lib.count_miss h1, occN_none s.length (Nat.le_refl _) (fun j hj => h2 j (by omega)), List.drop_length]
   rfl
  have hr := Lib.index_room s (mk3 x) (by omega)
  have hl : (mk3 x).length = 3 := rfl
  rw [Lib.count_hit (by simp [mk3]) h1, occN_none i h2 (fun j hj => h4 j hj), occN_drop (by omega), h3, if_pos rfl, hl, ih _ (by rw [List.length_drop]; omega)]
  congr 1
  have hp : mk3 x <+: s.drop i := List.isPrefixOf_iff_prefix.1 h3
  obtain ⟨t, ht⟩ := hp
  have e3 : s.drop (i + 3) = t := by rw [← List.drop_drop, ← ht]; rfl
  have e1 : s.drop (i + 1) = x :: 125 :: t := by rw [← List.drop_drop, ← ht]; rfl
  rw [e3, e1]
  have g1 : (mk3 x).isPrefixOf (x :: 125 :: t) = false := by
   show ((123 : UInt8) == x && _) = false
   rw [beq_eq_false_iff_ne.2 (fun h => hx h.symm), Bool.false_and]
  show _ = (if _ then 1 else 0) + ((if _ then 1 else 0) + occN (mk3 x) t)
  rw [g1, if_neg (by simp), if_neg (by show ¬ (((123 : UInt8) == 125 && _) = true); simp), Nat.zero_add, Nat.zero_add]
theorem piece_occ (s sub : ByteArray) (i : Nat) (hi : i + sub.size ≤ s.size) : ((s.extract i (i + sub.size)).toList = sub.toList) = (Lib.occAt s.data.toList sub.data.toList i = true) := by
 rw [Lib.occ_of_piece s sub i hi]
 exact propext ⟨fun h => beq_iff_eq.2 h, fun h => beq_iff_eq.1 h⟩
theorem cnt_l (s sub : ByteArray) (hs : s.size ≤ 1099511627776) (hb : sub.size = 3) : ∀ (d i : Nat), s.size - i = d → i ≤ s.size → ∀ n : Nat, n ≤ i → Ev (fun k => zaW.l0 k s sub (n : Int) (i : Int)) ((n + occN sub.data.toList (s.data.toList.drop i) : Nat) : Int) := by
 have hL : s.data.toList.length = s.size := by rw [Array.length_toList]; rfl
 have hB : sub.data.toList.length = 3 := by rw [Array.length_toList]; exact hb
 intro d
 induction d with
 | zero =>
  intro i hd hi n hn
  refine Ev.step (fun k => by rw [zaW.l0]) ?_
  have e : wrap64 ((i : Int) + (sub.size : Int)) = ((i + sub.size : Nat) : Int) := w_add i sub.size (by omega)
  rw [e]
  refine Ev.neg (by omega) ((Ev.now _).to ?_)
  rw [occN_short _ _ (by rw [List.length_drop]; omega)]
  rfl
 | succ d ih =>
  intro i hd hi n hn
  refine Ev.step (fun k => by rw [zaW.l0]) ?_
  have e : wrap64 ((i : Int) + (sub.size : Int)) = ((i + sub.size : Nat) : Int) := w_add i sub.size (by omega)
  rw [e]
  by_cases h : i + sub.size ≤ s.size
  ·refine Ev.pos (by omega) (Ev.pos (by omega) (Ev.pos (by omega) ?_))
   rw [show (i : Int).toNat = i from rfl, show ((i + sub.size : Nat) : Int).toNat = i + sub.size from rfl, w_succ i (by omega), w_succ n (by omega)]
   have ho := occN_drop (s := s.data.toList) (sub := sub.data.toList) (i := i) (by omega)
   cases hc : Lib.occAt s.data.toList sub.data.toList i with
   | true =>
    rw [hc, if_pos rfl] at ho
    refine Ev.pos ((piece_occ s sub i h).mpr hc) ((ih (i + 1) (by omega) (by omega) (n + 1) (by omega)).to ?_)
    rw [ho]
    omega
   | false =>
    rw [hc, if_neg (by simp)] at ho
    refine Ev.neg (fun h' => by rw [(piece_occ s sub i h).mp h'] at hc; cases hc) ((ih (i + 1) (by omega) (by omega) n (by omega)).to ?_)
    rw [ho]
    omega
  refine Ev.neg (by omega) ((Ev.now _).to ?_)
  rw [occN_short _ _ (by rw [List.length_drop]; omega)]
  rfl
def sub3 (x : UInt8) : ByteArray := ⟨#[123, x, 125]⟩
theorem cnt_ev (s : ByteArray) (x : UInt8) (hx : x ≠ 123) (hs : s.size ≤ 1099511627776) : Ev (fun k => zaW.f k s (sub3 x)) ((Lib.countB s (sub3 x) : Nat) : Int) :=
 (cnt_l s (sub3 x) hs rfl _ 0 rfl (by omega) 0 (by omega)).to (by
  show ((0 + occN (mk3 x) s.data.toList : Nat) : Int) = ((Lib.count s.data.toList (mk3 x) : Nat) : Int)
  rw [count_occ x hx _ _ (Nat.le_refl _), Nat.zero_add])
theorem idx_l (s sub : ByteArray) (hs : s.size ≤ 1099511627776) (hb : sub.size = 3) : ∀ (d i : Nat), s.size - i = d → i ≤ s.size → (∀ j, j < i → Lib.occAt s.data.toList sub.data.toList j = false) → Ev (fun k => zaX.l0 k s sub (i : Int)) (Lib.index s.data.toList sub.data.toList) := by
 have hL : s.data.toList.length = s.size := by rw [Array.length_toList]; rfl
 have hB : sub.data.toList.length = 3 := by rw [Array.length_toList]; exact hb
 have hfin : ∀ i, ¬ i + sub.size ≤ s.size → (∀ j, j < i → Lib.occAt s.data.toList sub.data.toList j = false) → Lib.index s.data.toList sub.data.toList = -1 := by
  intro i hi hj
  refine Lib.index_none (fun j hj' => ?_)
  by_cases h : j < i
  ·exact hj j h
  unfold Lib.occAt
  cases hp : sub.data.toList.isPrefixOf (s.data.toList.drop j) with
  | false => rfl
  | true =>
   have := (List.isPrefixOf_iff_prefix.1 hp).length_le
   rw [List.length_drop] at this
   omega
 intro d
 induction d with
 | zero =>
  intro i hd hi hj
  refine Ev.step (fun k => by rw [zaX.l0]) ?_
  have e : wrap64 ((i : Int) + (sub.size : Int)) = ((i + sub.size : Nat) : Int) := w_add i sub.size (by omega)
  rw [e]
  exact Ev.neg (by omega) ((Ev.now _).to (hfin i (by omega) hj).symm)
 | succ d ih =>
  intro i hd hi hj
  refine Ev.step (fun k => by rw [zaX.l0]) ?_
  have e : wrap64 ((i : Int) + (sub.size : Int)) = ((i + sub.size : Nat) : Int) := w_add i sub.size (by omega)
  rw [e]
  by_cases h : i + sub.size ≤ s.size
  ·refine Ev.pos (by omega) (Ev.pos (by omega) (Ev.pos (by omega) ?_))
   rw [show (i : Int).toNat = i from rfl, show ((i + sub.size : Nat) : Int).toNat = i + sub.size from rfl, w_succ i (by omega)]
   cases hc : Lib.occAt s.data.toList sub.data.toList i with
   | true => exact Ev.pos ((piece_occ s sub i h).mpr hc) ((Ev.now _).to (Lib.index_first (by omega) hc hj).symm)
   | false =>
    refine Ev.neg (fun h' => by rw [(piece_occ s sub i h).mp h'] at hc; cases hc) (ih (i + 1) (by omega) (by omega) (fun j h' => ?_))
    by_cases h2 : j < i
    ·exact hj j h2
    obtain rfl : j = i := by omega
    exact hc
  exact Ev.neg (by omega) ((Ev.now _).to (hfin i h hj).symm)
def idx3 (s : ByteArray) (x : UInt8) : Int := Lib.index s.data.toList (mk3 x)
theorem idx_ev (s : ByteArray) (x : UInt8) (hs : s.size ≤ 1099511627776) : Ev (fun k => zaX.f k s (sub3 x)) (idx3 s x) :=
 idx_l s (sub3 x) hs rfl _ 0 rfl (by omega) (fun j hj => absurd hj (Nat.not_lt_zero _))
def cnt3 (s : ByteArray) (x : UInt8) : Int := ((Lib.countB s (sub3 x) : Nat) : Int)
theorem idx_ne (s : ByteArray) (h : cnt3 s 48 = 1) : idx3 s 48 ≠ idx3 s 49 := by
 intro e
 unfold idx3 at e
 rcases Lib.index_spec s.data.toList (mk3 48) with ⟨h1, h2⟩ | ⟨i, h1, h2, h3, h4⟩
 ·have h5 : Lib.countB s (sub3 48) = 0 := Lib.count_miss h1
  unfold cnt3 at h
  omega
 rcases Lib.index_spec s.data.toList (mk3 49) with ⟨g1, g2⟩ | ⟨j, g1, g2, g3, g4⟩
 ·omega
 obtain rfl : i = j := by omega
 have p1 := List.isPrefixOf_iff_prefix.1 h3
 have p2 := List.isPrefixOf_iff_prefix.1 g3
 obtain ⟨t1, q1⟩ := p1
 obtain ⟨t2, q2⟩ := p2
 rw [← q1] at q2
 have : (49 : UInt8) = 48 := (List.cons.inj (List.cons.inj q2).2).1
 exact absurd this (by decide)
end Go.Proofs.YtfafjbolmeimmaaGreatDoor.P
