/- Written by a program of this session: plain Lean functions for Go functions, and for each the proof that the call comes to what the function says. -/
import Derived.Test.YtbppeepihlajoaaDoorL0
import Derived.Test.YtbppeepihlajoaaDoorL1
namespace Go.Proofs.YtbppeepihlajoaaDoor.P
open Go.RowKit Go.Proofs.YtbppeepihlajoaaDoorW.PrintWords Go.Proofs.YtbppeepihlajoaaDoorW.PrintLast Go.Proofs.YtbppeepihlajoaaDoorW.PrintMore
attribute [local go_sem] max2_int min2_int max_two min_two max_three min_three max_four min_four
set_option linter.unusedVariables false
set_option linter.unusedSimpArgs false
def zbw.f (k : Nat) (a0 : Int) : Option (Int) := (zaH.f k a0).bind fun bt151 => (some bt151.2)
set_option maxHeartbeats 8000000 in
set_option maxRecDepth 100000 in
theorem zbw.calls (k : Nat) (a0 : Int) (r : Int) (w : World) (h : zbw.f k a0 = some r) :
  Calls Tryd.prog 90 #[.int .i64 a0] w fun e w' => e = .returned (.int .i64 r) ∧ Below w.heap.size w w' := by
 have HB := zab.mk (Below.refl w.heap.size w)
 have H : ((zaH.f k a0).bind fun bt151 => (some bt151.2)) = some r := h
 clear h; replace H := Option.bind_eq_some_iff.mp H
 obtain ⟨⟨t151, t152⟩, A20, H⟩ := H
 replace H : (some t152) = some r := H
 have A2 := zab.mk A20; clear A20; obtain rfl := Option.some.inj H
 go_enter Tryd.func90, Tryd.ntmps90
 go_wp2_with (first | ((with_reducible refine zae (f := 139) rfl ?_); refine zaB (some 7) rfl rfl Tryd.func139 (by kernel_rfl) rfl #[.int .i64 a0] rfl (by (try simp only [List.map_toArray, List.map_cons, List.map_nil]); first | done | rfl | (simp only [List.length_drop, List.length_take]; rfl)) ?_; (with_reducible refine (zaH.calls k a0 t151 t152 _ A2.out).mono ?_); rintro e w3 ⟨rfl, hb⟩; refine ⟨_, rfl, ?_⟩; have n0_ := zab.mk (zaw (by repeat (first | (with_reducible first | exact HB.out | apply zac | apply zaa | apply zad) | exact HB.out)) hb); clear HB; have HB := n0_; clear n0_; (try clear hb); (try clear hb2); (try clear hk); (try clear hi)))
 go_ret
 exact ⟨by first | rfl | (simp [zam, zal] <;> rfl) | (simp [*, zam, zal] <;> rfl), by repeat (first | (with_reducible first | exact HB.out | apply zac | apply zaa | apply zad) | exact HB.out)⟩
def zbt.f (a0 : Int) : Option (Bool) := if a0 ≥ 7680 then (some (decide (a0 ≤ 7743))) else (some false)
set_option maxHeartbeats 8000000 in
set_option maxRecDepth 100000 in
theorem zbt.calls (a0 : Int) (r : Bool) (w : World) (h : zbt.f a0 = some r) :
  Calls Tryd.prog 158 #[.int .i64 a0] w fun e w' => e = .returned (.bool r) ∧ zau w w' := by
 have H : (if a0 ≥ 7680 then (some (decide (a0 ≤ 7743))) else (some false)) = some r := h
 clear h
 by_cases c2 : a0 ≥ 7680
 ·rw [if_pos c2] at H
  have c2b0 : decide (7680 ≤ a0) = true := decide_eq_true c2
  clear c2; obtain rfl := Option.some.inj H
  go_enter Tryd.func158, Tryd.ntmps158
  go_wp2
  go_ret
  exact ⟨by first | rfl | (simp; done) | (simp [*]; done), by repeat (first | exact zau.refl _ | apply zau.step)⟩
 rw [if_neg c2] at H
 have c2b0 : decide (7680 ≤ a0) = false := decide_eq_false c2
 clear c2; obtain rfl := Option.some.inj H
 go_enter Tryd.func158, Tryd.ntmps158
 go_wp2
 go_ret
 exact ⟨by first | rfl | (simp; done) | (simp [*]; done), by repeat (first | exact zau.refl _ | apply zau.step)⟩
def zbe.f (a0 : Int) : Option (Bool) := if a0 ≥ 7760 then (some (decide (a0 ≤ 7785))) else (some false)
set_option maxHeartbeats 8000000 in
set_option maxRecDepth 100000 in
theorem zbe.calls (a0 : Int) (r : Bool) (w : World) (h : zbe.f a0 = some r) :
  Calls Tryd.prog 159 #[.int .i64 a0] w fun e w' => e = .returned (.bool r) ∧ zau w w' := by
 have H : (if a0 ≥ 7760 then (some (decide (a0 ≤ 7785))) else (some false)) = some r := h
 clear h
 by_cases c2 : a0 ≥ 7760
 ·rw [if_pos c2] at H
  have c2b0 : decide (7760 ≤ a0) = true := decide_eq_true c2
  clear c2; obtain rfl := Option.some.inj H
  go_enter Tryd.func159, Tryd.ntmps159
  go_wp2
  go_ret
  exact ⟨by first | rfl | (simp; done) | (simp [*]; done), by repeat (first | exact zau.refl _ | apply zau.step)⟩
 rw [if_neg c2] at H
 have c2b0 : decide (7760 ≤ a0) = false := decide_eq_false c2
 clear c2; obtain rfl := Option.some.inj H
 go_enter Tryd.func159, Tryd.ntmps159
 go_wp2
 go_ret
 exact ⟨by first | rfl | (simp; done) | (simp [*]; done), by repeat (first | exact zau.refl _ | apply zau.step)⟩
def za7.l0 : Nat → Int → ByteArray → Int → Option (Bool)
 | 0, _, _, _ => none
 | k + 1, x0, x1, x5 => if x5 < (x1.size : Int) then (if 0 ≤ x5 then (if x0 = (wrap64 (bt x1 x5)) then (some true) else (za7.l0 k x0 x1 (wrap64 (x5 + 1)))) else (none)) else (some false)
def za7.f (k : Nat) (a0 : Int) (a1 : ByteArray) : Option (Bool) := za7.l0 k a0 a1 0
set_option maxHeartbeats 8000000 in
set_option maxRecDepth 100000 in
theorem za7.calls (k : Nat) (a0 : Int) (a1 : ByteArray) (r : Bool) (w : World) (h : za7.f k a0 a1 = some r) :
  Calls Tryd.prog 164 #[.int .i64 a0, .string a1] w fun e w' => e = .returned (.bool r) ∧ zau w w' := by
 have H : (za7.l0 k a0 a1 0) = some r := h
 clear h; have H' := zab.mk H; clear H
 go_enter Tryd.func164, Tryd.ntmps164
 go_wp2
 go_loopg [5] k (fun kq v5 w' => ∃ (x5_1 : Int), v5 = .int .i64 x5_1 ∧ zab (za7.l0 kq a0 a1 x5_1 = some r) ∧ zab (kq ≤ k) ∧ zau w w')
 case atStart => exact ⟨(0), (by first | rfl | (simp; done) | (simp [*]; done)), H', ⟨Nat.le_refl _⟩, by repeat (first | exact zau.refl _ | apply zau.step)⟩
 case round =>
  clear H'
  obtain ⟨x5_1, rfl, HA, HK1, ⟨m1, rfl⟩⟩ := hrel
  cases gk with
  | zero => exact absurd HA.out (by simp [za7.l0])
  | succ k1 =>
   have H := HA.out; clear HA
   simp only [za7.l0] at H
   by_cases c3 : x5_1 < (a1.size : Int)
   ·rw [if_pos c3] at H
    have c3b0 : decide (x5_1 < (a1.size : Int)) = true := decide_eq_true c3
    clear c3
    by_cases c4 : 0 ≤ x5_1
    ·rw [if_pos c4] at H
     have c4b0 : decide (0 ≤ x5_1) = true := decide_eq_true c4
     clear c4
     by_cases c6 : a0 = (wrap64 (bt a1 x5_1))
     ·rw [if_pos c6] at H
      have c6b0 : (a0 == (wrap64 (bt a1 x5_1))) = true := beq_iff_eq.mpr c6
      have c6b1 : (a0 != (wrap64 (bt a1 x5_1))) = false := bne_eq_false_iff_eq.mpr c6
      clear c6; obtain rfl := Option.some.inj H
      have p5 : 0 ≤ (x5_1 : Int) := of_decide_eq_true (by first | (with_reducible assumption) | assumption)
      have q5 : x5_1 < (a1.size : Int) := of_decide_eq_true (by first | (with_reducible assumption) | assumption)
      have hx5 := bt_at a1 x5_1
      replace p5 := eq_true p5
      replace q5 := eq_true q5
      go_wp2
      go_ret
      exact ⟨by first | rfl | (simp; done) | (simp [*]; done), by repeat (first | exact zau.refl _ | apply zau.step)⟩
     rw [if_neg c6] at H
     have c6b0 : (a0 == (wrap64 (bt a1 x5_1))) = false := beq_eq_false_iff_ne.mpr c6
     have c6b1 : (a0 != (wrap64 (bt a1 x5_1))) = true := bne_iff_ne.mpr c6
     have H' := zab.mk H; clear H
     have p5 : 0 ≤ (x5_1 : Int) := of_decide_eq_true (by first | (with_reducible assumption) | assumption)
     have q5 : x5_1 < (a1.size : Int) := of_decide_eq_true (by first | (with_reducible assumption) | assumption)
     have hx5 := bt_at a1 x5_1
     replace p5 := eq_true p5
     replace q5 := eq_true q5
     go_wp2
     go_roundg k1
     case measure => have := HK1.out; omega
     case rel => exact ⟨(wrap64 (x5_1 + 1)), (by first | rfl | (simp; done) | (simp [*]; done)), H', ⟨by have := HK1.out; omega⟩, by repeat (first | exact zau.refl _ | apply zau.step)⟩
    rw [if_neg c4] at H
    exact absurd H (by simp)
   rw [if_neg c3] at H
   have c3b0 : decide (x5_1 < (a1.size : Int)) = false := decide_eq_false c3
   clear c3; obtain rfl := Option.some.inj H
   go_wp2
   go_ret
   exact ⟨by first | rfl | (simp; done) | (simp [*]; done), by repeat (first | exact zau.refl _ | apply zau.step)⟩
end Go.Proofs.YtbppeepihlajoaaDoor.P
