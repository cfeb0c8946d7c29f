/- Parts of a proof: words of the print tool that this claim uses, or plain lists. -/
import Derived.Test.YtfafjbolmeimmaaGreatDoorF4
namespace Go.Proofs.YtfafjbolmeimmaaGreatDoor.P
open Go.RowKit Go.Proofs.YtfafjbolmeimmaaGreatDoorW.PrintWords Go.Proofs.YtfafjbolmeimmaaGreatDoorW.PrintLast Go.Proofs.YtfafjbolmeimmaaGreatDoorW.PrintMore
attribute [local go_sem] max2_int min2_int max_two min_two zbk zbl max_four min_four
set_option linter.unusedVariables false
set_option linter.unusedSimpArgs false
def za4.l0 : Nat → List ByteArray → List ByteArray → Int → Option (Bool)
 | 0, _, _, _ => none
 | k + 1, x0, x1, x5 => if x5 < (x0.length : Int) then (if 0 ≤ x5 then (if x5 < (x1.length : Int) then (if (rdOf ByteArray.empty x0 x5).toList = (rdOf ByteArray.empty x1 x5).toList then (za4.l0 k x0 x1 (wrap64 (x5 + 1))) else (some false)) else (none)) else (none)) else (some true)
def za4.f (k : Nat) (l0 : List ByteArray) (l1 : List ByteArray) : Option (Bool) := if (l0.length : Int) = (l1.length : Int) then (za4.l0 k l0 l1 0) else (some false)
set_option maxHeartbeats 8000000 in
set_option maxRecDepth 100000 in
theorem za4.calls (k : Nat) (A0 : Option Addr) (c0 : Nat) (l0 : List ByteArray) (A1 : Option Addr) (c1 : Nat) (l1 : List ByteArray) (r : Bool) (w : World) (hr0 : Kd.C Kd.string w A0 l0.length l0) (hc0 : l0.length ≤ c0) (hr1 : Kd.C Kd.string w A1 l1.length l1) (hc1 : l1.length ≤ c1) (h : za4.f k l0 l1 = some r) :
  Calls Tryz.prog 22 #[.slice A0 l0.length c0, .slice A1 l1.length c1] w fun e w' => e = .returned (.bool r) ∧ zau w w' := by
 have HR0 := zab.mk hr0; have HC0 := zab.mk hc0; clear hr0 hc0; have HR1 := zab.mk hr1; have HC1 := zab.mk hc1; clear hr1 hc1
 have H : (if (l0.length : Int) = (l1.length : Int) then (za4.l0 k l0 l1 0) else (some false)) = some r := h
 clear h
 by_cases c3 : (l0.length : Int) = (l1.length : Int)
 ·rw [if_pos c3] at H
  have c3b0 : ((l0.length : Int) == (l1.length : Int)) = true := beq_iff_eq.mpr c3
  have c3b1 : ((l0.length : Int) != (l1.length : Int)) = false := bne_eq_false_iff_eq.mpr c3
  have c3b2 : (l0.length == l1.length) = true := by first | simpa using c3 | (simp at c3 ⊢; omega)
  clear c3; have H' := zab.mk H; clear H
  go_enter Tryz.func22, Tryz.ntmps22
  go_wp2
  repeat (go_quiet (fail); try go_wp2)
  go_loopg [5] k (fun kq v5 w' => ∃ (x5_1 : Int), v5 = .int .i64 x5_1 ∧ zab (za4.l0 kq l0 l1 x5_1 = some r) ∧ zab (kq ≤ k) ∧ zau w w')
  case atStart => exact ⟨(0), (by first | rfl | (simp; done) | (simp [*]; done)), H', ⟨Nat.le_refl _⟩, by repeat (first | exact zau.refl _ | apply zau.step)⟩
  case round =>
   clear H'
   try clear c1
   try clear c3b0
   try clear c3b1
   try clear c3b2
   obtain ⟨x5_1, rfl, HA, HK1, ⟨m1, rfl⟩⟩ := hrel
   cases gk with
   | zero => exact absurd HA.out (by simp [za4.l0])
   | succ k1 =>
    have H := HA.out; clear HA
    simp only [za4.l0] at H
    by_cases c4 : x5_1 < (l0.length : Int)
    ·rw [if_pos c4] at H
     have c4b0 : decide (x5_1 < (l0.length : Int)) = true := decide_eq_true c4
     clear c4
     by_cases c5 : 0 ≤ x5_1
     ·rw [if_pos c5] at H
      have c5b0 : decide (0 ≤ x5_1) = true := decide_eq_true c5
      clear c5
      by_cases c6 : x5_1 < (l1.length : Int)
      ·rw [if_pos c6] at H
       have c6b0 : decide (x5_1 < (l1.length : Int)) = true := decide_eq_true c6
       clear c6
       by_cases c7 : (rdOf ByteArray.empty l0 x5_1).toList = (rdOf ByteArray.empty l1 x5_1).toList
       ·rw [if_pos c7] at H
        have c7b0 : ((rdOf ByteArray.empty l0 x5_1).toList == (rdOf ByteArray.empty l1 x5_1).toList) = true := beq_iff_eq.mpr c7
        have c7b1 : ((rdOf ByteArray.empty l0 x5_1).toList != (rdOf ByteArray.empty l1 x5_1).toList) = false := bne_eq_false_iff_eq.mpr c7
        clear c7; have H' := zab.mk H; clear H
        have p304 : 0 ≤ (x5_1 : Int) := of_decide_eq_true (by first | (with_reducible assumption) | assumption)
        have q304 : x5_1 < (l0.length : Int) := of_decide_eq_true (by first | (with_reducible assumption) | assumption)
        obtain ⟨ad304, e304, hx304_0⟩ := Kd.at_string HR0.out x5_1 p304 q304
        cases e304
        replace p304 := eq_true p304
        replace q304 := eq_true q304
        have p305 : 0 ≤ (x5_1 : Int) := of_decide_eq_true (by first | (with_reducible assumption) | assumption)
        have q305 : x5_1 < (l1.length : Int) := of_decide_eq_true (by first | (with_reducible assumption) | assumption)
        obtain ⟨ad305, e305, hx305_0⟩ := Kd.at_string HR1.out x5_1 p305 q305
        cases e305
        replace p305 := eq_true p305
        replace q305 := eq_true q305
        go_wp2
        repeat (go_quiet (fail); try go_wp2)
        go_roundg k1
        case measure => have := HK1.out; omega
        case rel => exact ⟨(wrap64 (x5_1 + 1)), (by first | rfl | (simp; done) | (simp [*]; done)), H', ⟨by have := HK1.out; omega⟩, by repeat (first | exact zau.refl _ | apply zau.step)⟩
       rw [if_neg c7] at H
       have c7b0 : ((rdOf ByteArray.empty l0 x5_1).toList == (rdOf ByteArray.empty l1 x5_1).toList) = false := beq_eq_false_iff_ne.mpr c7
       have c7b1 : ((rdOf ByteArray.empty l0 x5_1).toList != (rdOf ByteArray.empty l1 x5_1).toList) = true := bne_iff_ne.mpr c7
       obtain rfl := Option.some.inj H
       have p304 : 0 ≤ (x5_1 : Int) := of_decide_eq_true (by first | (with_reducible assumption) | assumption)
       have q304 : x5_1 < (l0.length : Int) := of_decide_eq_true (by first | (with_reducible assumption) | assumption)
       obtain ⟨ad304, e304, hx304_0⟩ := Kd.at_string HR0.out x5_1 p304 q304
       cases e304
       replace p304 := eq_true p304
       replace q304 := eq_true q304
       have p305 : 0 ≤ (x5_1 : Int) := of_decide_eq_true (by first | (with_reducible assumption) | assumption)
       have q305 : x5_1 < (l1.length : Int) := of_decide_eq_true (by first | (with_reducible assumption) | assumption)
       obtain ⟨ad305, e305, hx305_0⟩ := Kd.at_string HR1.out x5_1 p305 q305
       cases e305
       replace p305 := eq_true p305
       replace q305 := eq_true q305
       go_wp2
       repeat (go_quiet (fail); try go_wp2)
       go_ret
       exact ⟨by first | rfl | (simp; done) | (simp [*]; done), by repeat (first | exact zau.refl _ | apply zau.step)⟩
      rw [if_neg c6] at H
      exact absurd H (by simp)
     rw [if_neg c5] at H
     exact absurd H (by simp)
    rw [if_neg c4] at H
    have c4b0 : decide (x5_1 < (l0.length : Int)) = false := decide_eq_false c4
    clear c4; obtain rfl := Option.some.inj H
    go_wp2
    repeat (go_quiet (fail); try go_wp2)
    go_ret
    exact ⟨by first | rfl | (simp; done) | (simp [*]; done), by repeat (first | exact zau.refl _ | apply zau.step)⟩
 rw [if_neg c3] at H
 have c3b0 : ((l0.length : Int) == (l1.length : Int)) = false := beq_eq_false_iff_ne.mpr c3
 have c3b1 : ((l0.length : Int) != (l1.length : Int)) = true := bne_iff_ne.mpr c3
 have c3b2 : (l0.length == l1.length) = false := by first | simpa using c3 | (simp at c3 ⊢; omega)
 obtain rfl := Option.some.inj H
 go_enter Tryz.func22, Tryz.ntmps22
 go_wp2
 repeat (go_quiet (fail); try go_wp2)
 go_ret
 exact ⟨by first | rfl | (simp; done) | (simp [*]; done), by repeat (first | exact zau.refl _ | apply zau.step)⟩
end Go.Proofs.YtfafjbolmeimmaaGreatDoor.P
namespace Go.Proofs.YtfafjbolmeimmaaGreatDoor.P
open Go.RowKit Go.Proofs.YtfafjbolmeimmaaGreatDoorW.PrintWords Go.Proofs.YtfafjbolmeimmaaGreatDoorW.PrintLast Go.Proofs.YtfafjbolmeimmaaGreatDoorW.PrintMore
attribute [local go_sem] max2_int min2_int max_two min_two zbk zbl max_four min_four
set_option linter.unusedVariables false
set_option linter.unusedSimpArgs false
def impl_block.f (a0 : Int) : Option (Int × Int) := if a0 ≥ 512 then (if a0 < 1280 then (some (Go.bits .andNot .i64 a0 255, Go.bits .and .i64 a0 255)) else (some (0, 0))) else (some (0, 0))
set_option maxHeartbeats 8000000 in
set_option maxRecDepth 100000 in
theorem impl_block.calls (a0 : Int) (r1 : Int) (r2 : Int) (w : World) (h : impl_block.f a0 = some (r1, r2)) :
  Calls Tryz.prog 126 #[.int .i64 a0] w fun e w' => e = .returned (.tuple #[.int .i64 r1, .int .i64 r2]) ∧ zau w w' := by
 have H : (if a0 ≥ 512 then (if a0 < 1280 then (some (Go.bits .andNot .i64 a0 255, Go.bits .and .i64 a0 255)) else (some (0, 0))) else (some (0, 0))) = some (r1, r2) := h
 clear h
 by_cases c2 : a0 ≥ 512
 ·rw [if_pos c2] at H
  have c2b0 : decide (512 ≤ a0) = true := decide_eq_true c2
  clear c2
  by_cases c3 : a0 < 1280
  ·rw [if_pos c3] at H
   have c3b0 : decide (a0 < 1280) = true := decide_eq_true c3
   clear c3
   simp only [Option.some.injEq, Prod.mk.injEq] at H
   obtain ⟨rfl, rfl⟩ := H
   go_enter Tryz.func126, Tryz.ntmps126
   go_wp2
   go_ret2
   exact ⟨by first | rfl | (simp; done) | (simp [*]; done), by repeat (first | exact zau.refl _ | apply zau.step)⟩
  rw [if_neg c3] at H
  have c3b0 : decide (a0 < 1280) = false := decide_eq_false c3
  clear c3
  simp only [Option.some.injEq, Prod.mk.injEq] at H
  obtain ⟨rfl, rfl⟩ := H
  go_enter Tryz.func126, Tryz.ntmps126
  go_wp2
  go_ret2
  exact ⟨by first | rfl | (simp; done) | (simp [*]; done), by repeat (first | exact zau.refl _ | apply zau.step)⟩
 rw [if_neg c2] at H
 have c2b0 : decide (512 ≤ a0) = false := decide_eq_false c2
 clear c2
 simp only [Option.some.injEq, Prod.mk.injEq] at H
 obtain ⟨rfl, rfl⟩ := H
 go_enter Tryz.func126, Tryz.ntmps126
 go_wp2
 go_ret2
 exact ⟨by first | rfl | (simp; done) | (simp [*]; done), by repeat (first | exact zau.refl _ | apply zau.step)⟩
end Go.Proofs.YtfafjbolmeimmaaGreatDoor.P
namespace Go.Proofs.YtfafjbolmeimmaaGreatDoor.P
open Go.RowKit Go.Proofs.YtfafjbolmeimmaaGreatDoorW.PrintWords Go.Proofs.YtfafjbolmeimmaaGreatDoorW.PrintLast Go.Proofs.YtfafjbolmeimmaaGreatDoorW.PrintMore
attribute [local go_sem] max2_int min2_int max_two min_two zbk zbl max_four min_four
set_option linter.unusedVariables false
set_option linter.unusedSimpArgs false
def impl_in.f (a0 : Int) (a1 : Int) (a2 : Int) : Option (Bool) := if a0 ≥ a1 then (some (decide (a0 ≤ a2))) else (some false)
set_option maxHeartbeats 8000000 in
set_option maxRecDepth 100000 in
theorem impl_in.calls (a0 : Int) (a1 : Int) (a2 : Int) (r : Bool) (w : World) (h : impl_in.f a0 a1 a2 = some r) :
  Calls Tryz.prog 127 #[.int .i64 a0, .int .i64 a1, .int .i64 a2] w fun e w' => e = .returned (.bool r) ∧ zau w w' := by
 have H : (if a0 ≥ a1 then (some (decide (a0 ≤ a2))) else (some false)) = some r := h
 clear h
 by_cases c4 : a0 ≥ a1
 ·rw [if_pos c4] at H
  have c4b0 : decide (a1 ≤ a0) = true := decide_eq_true c4
  clear c4; obtain rfl := Option.some.inj H
  go_enter Tryz.func127, Tryz.ntmps127
  go_wp2
  go_ret
  exact ⟨by first | rfl | (simp; done) | (simp [*]; done), by repeat (first | exact zau.refl _ | apply zau.step)⟩
 rw [if_neg c4] at H
 have c4b0 : decide (a1 ≤ a0) = false := decide_eq_false c4
 clear c4; obtain rfl := Option.some.inj H
 go_enter Tryz.func127, Tryz.ntmps127
 go_wp2
 go_ret
 exact ⟨by first | rfl | (simp; done) | (simp [*]; done), by repeat (first | exact zau.refl _ | apply zau.step)⟩
end Go.Proofs.YtfafjbolmeimmaaGreatDoor.P
namespace Go.Proofs.YtfafjbolmeimmaaGreatDoor.P
open Go.RowKit Go.Proofs.YtfafjbolmeimmaaGreatDoorW.PrintWords Go.Proofs.YtfafjbolmeimmaaGreatDoorW.PrintLast Go.Proofs.YtfafjbolmeimmaaGreatDoorW.PrintMore
attribute [local go_sem] max2_int min2_int max_two min_two zbk zbl max_four min_four
set_option linter.unusedVariables false
set_option linter.unusedSimpArgs false
def zah (w0 W : World) (g : Nat) (f0 : ByteArray) (f1 : Int) (f2 : Bool) : Prop := W.heap[g]? = some (.cells #[.string f0, .int .i64 f1, .bool f2] 119 (0, 0)) ∧ w0.heap.size ≤ g
theorem zah.grown {w0 W : World} {g : Nat} {f0 : ByteArray} {f1 : Int} {f2 : Bool} {W1 : World} {row : Option Nat} (h : zah w0 W g f0 f1 f2) (hw : W.grownBy W1 row) (hne : some g ≠ row) : zah w0 W1 g f0 f1 f2 := by
 obtain ⟨hb, hg⟩ := h
 exact ⟨blk_grown hb hw hne, hg⟩
theorem zah.below {w0 W : World} {g : Nat} {f0 : ByteArray} {f1 : Int} {f2 : Bool} {W1 : World} (h : zah w0 W g f0 f1 f2) (hw : Below W.heap.size W W1) : zah w0 W1 g f0 f1 f2 := h.grown (grown_of_below hw none) (by simp)
theorem zah.alloc {w0 W : World} {g : Nat} {f0 : ByteArray} {f1 : Int} {f2 : Bool} (h : zah w0 W g f0 f1 f2) (o : Obj) : zah w0 (W.alloc o) g f0 f1 f2 := h.below (zaf (Below.refl _ _) o)
theorem zah.drewN {w0 W : World} {g : Nat} {f0 : ByteArray} {f1 : Int} {f2 : Bool} (h : zah w0 W g f0 f1 f2) (m : Nat) : zah w0 (W.drewN m) g f0 f1 f2 := h
theorem zah.drew {w0 W : World} {g : Nat} {f0 : ByteArray} {f1 : Int} {f2 : Bool} (h : zah w0 W g f0 f1 f2) : zah w0 W.drew g f0 f1 f2 := h
theorem zah.lt {w0 W : World} {g : Nat} {f0 : ByteArray} {f1 : Int} {f2 : Bool} (h : zah w0 W g f0 f1 f2) : g < W.heap.size := by
 obtain ⟨hb, hg⟩ := h
 exact blk_lt hb
theorem zah.ge {w0 W : World} {g : Nat} {f0 : ByteArray} {f1 : Int} {f2 : Bool} (h : zah w0 W g f0 f1 f2) : w0.heap.size ≤ g := by
 obtain ⟨hb, hg⟩ := h
 exact hg
theorem zah.far {w0 W : World} {g : Nat} {f0 : ByteArray} {f1 : Int} {f2 : Bool} {p : Addr} (h : zah w0 W g f0 f1 f2) (hne : g ≠ p.block) (u : Value) : zah w0 (W.setCell p u) g f0 f1 f2 := by
 obtain ⟨hb, hg⟩ := h
 exact ⟨za0 hb hne u, hg⟩
theorem cellS119_0 {W : World} {g : Nat} {f0 : ByteArray} {f1 : Int} {f2 : Bool} (h : W.heap[g]? = some (.cells #[.string f0, .int .i64 f1, .bool f2] 119 (0, 0))) : W.cell? ⟨g, 0, none⟩ = some (.string f0) := (zad h 0).trans rfl
theorem zah.set_0 {w0 W : World} {g : Nat} {f0 : ByteArray} {f1 : Int} {f2 : Bool} (h : zah w0 W g f0 f1 f2) (x : ByteArray) : zah w0 (W.setCell ⟨g, 0, none⟩ (.string x)) g x f1 f2 := by
 obtain ⟨hb, hg⟩ := h
 exact ⟨by simpa using blk_set hb 0 (.string x), hg⟩
theorem cellS119_1 {W : World} {g : Nat} {f0 : ByteArray} {f1 : Int} {f2 : Bool} (h : W.heap[g]? = some (.cells #[.string f0, .int .i64 f1, .bool f2] 119 (0, 0))) : W.cell? ⟨g, 1, none⟩ = some (.int .i64 f1) := (zad h 1).trans rfl
theorem zah.set_1 {w0 W : World} {g : Nat} {f0 : ByteArray} {f1 : Int} {f2 : Bool} (h : zah w0 W g f0 f1 f2) (x : Int) : zah w0 (W.setCell ⟨g, 1, none⟩ (.int .i64 x)) g f0 x f2 := by
 obtain ⟨hb, hg⟩ := h
 exact ⟨by simpa using blk_set hb 1 (.int .i64 x), hg⟩
theorem cellS119_2 {W : World} {g : Nat} {f0 : ByteArray} {f1 : Int} {f2 : Bool} (h : W.heap[g]? = some (.cells #[.string f0, .int .i64 f1, .bool f2] 119 (0, 0))) : W.cell? ⟨g, 2, none⟩ = some (.bool f2) := (zad h 2).trans rfl
theorem zah.set_2 {w0 W : World} {g : Nat} {f0 : ByteArray} {f1 : Int} {f2 : Bool} (h : zah w0 W g f0 f1 f2) (x : Bool) : zah w0 (W.setCell ⟨g, 2, none⟩ (.bool x)) g f0 f1 x := by
 obtain ⟨hb, hg⟩ := h
 exact ⟨by simpa using blk_set hb 2 (.bool x), hg⟩
def spec_l04Reader_is.f (s0_0 : ByteArray) (s0_1 : Int) (s0_2 : Bool) (a1 : Int) : Option (Bool × ByteArray × Int × Bool) := if s0_2 = true then (some (false, s0_0, s0_1, s0_2)) else (if s0_1 < (s0_0.size : Int) then (if 0 ≤ s0_1 then (some (((bt s0_0 s0_1) == a1), s0_0, s0_1, s0_2)) else (none)) else (some (false, s0_0, s0_1, s0_2)))
set_option maxHeartbeats 8000000 in
set_option maxRecDepth 100000 in
theorem spec_l04Reader_is.calls (g : Nat) (s0_0 : ByteArray) (s0_1 : Int) (s0_2 : Bool) (a1 : Int) (r1 : Bool) (r2 : ByteArray) (r3 : Int) (r4 : Bool) (w0 w : World) (hI : zah w0 w g s0_0 s0_1 s0_2) (hB : Below w0.heap.size w0 w) (h : spec_l04Reader_is.f s0_0 s0_1 s0_2 a1 = some (r1, r2, r3, r4)) :
  Calls Tryz.prog 121 #[.pointer (some ⟨g, 0, none⟩), .int .u8 a1] w fun e w' => e = .returned (.bool r1) ∧ zah w0 w' g r2 r3 r4 ∧ Below w0.heap.size w0 w' ∧ KeepBut w w' g none := by
 have HI0 := zab.mk hI
 have HK := zab.mk (KeepBut.refl w g none)
 have HL := zab.mk hB.size; clear hI; have HW0 := zab.mk hB.size; have HB := zab.mk hB; clear hB
 have H : (if s0_2 = true then (some (false, s0_0, s0_1, s0_2)) else (if s0_1 < (s0_0.size : Int) then (if 0 ≤ s0_1 then (some (((bt s0_0 s0_1) == a1), s0_0, s0_1, s0_2)) else (none)) else (some (false, s0_0, s0_1, s0_2)))) = some (r1, r2, r3, r4) := h
 clear h
 by_cases c3 : s0_2 = true
 ·subst c3
  replace H : (some (false, s0_0, s0_1, true)) = some (r1, r2, r3, r4) := by rw [if_pos rfl] at H; exact H
  simp only [Option.some.injEq, Prod.mk.injEq] at H
  obtain ⟨rfl, rfl, rfl, rfl⟩ := H
  obtain ⟨HGz4, hgz4⟩ := HI0.out
  have hcz4_0 := cellS119_0 HGz4
  have hcz4_1 := cellS119_1 HGz4
  have hcz4_2 := cellS119_2 HGz4
  have hfz4_0 := zaa HGz4 0
  have hfz4_1 := zaa HGz4 1
  have hfz4_2 := zaa HGz4 2
  clear HGz4 hgz4
  go_enter Tryz.func121, Tryz.ntmps121
  go_wp2
  repeat (go_quiet (fail); try go_wp2)
  go_ret
  exact ⟨by first | rfl | (simp [zam, zan] <;> rfl) | (simp [*, zam, zan] <;> rfl), by repeat (first | (with_reducible first | exact HI0.out | apply zah.alloc | apply zah.drewN | apply zah.drew | apply zah.set_0 | apply zah.set_1 | apply zah.set_2) | exact HI0.out), by repeat (first | (with_reducible first | exact HB.out | apply zaf | apply zac | apply zae | refine zai ?_ (zah.ge HI0.out)) | exact HB.out), by repeat (first | (with_reducible first | exact HK.out | apply KeepBut.set_ | apply zaB | apply keep_drew | apply keep_alloc) | exact HK.out)⟩
 replace c3 := Bool.eq_false_iff.mpr c3
 subst c3
 replace H : (if s0_1 < (s0_0.size : Int) then (if 0 ≤ s0_1 then (some (((bt s0_0 s0_1) == a1), s0_0, s0_1, false)) else (none)) else (some (false, s0_0, s0_1, false))) = some (r1, r2, r3, r4) := by rw [if_neg (show ¬ (false = true) by decide)] at H; exact H
 by_cases c5 : s0_1 < (s0_0.size : Int)
 ·rw [if_pos c5] at H
  have c5b0 : decide (s0_1 < (s0_0.size : Int)) = true := decide_eq_true c5
  clear c5
  by_cases c6 : 0 ≤ s0_1
  ·rw [if_pos c6] at H
   have c6b0 : decide (0 ≤ s0_1) = true := decide_eq_true c6
   clear c6
   simp only [Option.some.injEq, Prod.mk.injEq] at H
   obtain ⟨rfl, rfl, rfl, rfl⟩ := H
   obtain ⟨HGz8, hgz8⟩ := HI0.out
   have hcz8_0 := cellS119_0 HGz8
   have hcz8_1 := cellS119_1 HGz8
   have hcz8_2 := cellS119_2 HGz8
   have hfz8_0 := zaa HGz8 0
   have hfz8_1 := zaa HGz8 1
   have hfz8_2 := zaa HGz8 2
   clear HGz8 hgz8
   have p7 : 0 ≤ (s0_1 : Int) := of_decide_eq_true (by first | (with_reducible assumption) | assumption)
   have q7 : s0_1 < (s0_0.size : Int) := of_decide_eq_true (by first | (with_reducible assumption) | assumption)
   have hx7 := bt_at s0_0 s0_1
   replace p7 := eq_true p7
   replace q7 := eq_true q7
   go_enter Tryz.func121, Tryz.ntmps121
   go_wp2
   repeat (go_quiet (fail); try go_wp2)
   go_ret
   exact ⟨by first | rfl | (simp [zam, zan] <;> rfl) | (simp [*, zam, zan] <;> rfl), by repeat (first | (with_reducible first | exact HI0.out | apply zah.alloc | apply zah.drewN | apply zah.drew | apply zah.set_0 | apply zah.set_1 | apply zah.set_2) | exact HI0.out), by repeat (first | (with_reducible first | exact HB.out | apply zaf | apply zac | apply zae | refine zai ?_ (zah.ge HI0.out)) | exact HB.out), by repeat (first | (with_reducible first | exact HK.out | apply KeepBut.set_ | apply zaB | apply keep_drew | apply keep_alloc) | exact HK.out)⟩
  rw [if_neg c6] at H
  exact absurd H (by simp)
 rw [if_neg c5] at H
 have c5b0 : decide (s0_1 < (s0_0.size : Int)) = false := decide_eq_false c5
 clear c5
 simp only [Option.some.injEq, Prod.mk.injEq] at H
 obtain ⟨rfl, rfl, rfl, rfl⟩ := H
 obtain ⟨HGz9, hgz9⟩ := HI0.out
 have hcz9_0 := cellS119_0 HGz9
 have hcz9_1 := cellS119_1 HGz9
 have hcz9_2 := cellS119_2 HGz9
 have hfz9_0 := zaa HGz9 0
 have hfz9_1 := zaa HGz9 1
 have hfz9_2 := zaa HGz9 2
 clear HGz9 hgz9
 go_enter Tryz.func121, Tryz.ntmps121
 go_wp2
 repeat (go_quiet (fail); try go_wp2)
 go_ret
 exact ⟨by first | rfl | (simp [zam, zan] <;> rfl) | (simp [*, zam, zan] <;> rfl), by repeat (first | (with_reducible first | exact HI0.out | apply zah.alloc | apply zah.drewN | apply zah.drew | apply zah.set_0 | apply zah.set_1 | apply zah.set_2) | exact HI0.out), by repeat (first | (with_reducible first | exact HB.out | apply zaf | apply zac | apply zae | refine zai ?_ (zah.ge HI0.out)) | exact HB.out), by repeat (first | (with_reducible first | exact HK.out | apply KeepBut.set_ | apply zaB | apply keep_drew | apply keep_alloc) | exact HK.out)⟩
def zay.f (s0_0 : ByteArray) (s0_1 : Int) (s0_2 : Bool) (a1 : Int) : Option (Bool × ByteArray × Int × Bool) := (spec_l04Reader_is.f s0_0 s0_1 s0_2 a1).bind fun bt184 => (if bt184.1 = true then (some (true, bt184.2.1, wrap64 (bt184.2.2.1 + 1), bt184.2.2.2)) else (some (false, bt184.2.1, bt184.2.2.1, bt184.2.2.2)))
set_option maxHeartbeats 8000000 in
set_option maxRecDepth 100000 in
theorem zay.calls (g : Nat) (s0_0 : ByteArray) (s0_1 : Int) (s0_2 : Bool) (a1 : Int) (r1 : Bool) (r2 : ByteArray) (r3 : Int) (r4 : Bool) (w0 w : World) (hI : zah w0 w g s0_0 s0_1 s0_2) (hB : Below w0.heap.size w0 w) (h : zay.f s0_0 s0_1 s0_2 a1 = some (r1, r2, r3, r4)) :
  Calls Tryz.prog 100 #[.pointer (some ⟨g, 0, none⟩), .int .u8 a1] w fun e w' => e = .returned (.bool r1) ∧ zah w0 w' g r2 r3 r4 ∧ Below w0.heap.size w0 w' ∧ KeepBut w w' g none := by
 have HI0 := zab.mk hI
 have HK := zab.mk (KeepBut.refl w g none)
 have HL := zab.mk hB.size; clear hI; have HW0 := zab.mk hB.size; have HB := zab.mk hB; clear hB
 have H : ((spec_l04Reader_is.f s0_0 s0_1 s0_2 a1).bind fun bt184 => (if bt184.1 = true then (some (true, bt184.2.1, wrap64 (bt184.2.2.1 + 1), bt184.2.2.2)) else (some (false, bt184.2.1, bt184.2.2.1, bt184.2.2.2)))) = some (r1, r2, r3, r4) := h
 clear h; replace H := Option.bind_eq_some_iff.mp H
 obtain ⟨⟨t184, t185, t186, t187⟩, A30, H⟩ := H
 replace H : (if t184 = true then (some (true, t185, wrap64 (t186 + 1), t187)) else (some (false, t185, t186, t187))) = some (r1, r2, r3, r4) := H
 have A3 := zab.mk A30; clear A30
 by_cases c4 : t184 = true
 ·subst c4
  replace H : (some (true, t185, wrap64 (t186 + 1), t187)) = some (r1, r2, r3, r4) := by rw [if_pos rfl] at H; exact H
  simp only [Option.some.injEq, Prod.mk.injEq] at H
  obtain ⟨rfl, rfl, rfl, rfl⟩ := H
  go_enter Tryz.func100, Tryz.ntmps100
  go_wp2_with (first | ((with_reducible refine zav (f := 121) rfl ?_); refine za3 (some 7) rfl rfl Tryz.func121 (by kernel_rfl) rfl #[.pointer (some ⟨g, 0, none⟩), .int .u8 a1] rfl (by (try simp only [List.map_toArray, List.map_cons, List.map_nil]); first | done | rfl | (simp only [List.length_drop, List.length_take]; rfl)) ?_; (with_reducible refine (spec_l04Reader_is.calls g s0_0 s0_1 s0_2 a1 true t185 t186 t187 w0 _ ?side1 ?side2 A3.out).mono ?_); (case side1 => repeat (first | (with_reducible first | exact HI0.out | apply zah.alloc | apply zah.drewN | apply zah.drew | apply zah.set_0 | apply zah.set_1 | apply zah.set_2) | exact HI0.out)); (case side2 => repeat (first | (with_reducible first | exact HB.out | apply zaf | apply zac | apply zae | refine zai ?_ (zah.ge HI0.out)) | exact HB.out)); rintro e w5 ⟨rfl, hi, hb, hk⟩; refine ⟨_, rfl, ?_⟩; have n0_ := zab.mk (KeepBut.trans (by repeat (first | (with_reducible first | exact HK.out | apply KeepBut.set_ | apply zaB | apply keep_drew | apply keep_alloc) | exact HK.out)) hk (.inl rfl)); have n1_ := zab.mk (hb); have n2_ := zab.mk (hi); clear HK HB HI0; have HK := n0_; have HB := n1_; have HI0 := n2_; clear n0_ n1_ n2_; (try clear hb); (try clear hb2); (try clear hk); (try clear hi); obtain ⟨HGz6, hgz6⟩ := HI0.out; have hcz6_0 := cellS119_0 HGz6; have hcz6_1 := cellS119_1 HGz6; have hcz6_2 := cellS119_2 HGz6; have hfz6_0 := zaa HGz6 0; have hfz6_1 := zaa HGz6 1; have hfz6_2 := zaa HGz6 2; clear HGz6 hgz6))
  go_ret
  exact ⟨by first | rfl | (simp [zam, zan] <;> rfl) | (simp [*, zam, zan] <;> rfl), by repeat (first | (with_reducible first | exact HI0.out | apply zah.alloc | apply zah.drewN | apply zah.drew | apply zah.set_0 | apply zah.set_1 | apply zah.set_2) | exact HI0.out), by repeat (first | (with_reducible first | exact HB.out | apply zaf | apply zac | apply zae | refine zai ?_ (zah.ge HI0.out)) | exact HB.out), by repeat (first | (with_reducible first | exact HK.out | apply KeepBut.set_ | apply zaB | apply keep_drew | apply keep_alloc) | exact HK.out)⟩
 replace c4 := Bool.eq_false_iff.mpr c4
 subst c4
 replace H : (some (false, t185, t186, t187)) = some (r1, r2, r3, r4) := by rw [if_neg (show ¬ (false = true) by decide)] at H; exact H
 simp only [Option.some.injEq, Prod.mk.injEq] at H
 obtain ⟨rfl, rfl, rfl, rfl⟩ := H
 go_enter Tryz.func100, Tryz.ntmps100
 go_wp2_with (first | ((with_reducible refine zav (f := 121) rfl ?_); refine za3 (some 7) rfl rfl Tryz.func121 (by kernel_rfl) rfl #[.pointer (some ⟨g, 0, none⟩), .int .u8 a1] rfl (by (try simp only [List.map_toArray, List.map_cons, List.map_nil]); first | done | rfl | (simp only [List.length_drop, List.length_take]; rfl)) ?_; (with_reducible refine (spec_l04Reader_is.calls g s0_0 s0_1 s0_2 a1 false t185 t186 t187 w0 _ ?side1 ?side2 A3.out).mono ?_); (case side1 => repeat (first | (with_reducible first | exact HI0.out | apply zah.alloc | apply zah.drewN | apply zah.drew | apply zah.set_0 | apply zah.set_1 | apply zah.set_2) | exact HI0.out)); (case side2 => repeat (first | (with_reducible first | exact HB.out | apply zaf | apply zac | apply zae | refine zai ?_ (zah.ge HI0.out)) | exact HB.out)); rintro e w7 ⟨rfl, hi, hb, hk⟩; refine ⟨_, rfl, ?_⟩; have n0_ := zab.mk (KeepBut.trans (by repeat (first | (with_reducible first | exact HK.out | apply KeepBut.set_ | apply zaB | apply keep_drew | apply keep_alloc) | exact HK.out)) hk (.inl rfl)); have n1_ := zab.mk (hb); have n2_ := zab.mk (hi); clear HK HB HI0; have HK := n0_; have HB := n1_; have HI0 := n2_; clear n0_ n1_ n2_; (try clear hb); (try clear hb2); (try clear hk); (try clear hi)))
 go_ret
 exact ⟨by first | rfl | (simp [zam, zan] <;> rfl) | (simp [*, zam, zan] <;> rfl), by repeat (first | (with_reducible first | exact HI0.out | apply zah.alloc | apply zah.drewN | apply zah.drew | apply zah.set_0 | apply zah.set_1 | apply zah.set_2) | exact HI0.out), by repeat (first | (with_reducible first | exact HB.out | apply zaf | apply zac | apply zae | refine zai ?_ (zah.ge HI0.out)) | exact HB.out), by repeat (first | (with_reducible first | exact HK.out | apply KeepBut.set_ | apply zaB | apply keep_drew | apply keep_alloc) | exact HK.out)⟩
end Go.Proofs.YtfafjbolmeimmaaGreatDoor.P
