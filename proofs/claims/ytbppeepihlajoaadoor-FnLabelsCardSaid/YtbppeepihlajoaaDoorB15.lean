/- Written by a program of this session: plain Lean functions for Go functions, and for each the proof that the call comes to what the function says. -/
import Derived.Test.YtbppeepihlajoaaDoorB0
import Derived.Test.YtbppeepihlajoaaDoorB10
import Derived.Test.YtbppeepihlajoaaDoorB14
namespace Go.Proofs.YtbppeepihlajoaaDoor.P
open Go.RowKit Go.Proofs.YtbppeepihlajoaaDoorW.PrintWords Go.Proofs.YtbppeepihlajoaaDoorW.PrintLast Go.Proofs.YtbppeepihlajoaaDoorW.PrintMore
attribute [local go_sem] max2_int min2_int max_two min_two max_three min_three max_four min_four
set_option linter.unusedVariables false
set_option linter.unusedSimpArgs false
mutual
def zao.l0 : Nat → List Int → List Int → Int → Option (ByteArray)
 | 0, _, _, _ => none
 | k + 1, x0, x3, x4 => if x4 < (x0.length : Int) then (if 0 ≤ x4 then (if (rd x0 x4) < 128 then (if x3.length < 140737488355328 then (zao.l0 k x0 (x3 ++ [(rd x0 x4) % 256]) (wrap64 (x4 + 1))) else (none)) else (zao.l0 k x0 x3 (wrap64 (x4 + 1)))) else (none)) else (if (x3.length : Int) > 0 then (if x3.length < 140737488355328 then (zao.j1 k x0 (x3 ++ [45]) (x3.length : Int) (x3.length : Int)) else (none)) else (zao.j1 k x0 x3 (x3.length : Int) (x3.length : Int)))
def zao.j1 : Nat → List Int → List Int → Int → Int → Option (ByteArray)
 | 0, _, _, _, _ => none
 | k + 1, x0, x3, x5, x6 => zao.l1 k x0 x3 x5 x6 128 0 72
def zao.l1 : Nat → List Int → List Int → Int → Int → Int → Int → Int → Option (ByteArray)
 | 0, _, _, _, _, _, _, _ => none
 | k + 1, x0, x3, x5, x6, x7, x8, x9 => if x5 < (x0.length : Int) then (zao.l2 k x0 x3 x5 x6 x7 x8 x9 1114111 0) else (some (strOfNums x3))
def zao.l2 : Nat → List Int → List Int → Int → Int → Int → Int → Int → Int → Int → Option (ByteArray)
 | 0, _, _, _, _, _, _, _, _, _ => none
 | k + 1, x0, x3, x5, x6, x7, x8, x9, x10, x11 => if x11 < (x0.length : Int) then (if 0 ≤ x11 then (if (rd x0 x11) ≥ x7 then (if (rd x0 x11) < x10 then (zao.l2 k x0 x3 x5 x6 x7 x8 x9 (rd x0 x11) (wrap64 (x11 + 1))) else (zao.l2 k x0 x3 x5 x6 x7 x8 x9 x10 (wrap64 (x11 + 1)))) else (zao.l2 k x0 x3 x5 x6 x7 x8 x9 x10 (wrap64 (x11 + 1)))) else (none)) else (zao.l3 k x0 x3 x5 x6 x10 (wrap64 (x8 + (wrap64 ((wrap64 (x10 - x7)) * (wrap64 (x5 + 1)))))) x9 0)
def zao.l3 : Nat → List Int → List Int → Int → Int → Int → Int → Int → Int → Option (ByteArray)
 | 0, _, _, _, _, _, _, _, _ => none
 | k + 1, x0, x3, x5, x6, x7, x8, x9, x12 => if x12 < (x0.length : Int) then (if 0 ≤ x12 then (if (rd x0 x12) < x7 then (zao.j5 k x0 x3 x5 x6 x7 (wrap64 (x8 + 1)) x9 x12) else (zao.j5 k x0 x3 x5 x6 x7 x8 x9 x12)) else (none)) else (zao.l1 k x0 x3 x5 x6 (wrap64 (x7 + 1)) (wrap64 (x8 + 1)) x9)
def zao.j5 : Nat → List Int → List Int → Int → Int → Int → Int → Int → Int → Option (ByteArray)
 | 0, _, _, _, _, _, _, _, _ => none
 | k + 1, x0, x3, x5, x6, x7, x8, x9, x12 => if 0 ≤ x12 then (if x12 < (x0.length : Int) then (if (rd x0 x12) = x7 then ((zaR.f k x8 x9).bind fun t542 => (if x3.length + t542.length < 140737488355328 then ((zas.f k x8 (wrap64 (x5 + 1)) (x5 == x6)).bind fun t548 => (zao.l3 k x0 (x3 ++ t542) (wrap64 (x5 + 1)) x6 x7 0 t548 (wrap64 (x12 + 1)))) else (none))) else (zao.l3 k x0 x3 x5 x6 x7 x8 x9 (wrap64 (x12 + 1)))) else (none)) else (none)
end
def zao.f (k : Nat) (l0 : List Int) : Option (ByteArray) := zao.l0 k l0 (([] : List Int)) 0
set_option maxHeartbeats 8000000 in
set_option maxRecDepth 100000 in
theorem zao.calls (k : Nat) (A0 : Option Addr) (c0 : Nat) (l0 : List Int) (r : ByteArray) (w : World) (hr0 : Kd.C (Kd.int .i64) w A0 l0.length l0) (hc0 : l0.length ≤ c0) (h : zao.f k l0 = some r) :
  Calls Tryd.prog 55 #[.slice A0 l0.length c0] w fun e w' => e = .returned (.string r) ∧ Below w.heap.size w w' := by
 have HR0 := zac.mk hr0; have HC0 := zac.mk hc0; clear hr0 hc0
 have HB := zac.mk (Below.refl w.heap.size w)
 have H : (zao.l0 k l0 (([] : List Int)) 0) = some r := h
 clear h
 obtain ⟨y526, hy526⟩ : ∃ y_ : List Int, y_ = (([] : List Int)) := ⟨_, rfl⟩
 replace H : (zao.l0 k l0 y526 0) = some r := by first | (rw [hy526]; with_reducible exact H) | (have H2_ := (Option.bind_some _ _).symm.trans H; rw [hy526]; with_reducible exact H2_) | (have H2_ := (Option.bind_some _ _).symm.trans H; with_reducible exact H2_) | with_reducible exact H | (rw [hy526]; exact H) | exact H
 have Ny526 := zac.mk hy526; clear hy526; have H' := zac.mk H; clear H
 go_enter Tryd.func55, Tryd.ntmps55
 go_wp2_with (first | ((with_reducible refine zaW (N := 13) rfl ?_); refine Kd.R_lit (Kd.int .u8) _ 5 ?hg (N := 13) ?hd (xs := ([] : List Int)) (inner := []) (ok := fun _ => True) (okp := fun _ => True) ?hr ?hp (fun _ hk => hk) trivial (Below.refl _ _) (Nat.le_refl _) (by simp) ?_; (case hd => rfl); (case hg => rfl); (case hr => first | (go_simp; done) | (go_simp; rfl)); (case hp => exact (Reps.none _ _)); intro v527 w2 ho3 hb hg_ hnew_; clear hg_ hnew_; (first | rw [← Ny526.out] at ho3 | (simp only [Int.reduceToNat] at ho3; rw [← Ny526.out] at ho3)); have n0_ := zac.mk (Kd.R_lower ho3 (zaJ (by repeat (first | (with_reducible first | exact HB.out | apply zae | apply zaa | apply zad) | exact HB.out)))); have n1_ := zac.mk (zaw (by repeat (first | (with_reducible first | exact HB.out | apply zae | apply zaa | apply zad) | exact HB.out)) hb); clear HB; have HO528 := n0_; have HB := n1_; clear n0_ n1_ hb ho3))
 go_loopg [3, 4] k (fun kq v3 v4 w' => ∃ (x3_1 : List Int) (x4_1 : Int), v4 = .int .i64 x4_1 ∧ zac (zao.l0 kq l0 x3_1 x4_1 = some r) ∧ zac (kq ≤ k) ∧ zac (Kd.R (Kd.int .u8) 5 w' w.heap.size (fun _ => True) v3 x3_1) ∧ zac (Below w.heap.size w w'))
 case atStart => exact ⟨(y526), (0), (by first | rfl | (simp; done) | (simp [*]; done)), H', ⟨Nat.le_refl _⟩, ⟨by (with_reducible repeat (first | apply Kd.zav | apply Kd.zau | apply Kd.R_drew)); exact HO528.out⟩, ⟨by repeat (first | (with_reducible first | exact HB.out | apply zae | apply zaa | apply zad) | exact HB.out)⟩⟩
 case round =>
  clear H'
  obtain ⟨x3_1, x4_1, rfl, HA, HK1, HO_3, HB⟩ := hrel
  cases gk with
  | zero => exact absurd HA.out (by simp [zao.l0])
  | succ k1 =>
   have H := HA.out; clear HA
   simp only [zao.l0] at H
   by_cases c4 : x4_1 < (l0.length : Int)
   ·rw [if_pos c4] at H
    have c4b0 : decide (x4_1 < (l0.length : Int)) = true := decide_eq_true c4
    clear c4
    by_cases c5 : 0 ≤ x4_1
    ·rw [if_pos c5] at H
     have c5b0 : decide (0 ≤ x4_1) = true := decide_eq_true c5
     clear c5
     by_cases c6 : (rd l0 x4_1) < 128
     ·rw [if_pos c6] at H
      have c6b0 : decide ((rd l0 x4_1) < 128) = true := decide_eq_true c6
      clear c6
      by_cases c7 : x3_1.length < 140737488355328
      ·rw [if_pos c7] at H; have LMc7 := zac.mk c7; clear c7
       obtain ⟨y531, hy531⟩ : ∃ y_ : List Int, y_ = (x3_1 ++ [(rd l0 x4_1) % 256]) := ⟨_, rfl⟩
       replace H : (zao.l0 k1 l0 y531 (wrap64 (x4_1 + 1))) = some r := by first | (rw [hy531]; with_reducible exact H) | (have H2_ := (Option.bind_some _ _).symm.trans H; rw [hy531]; with_reducible exact H2_) | (have H2_ := (Option.bind_some _ _).symm.trans H; with_reducible exact H2_) | with_reducible exact H | (rw [hy531]; exact H) | exact H
       have Ny531 := zac.mk hy531; clear hy531; have H' := zac.mk H; clear H
       have p529 : 0 ≤ (x4_1 : Int) := of_decide_eq_true (by first | (with_reducible assumption) | assumption)
       have q529 : x4_1 < (l0.length : Int) := of_decide_eq_true (by first | (with_reducible assumption) | assumption)
       obtain ⟨ad529, e529, hx529_0⟩ := Kd.at_int HR0.out x4_1 p529 q529
       cases e529
       replace hx529_0 := (HB.out.cell (World.block_lt_of_cell? w _ hx529_0)).trans hx529_0
       replace p529 := eq_true p529
       replace q529 := eq_true q529
       have p530 : 0 ≤ (x4_1 : Int) := of_decide_eq_true (by first | (with_reducible assumption) | assumption)
       have q530 : x4_1 < (l0.length : Int) := of_decide_eq_true (by first | (with_reducible assumption) | assumption)
       obtain ⟨ad530, e530, hx530_0⟩ := Kd.at_int HR0.out x4_1 p530 q530
       obtain rfl : ad529 = ad530 := (by injection e530)
       replace hx530_0 := (HB.out.cell (World.block_lt_of_cell? w _ hx530_0)).trans hx530_0
       replace p530 := eq_true p530
       replace q530 := eq_true q530
       go_wp2_with (first | ((with_reducible refine gate_builtin (b := .append) (xs := #[.tmp 25, .tmp 31]) rfl ?_); at_builtin; refine Kd.R_append (Kd.int .u8) (w0 := w) w.heap.size rfl (.tmp 25) (.tmp 31) 22 5 (.int .u8 0) 1 rfl Tryd.underlying22 info5 rfl (by decide) (by omega) u3 x3_1 ((rd l0 x4_1) % 256) [.int .u8 ((rd l0 x4_1) % 256)] (fun _ => True) (fun _ => False) rfl rfl ?aP (fun _ hk => hk.elim) ?aF ?aO ?aB ?aS ?aL ?_; (case aP => exact rfl); (case aB => exact (by repeat (first | (with_reducible first | exact HB.out | apply zae | apply zaa | apply zad) | exact HB.out))); (case aF => exact (fun _ _ => trivial)); (case aO => exact (by (with_reducible repeat (first | apply Kd.zav | apply Kd.zau | apply Kd.R_drew)); exact HO_3.out)); (case aS => exact (zaJ (by repeat (first | (with_reducible first | exact HB.out | apply zae | apply zaa | apply zad) | exact HB.out)))); (case aL => have := LMc7.out; omega); intro v532 w8 ho hb hg hat; rw [← Ny531.out] at ho; have n0_ := zac.mk (hb); have n1_ := zac.mk (ho); clear HB HO_3; have HB := n0_; have HO533 := n1_; clear n0_ n1_ ho hb hg hat))
       go_roundg k1
       case measure => have := HK1.out; omega
       case rel => exact ⟨(y531), (wrap64 (x4_1 + 1)), (by first | rfl | (simp; done) | (simp [*]; done)), H', ⟨by have := HK1.out; omega⟩, ⟨by (with_reducible repeat (first | apply Kd.zav | apply Kd.zau | apply Kd.R_drew)); exact HO533.out⟩, ⟨by repeat (first | (with_reducible first | exact HB.out | apply zae | apply zaa | apply zad) | exact HB.out)⟩⟩
      rw [if_neg c7] at H
      exact absurd H (by simp)
     rw [if_neg c6] at H
     have c6b0 : decide ((rd l0 x4_1) < 128) = false := decide_eq_false c6
     clear c6; have H' := zac.mk H; clear H
     have p529 : 0 ≤ (x4_1 : Int) := of_decide_eq_true (by first | (with_reducible assumption) | assumption)
     have q529 : x4_1 < (l0.length : Int) := of_decide_eq_true (by first | (with_reducible assumption) | assumption)
     obtain ⟨ad529, e529, hx529_0⟩ := Kd.at_int HR0.out x4_1 p529 q529
     cases e529
     replace hx529_0 := (HB.out.cell (World.block_lt_of_cell? w _ hx529_0)).trans hx529_0
     replace p529 := eq_true p529
     replace q529 := eq_true q529
     go_wp2
     go_roundg k1
     case measure => have := HK1.out; omega
     case rel => exact ⟨(x3_1), (wrap64 (x4_1 + 1)), (by first | rfl | (simp; done) | (simp [*]; done)), H', ⟨by have := HK1.out; omega⟩, ⟨by (with_reducible repeat (first | apply Kd.zav | apply Kd.zau | apply Kd.R_drew)); exact HO_3.out⟩, ⟨by repeat (first | (with_reducible first | exact HB.out | apply zae | apply zaa | apply zad) | exact HB.out)⟩⟩
    rw [if_neg c5] at H
    exact absurd H (by simp)
   rw [if_neg c4] at H
   have c4b0 : decide (x4_1 < (l0.length : Int)) = false := decide_eq_false c4
   clear c4; have HC9 := zac.mk H; clear H
   obtain ⟨Ao10, co10, eo10⟩ := Kd.R_slice HO_3.out
   subst eo10
   go_upto_if 37 with (fail)
   go_cut [3] (fun v3 wc => ∃ (kq : Nat) (x3_8 : List Int), zac (zao.j1 kq l0 x3_8 (x3_1.length : Int) (x3_1.length : Int) = some r) ∧ zac (kq ≤ k1) ∧ zac (Kd.R (Kd.int .u8) 5 wc w.heap.size (fun _ => True) v3 x3_8) ∧ zac (Below w.heap.size w wc))
   case first =>
    have H := HC9.out; clear HC9
    by_cases c11 : (x3_1.length : Int) > 0
    ·rw [if_pos c11] at H
     have c11b0 : decide (0 < (x3_1.length : Int)) = true := decide_eq_true c11
     have c11b1 : decide (0 < x3_1.length) = true := decide_eq_true (by omega)
     clear c11
     (first | rw [c11b0] | rw [c11b1] | (simp only [i64_w, i32_w]; rw [c11b0]) | skip)
     by_cases c12 : x3_1.length < 140737488355328
     ·rw [if_pos c12] at H; have LMc12 := zac.mk c12; clear c12
      obtain ⟨y534, hy534⟩ : ∃ y_ : List Int, y_ = (x3_1 ++ [45]) := ⟨_, rfl⟩
      replace H : (zao.j1 k1 l0 y534 (x3_1.length : Int) (x3_1.length : Int)) = some r := by first | (rw [hy534]; with_reducible exact H) | (have H2_ := (Option.bind_some _ _).symm.trans H; rw [hy534]; with_reducible exact H2_) | (have H2_ := (Option.bind_some _ _).symm.trans H; with_reducible exact H2_) | with_reducible exact H | (rw [hy534]; exact H) | exact H
      have Ny534 := zac.mk hy534; clear hy534; have H' := zac.mk H; clear H
      go_wp2_with (first | ((with_reducible refine gate_builtin (b := .append) (xs := #[.tmp 38, .tmp 39]) rfl ?_); at_builtin; refine Kd.R_append (Kd.int .u8) (w0 := w) w.heap.size rfl (.tmp 38) (.tmp 39) 22 5 (.int .u8 0) 1 rfl Tryd.underlying22 info5 rfl (by decide) (by omega) (.slice Ao10 x3_1.length co10) x3_1 45 [.int .u8 45] (fun _ => True) (fun _ => False) rfl rfl ?aP (fun _ hk => hk.elim) ?aF ?aO ?aB ?aS ?aL ?_; (case aP => exact rfl); (case aB => exact (by repeat (first | (with_reducible first | exact HB.out | apply zae | apply zaa | apply zad) | exact HB.out))); (case aF => exact (fun _ _ => trivial)); (case aO => exact (by (with_reducible repeat (first | apply Kd.zav | apply Kd.zau | apply Kd.R_drew)); exact HO_3.out)); (case aS => exact (zaJ (by repeat (first | (with_reducible first | exact HB.out | apply zae | apply zaa | apply zad) | exact HB.out)))); (case aL => have := LMc12.out; omega); intro v535 w13 ho hb hg hat; rw [← Ny534.out] at ho; have n0_ := zac.mk (hb); have n1_ := zac.mk (ho); clear HB HO_3; have HB := n0_; have HO536 := n1_; clear n0_ n1_ ho hb hg hat))
      go_meet
      case rel => exact ⟨_, (y534), H', ⟨by have := HK1.out; first | omega | exact Nat.le_refl _⟩, ⟨by (with_reducible repeat (first | apply Kd.zav | apply Kd.zau | apply Kd.R_drew)); exact HO536.out⟩, ⟨by repeat (first | (with_reducible first | exact HB.out | apply zae | apply zaa | apply zad) | exact HB.out)⟩⟩
     rw [if_neg c12] at H
     exact absurd H (by simp)
    rw [if_neg c11] at H
    have c11b0 : decide (0 < (x3_1.length : Int)) = false := decide_eq_false c11
    have c11b1 : decide (0 < x3_1.length) = false := decide_eq_false (by omega)
    clear c11
    (first | rw [c11b0] | rw [c11b1] | (simp only [i64_w, i32_w]; rw [c11b0]) | skip)
    have H' := zac.mk H; clear H
    go_wp2
    go_meet
    case rel => exact ⟨_, (x3_1), H', ⟨by have := HK1.out; first | omega | exact Nat.le_refl _⟩, ⟨by (with_reducible repeat (first | apply Kd.zav | apply Kd.zau | apply Kd.R_drew)); exact HO_3.out⟩, ⟨by repeat (first | (with_reducible first | exact HB.out | apply zae | apply zaa | apply zad) | exact HB.out)⟩⟩
   case rest =>
    clear HC9
    try clear c4b0
    obtain ⟨kq, x3_8, HA, HJ8, HO_3, HB⟩ := hcut
    cases kq with
    | zero => exact absurd HA.out (by simp [zao.j1])
    | succ kj8 =>
     have H := HA.out; clear HA
     simp only [zao.j1] at H
     have H' := zac.mk H; clear H
     go_wp2
     go_loopg [3, 5, 7, 8, 9] kj8 (fun kq v3 v5 v7 v8 v9 w' => ∃ (x3_3 : List Int) (x5_3 : Int) (x7_3 : Int) (x8_3 : Int) (x9_3 : Int), v5 = .int .i64 x5_3 ∧ v7 = .int .i64 x7_3 ∧ v8 = .int .i64 x8_3 ∧ v9 = .int .i64 x9_3 ∧ zac (zao.l1 kq l0 x3_3 x5_3 (x3_1.length : Int) x7_3 x8_3 x9_3 = some r) ∧ zac (kq ≤ kj8) ∧ zac (Kd.R (Kd.int .u8) 5 w' w.heap.size (fun _ => True) v3 x3_3) ∧ zac (Below w.heap.size w w'))
     case atStart => exact ⟨(x3_8), ((x3_1.length : Int)), (128), (0), (72), (by first | rfl | (simp; done) | (simp [*]; done)), (by first | rfl | (simp; done) | (simp [*]; done)), (by first | rfl | (simp; done) | (simp [*]; done)), (by first | rfl | (simp; done) | (simp [*]; done)), H', ⟨Nat.le_refl _⟩, ⟨by (with_reducible repeat (first | apply Kd.zav | apply Kd.zau | apply Kd.R_drew)); exact HO_3.out⟩, ⟨by repeat (first | (with_reducible first | exact HB.out | apply zae | apply zaa | apply zad) | exact HB.out)⟩⟩
     case round =>
      clear H'
      try clear c4b0
      obtain ⟨x3_3, x5_3, x7_3, x8_3, x9_3, rfl, rfl, rfl, rfl, HA, HK3, HO_3, HB⟩ := hrel
      cases gk with
      | zero => exact absurd HA.out (by simp [zao.l1])
      | succ k3 =>
       have H := HA.out; clear HA
       simp only [zao.l1] at H
       by_cases c14 : x5_3 < (l0.length : Int)
       ·rw [if_pos c14] at H
        have c14b0 : decide (x5_3 < (l0.length : Int)) = true := decide_eq_true c14
        clear c14; have H' := zac.mk H; clear H
        go_wp2
        go_loopg [10, 11] k3 (fun kq v10 v11 w' => ∃ (x10_4 : Int) (x11_4 : Int), v10 = .int .i64 x10_4 ∧ v11 = .int .i64 x11_4 ∧ zac (zao.l2 kq l0 x3_3 x5_3 (x3_1.length : Int) x7_3 x8_3 x9_3 x10_4 x11_4 = some r) ∧ zac (kq ≤ k3) ∧ zac (Kd.R (Kd.int .u8) 5 w' w.heap.size (fun _ => True) u3 x3_3) ∧ zac (Below w.heap.size w w'))
        case atStart => exact ⟨(1114111), (0), (by first | rfl | (simp; done) | (simp [*]; done)), (by first | rfl | (simp; done) | (simp [*]; done)), H', ⟨Nat.le_refl _⟩, ⟨by (with_reducible repeat (first | apply Kd.zav | apply Kd.zau | apply Kd.R_drew)); exact HO_3.out⟩, ⟨by repeat (first | (with_reducible first | exact HB.out | apply zae | apply zaa | apply zad) | exact HB.out)⟩⟩
        case round =>
         clear H'
         try clear c4b0
         try clear c14b0
         obtain ⟨x10_4, x11_4, rfl, rfl, HA, HK4, HO_3, HB⟩ := hrel
         cases gk with
         | zero => exact absurd HA.out (by simp [zao.l2])
         | succ k4 =>
          have H := HA.out; clear HA
          simp only [zao.l2] at H
          by_cases c15 : x11_4 < (l0.length : Int)
          ·rw [if_pos c15] at H
           have c15b0 : decide (x11_4 < (l0.length : Int)) = true := decide_eq_true c15
           clear c15
           by_cases c16 : 0 ≤ x11_4
           ·rw [if_pos c16] at H
            have c16b0 : decide (0 ≤ x11_4) = true := decide_eq_true c16
            clear c16
            by_cases c17 : (rd l0 x11_4) ≥ x7_3
            ·rw [if_pos c17] at H
             have c17b0 : decide (x7_3 ≤ (rd l0 x11_4)) = true := decide_eq_true c17
             clear c17
             by_cases c18 : (rd l0 x11_4) < x10_4
             ·rw [if_pos c18] at H
              have c18b0 : decide ((rd l0 x11_4) < x10_4) = true := decide_eq_true c18
              clear c18; have H' := zac.mk H; clear H
              have p537 : 0 ≤ (x11_4 : Int) := of_decide_eq_true (by first | (with_reducible assumption) | assumption)
              have q537 : x11_4 < (l0.length : Int) := of_decide_eq_true (by first | (with_reducible assumption) | assumption)
              obtain ⟨ad537, e537, hx537_0⟩ := Kd.at_int HR0.out x11_4 p537 q537
              cases e537
              replace hx537_0 := (HB.out.cell (World.block_lt_of_cell? w _ hx537_0)).trans hx537_0
              replace p537 := eq_true p537
              replace q537 := eq_true q537
              have p538 : 0 ≤ (x11_4 : Int) := of_decide_eq_true (by first | (with_reducible assumption) | assumption)
              have q538 : x11_4 < (l0.length : Int) := of_decide_eq_true (by first | (with_reducible assumption) | assumption)
              obtain ⟨ad538, e538, hx538_0⟩ := Kd.at_int HR0.out x11_4 p538 q538
              obtain rfl : ad537 = ad538 := (by injection e538)
              replace hx538_0 := (HB.out.cell (World.block_lt_of_cell? w _ hx538_0)).trans hx538_0
              replace p538 := eq_true p538
              replace q538 := eq_true q538
              have p539 : 0 ≤ (x11_4 : Int) := of_decide_eq_true (by first | (with_reducible assumption) | assumption)
              have q539 : x11_4 < (l0.length : Int) := of_decide_eq_true (by first | (with_reducible assumption) | assumption)
              obtain ⟨ad539, e539, hx539_0⟩ := Kd.at_int HR0.out x11_4 p539 q539
              obtain rfl : ad537 = ad539 := (by injection e539)
              replace hx539_0 := (HB.out.cell (World.block_lt_of_cell? w _ hx539_0)).trans hx539_0
              replace p539 := eq_true p539
              replace q539 := eq_true q539
              go_wp2
              go_roundg k4
              case measure => have := HK1.out; have := HJ8.out; have := HK3.out; have := HK4.out; omega
              case rel => exact ⟨(rd l0 x11_4), (wrap64 (x11_4 + 1)), (by first | rfl | (simp; done) | (simp [*]; done)), (by first | rfl | (simp; done) | (simp [*]; done)), H', ⟨by have := HK1.out; have := HJ8.out; have := HK3.out; have := HK4.out; omega⟩, ⟨by (with_reducible repeat (first | apply Kd.zav | apply Kd.zau | apply Kd.R_drew)); exact HO_3.out⟩, ⟨by repeat (first | (with_reducible first | exact HB.out | apply zae | apply zaa | apply zad) | exact HB.out)⟩⟩
             rw [if_neg c18] at H
             have c18b0 : decide ((rd l0 x11_4) < x10_4) = false := decide_eq_false c18
             clear c18; have H' := zac.mk H; clear H
             have p537 : 0 ≤ (x11_4 : Int) := of_decide_eq_true (by first | (with_reducible assumption) | assumption)
             have q537 : x11_4 < (l0.length : Int) := of_decide_eq_true (by first | (with_reducible assumption) | assumption)
             obtain ⟨ad537, e537, hx537_0⟩ := Kd.at_int HR0.out x11_4 p537 q537
             cases e537
             replace hx537_0 := (HB.out.cell (World.block_lt_of_cell? w _ hx537_0)).trans hx537_0
             replace p537 := eq_true p537
             replace q537 := eq_true q537
             have p538 : 0 ≤ (x11_4 : Int) := of_decide_eq_true (by first | (with_reducible assumption) | assumption)
             have q538 : x11_4 < (l0.length : Int) := of_decide_eq_true (by first | (with_reducible assumption) | assumption)
             obtain ⟨ad538, e538, hx538_0⟩ := Kd.at_int HR0.out x11_4 p538 q538
             obtain rfl : ad537 = ad538 := (by injection e538)
             replace hx538_0 := (HB.out.cell (World.block_lt_of_cell? w _ hx538_0)).trans hx538_0
             replace p538 := eq_true p538
             replace q538 := eq_true q538
             go_wp2
             go_roundg k4
             case measure => have := HK1.out; have := HJ8.out; have := HK3.out; have := HK4.out; omega
             case rel => exact ⟨(x10_4), (wrap64 (x11_4 + 1)), (by first | rfl | (simp; done) | (simp [*]; done)), (by first | rfl | (simp; done) | (simp [*]; done)), H', ⟨by have := HK1.out; have := HJ8.out; have := HK3.out; have := HK4.out; omega⟩, ⟨by (with_reducible repeat (first | apply Kd.zav | apply Kd.zau | apply Kd.R_drew)); exact HO_3.out⟩, ⟨by repeat (first | (with_reducible first | exact HB.out | apply zae | apply zaa | apply zad) | exact HB.out)⟩⟩
            rw [if_neg c17] at H
            have c17b0 : decide (x7_3 ≤ (rd l0 x11_4)) = false := decide_eq_false c17
            clear c17; have H' := zac.mk H; clear H
            have p537 : 0 ≤ (x11_4 : Int) := of_decide_eq_true (by first | (with_reducible assumption) | assumption)
            have q537 : x11_4 < (l0.length : Int) := of_decide_eq_true (by first | (with_reducible assumption) | assumption)
            obtain ⟨ad537, e537, hx537_0⟩ := Kd.at_int HR0.out x11_4 p537 q537
            cases e537
            replace hx537_0 := (HB.out.cell (World.block_lt_of_cell? w _ hx537_0)).trans hx537_0
            replace p537 := eq_true p537
            replace q537 := eq_true q537
            go_wp2
            go_roundg k4
            case measure => have := HK1.out; have := HJ8.out; have := HK3.out; have := HK4.out; omega
            case rel => exact ⟨(x10_4), (wrap64 (x11_4 + 1)), (by first | rfl | (simp; done) | (simp [*]; done)), (by first | rfl | (simp; done) | (simp [*]; done)), H', ⟨by have := HK1.out; have := HJ8.out; have := HK3.out; have := HK4.out; omega⟩, ⟨by (with_reducible repeat (first | apply Kd.zav | apply Kd.zau | apply Kd.R_drew)); exact HO_3.out⟩, ⟨by repeat (first | (with_reducible first | exact HB.out | apply zae | apply zaa | apply zad) | exact HB.out)⟩⟩
           rw [if_neg c16] at H
           exact absurd H (by simp)
          rw [if_neg c15] at H
          have c15b0 : decide (x11_4 < (l0.length : Int)) = false := decide_eq_false c15
          clear c15; have H' := zac.mk H; clear H
          go_wp2
          go_loopg [3, 5, 8, 9, 12] k4 (fun kq v3 v5 v8 v9 v12 w' => ∃ (x3_5 : List Int) (x5_5 : Int) (x8_5 : Int) (x9_5 : Int) (x12_5 : Int), v5 = .int .i64 x5_5 ∧ v8 = .int .i64 x8_5 ∧ v9 = .int .i64 x9_5 ∧ v12 = .int .i64 x12_5 ∧ zac (zao.l3 kq l0 x3_5 x5_5 (x3_1.length : Int) x10_4 x8_5 x9_5 x12_5 = some r) ∧ zac (kq ≤ k4) ∧ zac (Kd.R (Kd.int .u8) 5 w' w.heap.size (fun _ => True) v3 x3_5) ∧ zac (Below w.heap.size w w'))
          case atStart => exact ⟨(x3_3), (x5_3), (wrap64 (x8_3 + (wrap64 ((wrap64 (x10_4 - x7_3)) * (wrap64 (x5_3 + 1)))))), (x9_3), (0), (by first | rfl | (simp; done) | (simp [*]; done)), (by first | rfl | (simp; done) | (simp [*]; done)), (by first | rfl | (simp; done) | (simp [*]; done)), (by first | rfl | (simp; done) | (simp [*]; done)), H', ⟨Nat.le_refl _⟩, ⟨by (with_reducible repeat (first | apply Kd.zav | apply Kd.zau | apply Kd.R_drew)); exact HO_3.out⟩, ⟨by repeat (first | (with_reducible first | exact HB.out | apply zae | apply zaa | apply zad) | exact HB.out)⟩⟩
          case round =>
           clear H'
           try clear c4b0
           try clear c14b0
           try clear c15b0
           obtain ⟨x3_5, x5_5, x8_5, x9_5, x12_5, rfl, rfl, rfl, rfl, HA, HK5, HO_3, HB⟩ := hrel
           cases gk with
           | zero => exact absurd HA.out (by simp [zao.l3])
           | succ k5 =>
            have H := HA.out; clear HA
            simp only [zao.l3] at H
            by_cases c19 : x12_5 < (l0.length : Int)
            ·rw [if_pos c19] at H
             have c19b0 : decide (x12_5 < (l0.length : Int)) = true := decide_eq_true c19
             clear c19
             by_cases c20 : 0 ≤ x12_5
             ·rw [if_pos c20] at H
              have c20b0 : decide (0 ≤ x12_5) = true := decide_eq_true c20
              clear c20; have HC21 := zac.mk H; clear H
              have p540 : 0 ≤ (x12_5 : Int) := of_decide_eq_true (by first | (with_reducible assumption) | assumption)
              have q540 : x12_5 < (l0.length : Int) := of_decide_eq_true (by first | (with_reducible assumption) | assumption)
              obtain ⟨ad540, e540, hx540_0⟩ := Kd.at_int HR0.out x12_5 p540 q540
              cases e540
              replace hx540_0 := (HB.out.cell (World.block_lt_of_cell? w _ hx540_0)).trans hx540_0
              replace p540 := eq_true p540
              replace q540 := eq_true q540
              go_upto_if 89 with (fail)
              go_cut [8] (fun v8 wc => ∃ (kq : Nat) (x8_20 : Int), v8 = .int .i64 x8_20 ∧ zac (zao.j5 kq l0 x3_5 x5_5 (x3_1.length : Int) x10_4 x8_20 x9_5 x12_5 = some r) ∧ zac (kq ≤ k5) ∧ zac (Kd.R (Kd.int .u8) 5 wc w.heap.size (fun _ => True) u3 x3_5) ∧ zac (Below w.heap.size w wc))
              case first =>
               have H := HC21.out; clear HC21
               by_cases c22 : (rd l0 x12_5) < x10_4
               ·rw [if_pos c22] at H
                have c22b0 : decide ((rd l0 x12_5) < x10_4) = true := decide_eq_true c22
                clear c22
                (first | rw [c22b0] | rw [c22b1] | (simp only [i64_w, i32_w]; rw [c22b0]) | skip)
                have H' := zac.mk H; clear H
                go_wp2
                go_meet
                case rel => exact ⟨_, (wrap64 (x8_5 + 1)), (by first | rfl | (simp; done) | (simp [*]; done)), H', ⟨by have := HK1.out; have := HJ8.out; have := HK3.out; have := HK4.out; have := HK5.out; first | omega | exact Nat.le_refl _⟩, ⟨by (with_reducible repeat (first | apply Kd.zav | apply Kd.zau | apply Kd.R_drew)); exact HO_3.out⟩, ⟨by repeat (first | (with_reducible first | exact HB.out | apply zae | apply zaa | apply zad) | exact HB.out)⟩⟩
               rw [if_neg c22] at H
               have c22b0 : decide ((rd l0 x12_5) < x10_4) = false := decide_eq_false c22
               clear c22
               (first | rw [c22b0] | rw [c22b1] | (simp only [i64_w, i32_w]; rw [c22b0]) | skip)
               have H' := zac.mk H; clear H
               go_wp2
               go_meet
               case rel => exact ⟨_, (x8_5), (by first | rfl | (simp; done) | (simp [*]; done)), H', ⟨by have := HK1.out; have := HJ8.out; have := HK3.out; have := HK4.out; have := HK5.out; first | omega | exact Nat.le_refl _⟩, ⟨by (with_reducible repeat (first | apply Kd.zav | apply Kd.zau | apply Kd.R_drew)); exact HO_3.out⟩, ⟨by repeat (first | (with_reducible first | exact HB.out | apply zae | apply zaa | apply zad) | exact HB.out)⟩⟩
              case rest =>
               clear HC21
               try clear c4b0
               try clear c14b0
               try clear c15b0
               try clear c19b0
               try clear c20b0
               try clear hx540_0
               try clear p540
               try clear q540
               obtain ⟨kq, x8_20, rfl, HA, HJ20, HO_3, HB⟩ := hcut
               cases kq with
               | zero => exact absurd HA.out (by simp [zao.j5])
               | succ kj20 =>
                have H := HA.out; clear HA
                simp only [zao.j5] at H
                by_cases c23 : 0 ≤ x12_5
                ·rw [if_pos c23] at H
                 have c23b0 : decide (0 ≤ x12_5) = true := decide_eq_true c23
                 clear c23
                 by_cases c24 : x12_5 < (l0.length : Int)
                 ·rw [if_pos c24] at H
                  have c24b0 : decide (x12_5 < (l0.length : Int)) = true := decide_eq_true c24
                  clear c24
                  by_cases c25 : (rd l0 x12_5) = x10_4
                  ·rw [if_pos c25] at H
                   have c25b0 : ((rd l0 x12_5) == x10_4) = true := beq_iff_eq.mpr c25
                   have c25b1 : ((rd l0 x12_5) != x10_4) = false := bne_eq_false_iff_eq.mpr c25
                   clear c25; replace H := Option.bind_eq_some_iff.mp H
                   obtain ⟨t542, A260, H⟩ := H
                   replace H : (if x3_5.length + t542.length < 140737488355328 then ((zas.f kj20 x8_20 (wrap64 (x5_5 + 1)) (x5_5 == (x3_1.length : Int))).bind fun t548 => (zao.l3 kj20 l0 (x3_5 ++ t542) (wrap64 (x5_5 + 1)) (x3_1.length : Int) x10_4 0 t548 (wrap64 (x12_5 + 1)))) else (none)) = some r := H
                   have A26 := zac.mk A260; clear A260
                   by_cases c27 : x3_5.length + t542.length < 140737488355328
                   ·rw [if_pos c27] at H; have LMc27 := zac.mk c27; clear c27
                    obtain ⟨y545, hy545⟩ : ∃ y_ : List Int, y_ = (x3_5 ++ t542) := ⟨_, rfl⟩
                    replace H : ((zas.f kj20 x8_20 (wrap64 (x5_5 + 1)) (x5_5 == (x3_1.length : Int))).bind fun t548 => (zao.l3 kj20 l0 y545 (wrap64 (x5_5 + 1)) (x3_1.length : Int) x10_4 0 t548 (wrap64 (x12_5 + 1)))) = some r := by first | (rw [hy545]; with_reducible exact H) | (have H2_ := (Option.bind_some _ _).symm.trans H; rw [hy545]; with_reducible exact H2_) | (have H2_ := (Option.bind_some _ _).symm.trans H; with_reducible exact H2_) | with_reducible exact H | (rw [hy545]; exact H) | exact H
                    have Ny545 := zac.mk hy545; clear hy545; replace H := Option.bind_eq_some_iff.mp H
                    obtain ⟨t548, A280, H⟩ := H
                    replace H : (zao.l3 kj20 l0 y545 (wrap64 (x5_5 + 1)) (x3_1.length : Int) x10_4 0 t548 (wrap64 (x12_5 + 1))) = some r := H
                    have A28 := zac.mk A280; clear A280; have H' := zac.mk H; clear H
                    have p541 : 0 ≤ (x12_5 : Int) := of_decide_eq_true (by first | (with_reducible assumption) | assumption)
                    have q541 : x12_5 < (l0.length : Int) := of_decide_eq_true (by first | (with_reducible assumption) | assumption)
                    obtain ⟨ad541, e541, hx541_0⟩ := Kd.at_int HR0.out x12_5 p541 q541
                    obtain rfl : ad540 = ad541 := (by injection e541)
                    replace hx541_0 := (HB.out.cell (World.block_lt_of_cell? w _ hx541_0)).trans hx541_0
                    replace p541 := eq_true p541
                    replace q541 := eq_true q541
                    go_wp2_with (first | ((with_reducible refine zak (f := 99) rfl ?_); refine zaG (some 101) rfl rfl Tryd.func99 (by kernel_rfl) rfl #[.int .i64 x8_20, .int .i64 x9_5] rfl (by (try simp only [List.map_toArray, List.map_cons, List.map_nil]); first | done | rfl | (simp only [List.length_drop, List.length_take]; rfl)) ?_; (with_reducible refine (zaR.calls kj20 x8_20 x9_5 t542 _ A26.out).mono ?_); rintro e w29 ⟨v543, rfl, ho0, hb⟩; refine ⟨_, rfl, ?_⟩; have n0_ := zac.mk (Kd.R_elder' (by (with_reducible repeat (first | apply Kd.zav | apply Kd.zau | apply Kd.R_drew)); exact HO_3.out) (Kd.R_base ho0) hb); have n1_ := zac.mk (Kd.R_lower (Kd.R_new' ho0 (Kd.R_lt (by (with_reducible repeat (first | apply Kd.zav | apply Kd.zau | apply Kd.R_drew)); exact HO_3.out))) (zaJ (by repeat (first | (with_reducible first | exact HB.out | apply zae | apply zaa | apply zad) | exact HB.out)))); have n2_ := zac.mk (zaw (by repeat (first | (with_reducible first | exact HB.out | apply zae | apply zaa | apply zad) | exact HB.out)) hb); clear HO_3 HB; have HO_3 := n0_; have HO544 := n1_; have HB := n2_; clear n0_ n1_ n2_; (try clear hb); (try clear hb2); (try clear hk); (try clear hi); (try clear ho0); obtain ⟨Ao31, co31, eo31⟩ := Kd.R_slice HO544.out; subst eo31) | ((with_reducible refine gate_builtin (b := .append) (xs := #[.tmp 98, .tmp 101]) rfl ?_); at_builtin; refine Kd.R_append_rows (Kd.int .u8) (w0 := w) w.heap.size rfl (.tmp 98) (.tmp 101) 22 5 (.int .u8 0) 1 rfl Tryd.underlying22 info5 rfl (by decide) (by omega) u3 x3_5 t542 _ _ _ (fun k_ => some k_ ≠ (.slice Ao31 t542.length co31 : Value).ownBlock) (fun _ => False) rfl rfl ?aO ?aR (fun _ _ h => h) (fun _ h => h.elim) ?aF ?aB ?aS ?aL ?_; (case aR => repeat (first | exact (Kd.zaY HO544.out).2.2 | (with_reducible refine Kd.C_alloc ?_ _) | (with_reducible refine Kd.C_drewN ?_ _) | (with_reducible refine Kd.C_drew ?_))); (case aB => exact (by repeat (first | (with_reducible first | exact HB.out | apply zae | apply zaa | apply zad) | exact HB.out))); (case aF => exact (fun k_ hk => Kd.fresh' (Kd.R_lt (by (with_reducible repeat (first | apply Kd.zav | apply Kd.zau | apply Kd.R_drew)); exact HO544.out)) k_ hk)); (case aO => exact (by (with_reducible repeat (first | apply Kd.zav | apply Kd.zau | apply Kd.R_drew)); exact Kd.R_mono HO_3.out (fun _ hk => hk.2))); (case aS => exact (zaJ (by repeat (first | (with_reducible first | exact HB.out | apply zae | apply zaa | apply zad) | exact HB.out)))); (case aL => have := LMc27.out; omega); intro v546 w30 ho hb hg hat; rw [← Ny545.out] at ho; have n0_ := zac.mk (Kd.R_after (ok := (fun _ => True)) (by (with_reducible repeat (first | apply Kd.zav | apply Kd.zau | apply Kd.R_drew)); exact HO544.out) hg hat); have n1_ := zac.mk (hb); have n2_ := zac.mk (ho); clear HO544 HB HO_3; have HO544 := n0_; have HB := n1_; have HO547 := n2_; clear n0_ n1_ n2_ ho hb hg hat) | ((with_reducible refine zak (f := 100) rfl ?_); refine zaG (some 109) rfl rfl Tryd.func100 (by kernel_rfl) rfl #[.int .i64 x8_20, .int .i64 (wrap64 (x5_5 + 1)), .bool (x5_5 == (x3_1.length : Int))] rfl (by (try simp only [List.map_toArray, List.map_cons, List.map_nil]); first | done | rfl | (simp only [List.length_drop, List.length_take]; rfl)) ?_; (with_reducible refine (zas.calls kj20 x8_20 (wrap64 (x5_5 + 1)) (x5_5 == (x3_1.length : Int)) t548 _ A28.out).mono ?_); rintro e w' ⟨rfl, ⟨nd, rfl⟩⟩; refine ⟨_, rfl, ?_⟩))
                    go_roundg kj20
                    case measure => have := HK1.out; have := HJ8.out; have := HK3.out; have := HK4.out; have := HK5.out; have := HJ20.out; omega
                    case rel => exact ⟨(y545), (wrap64 (x5_5 + 1)), (0), (t548), (wrap64 (x12_5 + 1)), (by first | rfl | (simp; done) | (simp [*]; done)), (by first | rfl | (simp; done) | (simp [*]; done)), (by first | rfl | (simp; done) | (simp [*]; done)), (by first | rfl | (simp; done) | (simp [*]; done)), H', ⟨by have := HK1.out; have := HJ8.out; have := HK3.out; have := HK4.out; have := HK5.out; have := HJ20.out; omega⟩, ⟨by (with_reducible repeat (first | apply Kd.zav | apply Kd.zau | apply Kd.R_drew)); exact Kd.R_mono HO547.out (fun _ hk => trivial)⟩, ⟨by repeat (first | (with_reducible first | exact HB.out | apply zae | apply zaa | apply zad) | exact HB.out)⟩⟩
                   rw [if_neg c27] at H
                   exact absurd H (by simp)
                  rw [if_neg c25] at H
                  have c25b0 : ((rd l0 x12_5) == x10_4) = false := beq_eq_false_iff_ne.mpr c25
                  have c25b1 : ((rd l0 x12_5) != x10_4) = true := bne_iff_ne.mpr c25
                  have H' := zac.mk H; clear H
                  have p541 : 0 ≤ (x12_5 : Int) := of_decide_eq_true (by first | (with_reducible assumption) | assumption)
                  have q541 : x12_5 < (l0.length : Int) := of_decide_eq_true (by first | (with_reducible assumption) | assumption)
                  obtain ⟨ad541, e541, hx541_0⟩ := Kd.at_int HR0.out x12_5 p541 q541
                  obtain rfl : ad540 = ad541 := (by injection e541)
                  replace hx541_0 := (HB.out.cell (World.block_lt_of_cell? w _ hx541_0)).trans hx541_0
                  replace p541 := eq_true p541
                  replace q541 := eq_true q541
                  go_wp2
                  go_roundg kj20
                  case measure => have := HK1.out; have := HJ8.out; have := HK3.out; have := HK4.out; have := HK5.out; have := HJ20.out; omega
                  case rel => exact ⟨(x3_5), (x5_5), (x8_20), (x9_5), (wrap64 (x12_5 + 1)), (by first | rfl | (simp; done) | (simp [*]; done)), (by first | rfl | (simp; done) | (simp [*]; done)), (by first | rfl | (simp; done) | (simp [*]; done)), (by first | rfl | (simp; done) | (simp [*]; done)), H', ⟨by have := HK1.out; have := HJ8.out; have := HK3.out; have := HK4.out; have := HK5.out; have := HJ20.out; omega⟩, ⟨by (with_reducible repeat (first | apply Kd.zav | apply Kd.zau | apply Kd.R_drew)); exact HO_3.out⟩, ⟨by repeat (first | (with_reducible first | exact HB.out | apply zae | apply zaa | apply zad) | exact HB.out)⟩⟩
                 rw [if_neg c24] at H
                 exact absurd H (by simp)
                rw [if_neg c23] at H
                exact absurd H (by simp)
             rw [if_neg c20] at H
             exact absurd H (by simp)
            rw [if_neg c19] at H
            have c19b0 : decide (x12_5 < (l0.length : Int)) = false := decide_eq_false c19
            clear c19; have H' := zac.mk H; clear H
            go_wp2
            go_roundg k5
            case measure => have := HK1.out; have := HJ8.out; have := HK3.out; have := HK4.out; have := HK5.out; omega
            case rel => exact ⟨(x3_5), (x5_5), (wrap64 (x10_4 + 1)), (wrap64 (x8_5 + 1)), (x9_5), (by first | rfl | (simp; done) | (simp [*]; done)), (by first | rfl | (simp; done) | (simp [*]; done)), (by first | rfl | (simp; done) | (simp [*]; done)), (by first | rfl | (simp; done) | (simp [*]; done)), H', ⟨by have := HK1.out; have := HJ8.out; have := HK3.out; have := HK4.out; have := HK5.out; omega⟩, ⟨by (with_reducible repeat (first | apply Kd.zav | apply Kd.zau | apply Kd.R_drew)); exact HO_3.out⟩, ⟨by repeat (first | (with_reducible first | exact HB.out | apply zae | apply zaa | apply zad) | exact HB.out)⟩⟩
       rw [if_neg c14] at H
       have c14b0 : decide (x5_3 < (l0.length : Int)) = false := decide_eq_false c14
       clear c14; obtain rfl := Option.some.inj H
       have hcv32 := own_string (P := Tryd.prog) Tryd.underlying22 Tryd.underlying5 Tryd.underlying9 (Kd.own_of_R HO_3.out)
       go_wp2
       go_ret
       exact ⟨by first | rfl | (simp [zan, zam] <;> rfl) | (simp [*, zan, zam] <;> rfl), by repeat (first | (with_reducible first | exact HB.out | apply zae | apply zaa | apply zad) | exact HB.out)⟩
end Go.Proofs.YtbppeepihlajoaaDoor.P
