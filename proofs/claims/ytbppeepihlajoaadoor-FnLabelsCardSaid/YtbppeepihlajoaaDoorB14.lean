/- Written by a program of this session: plain Lean functions for Go functions, and for each the proof that the call comes to what the function says. -/
import Derived.Test.YtbppeepihlajoaaDoorB0
import Derived.Test.YtbppeepihlajoaaDoorB11
namespace Go.Proofs.YtbppeepihlajoaaDoor.P
open Go.RowKit Go.Proofs.YtbppeepihlajoaaDoorW.PrintWords Go.Proofs.YtbppeepihlajoaaDoorW.PrintLast Go.Proofs.YtbppeepihlajoaaDoorW.PrintMore
attribute [local go_sem] max2_int min2_int max_two min_two max_three min_three max_four min_four
set_option linter.unusedVariables false
set_option linter.unusedSimpArgs false
def spec_l01Small.f (a0 : ByteArray) : Option (ByteArray) := if (a0.size : Int) > 65536 then (some (⟨#[]⟩ : ByteArray)) else (some a0)
set_option maxHeartbeats 8000000 in
set_option maxRecDepth 100000 in
theorem spec_l01Small.calls (a0 : ByteArray) (r : ByteArray) (w : World) (h : spec_l01Small.f a0 = some r) :
  Calls Tryd.prog 54 #[.string a0] w fun e w' => e = .returned (.string r) ∧ zaQ w w' := by
 have H : (if (a0.size : Int) > 65536 then (some (⟨#[]⟩ : ByteArray)) else (some a0)) = some r := h
 clear h
 by_cases c2 : (a0.size : Int) > 65536
 ·rw [if_pos c2] at H
  have c2b0 : decide (65536 < (a0.size : Int)) = true := decide_eq_true c2
  have c2b1 : decide (65536 < a0.size) = true := decide_eq_true (by omega)
  clear c2; obtain rfl := Option.some.inj H
  go_enter Tryd.func54, Tryd.ntmps54
  go_wp2
  go_ret
  exact ⟨by first | rfl | (simp; done) | (simp [*]; done), by repeat (first | exact zaQ.refl _ | apply zaQ.step)⟩
 rw [if_neg c2] at H
 have c2b0 : decide (65536 < (a0.size : Int)) = false := decide_eq_false c2
 have c2b1 : decide (65536 < a0.size) = false := decide_eq_false (by omega)
 clear c2; obtain rfl := Option.some.inj H
 go_enter Tryd.func54, Tryd.ntmps54
 go_wp2
 go_ret
 exact ⟨by first | rfl | (simp; done) | (simp [*]; done), by repeat (first | exact zaQ.refl _ | apply zaQ.step)⟩
def spec_l19Least.f (a0 : Int) (a1 : Int) : Option (Int) := if a0 ≤ a1 then (some 1) else (if a0 ≥ (wrap64 (a1 + 26)) then (some 26) else (some (wrap64 (a0 - a1))))
set_option maxHeartbeats 8000000 in
set_option maxRecDepth 100000 in
theorem spec_l19Least.calls (a0 : Int) (a1 : Int) (r : Int) (w : World) (h : spec_l19Least.f a0 a1 = some r) :
  Calls Tryd.prog 142 #[.int .i64 a0, .int .i64 a1] w fun e w' => e = .returned (.int .i64 r) ∧ zaQ w w' := by
 have H : (if a0 ≤ a1 then (some 1) else (if a0 ≥ (wrap64 (a1 + 26)) then (some 26) else (some (wrap64 (a0 - a1))))) = some r := h
 clear h
 by_cases c3 : a0 ≤ a1
 ·rw [if_pos c3] at H
  have c3b0 : decide (a0 ≤ a1) = true := decide_eq_true c3
  clear c3; obtain rfl := Option.some.inj H
  go_enter Tryd.func142, Tryd.ntmps142
  go_wp2
  go_ret
  exact ⟨by first | rfl | (simp; done) | (simp [*]; done), by repeat (first | exact zaQ.refl _ | apply zaQ.step)⟩
 rw [if_neg c3] at H
 have c3b0 : decide (a0 ≤ a1) = false := decide_eq_false c3
 clear c3
 by_cases c4 : a0 ≥ (wrap64 (a1 + 26))
 ·rw [if_pos c4] at H
  have c4b0 : decide ((wrap64 (a1 + 26)) ≤ a0) = true := decide_eq_true c4
  clear c4; obtain rfl := Option.some.inj H
  go_enter Tryd.func142, Tryd.ntmps142
  go_wp2
  go_ret
  exact ⟨by first | rfl | (simp; done) | (simp [*]; done), by repeat (first | exact zaQ.refl _ | apply zaQ.step)⟩
 rw [if_neg c4] at H
 have c4b0 : decide ((wrap64 (a1 + 26)) ≤ a0) = false := decide_eq_false c4
 clear c4; obtain rfl := Option.some.inj H
 go_enter Tryd.func142, Tryd.ntmps142
 go_wp2
 go_ret
 exact ⟨by first | rfl | (simp; done) | (simp [*]; done), by repeat (first | exact zaQ.refl _ | apply zaQ.step)⟩
def zaR.l0 : Nat → Int → List Int → Int → Int → Option (List Int)
 | 0, _, _, _, _ => none
 | k + 1, x1, x5, x6, x7 => (spec_l19Least.f x7 x1).bind fun t517 => (if x6 < t517 then ((spec_l19Digit.f x6).bind fun t518 => (if x5.length < 140737488355328 then (some (x5 ++ [t518])) else (none))) else (if (wrap64 (36 - t517)) = 0 then (none) else ((spec_l19Digit.f (wrap64 (t517 + (Int.tmod (wrap64 (x6 - t517)) (wrap64 (36 - t517)))))).bind fun t522 => (if x5.length < 140737488355328 then (zaR.l0 k x1 (x5 ++ [t522]) (wrap64 (Int.tdiv (wrap64 (x6 - t517)) (wrap64 (36 - t517)))) (wrap64 (x7 + 36))) else (none)))))
def zaR.f (k : Nat) (a0 : Int) (a1 : Int) : Option (List Int) := zaR.l0 k a1 (([] : List Int)) a0 36
set_option maxHeartbeats 8000000 in
set_option maxRecDepth 100000 in
theorem zaR.calls (k : Nat) (a0 : Int) (a1 : Int) (r : List Int) (w : World) (h : zaR.f k a0 a1 = some r) :
  Calls Tryd.prog 99 #[.int .i64 a0, .int .i64 a1] w fun e w' => ∃ v0_ : Value, e = .returned (v0_) ∧ Kd.R (Kd.int .u8) 5 w' w.heap.size (fun _ => True) v0_ r ∧ Below w.heap.size w w' := by
 have HB := zac.mk (Below.refl w.heap.size w)
 have H : (zaR.l0 k a1 (([] : List Int)) a0 36) = some r := h
 clear h
 obtain ⟨y514, hy514⟩ : ∃ y_ : List Int, y_ = (([] : List Int)) := ⟨_, rfl⟩
 replace H : (zaR.l0 k a1 y514 a0 36) = some r := by first | (rw [hy514]; with_reducible exact H) | (have H2_ := (Option.bind_some _ _).symm.trans H; rw [hy514]; with_reducible exact H2_) | (have H2_ := (Option.bind_some _ _).symm.trans H; with_reducible exact H2_) | with_reducible exact H | (rw [hy514]; exact H) | exact H
 have Ny514 := zac.mk hy514; clear hy514; have H' := zac.mk H; clear H
 go_enter Tryd.func99, Tryd.ntmps99
 go_wp2_with (first | ((with_reducible refine zaW (N := 9) rfl ?_); refine Kd.R_lit (Kd.int .u8) _ 5 ?hg (N := 9) ?hd (xs := ([] : List Int)) (inner := []) (ok := fun _ => True) (okp := fun _ => True) ?hr ?hp (fun _ hk => hk) trivial (Below.refl _ _) (Nat.le_refl _) (by simp) ?_; (case hd => rfl); (case hg => rfl); (case hr => first | (go_simp; done) | (go_simp; rfl)); (case hp => exact (Reps.none _ _)); intro v515 w3 ho4 hb hg_ hnew_; clear hg_ hnew_; (first | rw [← Ny514.out] at ho4 | (simp only [Int.reduceToNat] at ho4; rw [← Ny514.out] at ho4)); have n0_ := zac.mk (Kd.R_lower ho4 (zaJ (by repeat (first | (with_reducible first | exact HB.out | apply zae | apply zaa | apply zad) | exact HB.out)))); have n1_ := zac.mk (zaw (by repeat (first | (with_reducible first | exact HB.out | apply zae | apply zaa | apply zad) | exact HB.out)) hb); clear HB; have HO516 := n0_; have HB := n1_; clear n0_ n1_ hb ho4))
 go_loopg [5, 6, 7] k (fun kq v5 v6 v7 w' => ∃ (x5_1 : List Int) (x6_1 : Int) (x7_1 : Int), v6 = .int .i64 x6_1 ∧ v7 = .int .i64 x7_1 ∧ zac (zaR.l0 kq a1 x5_1 x6_1 x7_1 = some r) ∧ zac (kq ≤ k) ∧ zac (Kd.R (Kd.int .u8) 5 w' w.heap.size (fun _ => True) v5 x5_1) ∧ zac (Below w.heap.size w w'))
 case atStart => exact ⟨(y514), (a0), (36), (by first | rfl | (simp; done) | (simp [*]; done)), (by first | rfl | (simp; done) | (simp [*]; done)), H', ⟨Nat.le_refl _⟩, ⟨by (with_reducible repeat (first | apply Kd.zav | apply Kd.zau | apply Kd.R_drew)); exact HO516.out⟩, ⟨by repeat (first | (with_reducible first | exact HB.out | apply zae | apply zaa | apply zad) | exact HB.out)⟩⟩
 case round =>
  clear H'
  obtain ⟨x5_1, x6_1, x7_1, rfl, rfl, HA, HK1, HO_5, HB⟩ := hrel
  cases gk with
  | zero => exact absurd HA.out (by simp [zaR.l0])
  | succ k1 =>
   have H := HA.out; clear HA
   simp only [zaR.l0] at H
   replace H := Option.bind_eq_some_iff.mp H
   obtain ⟨t517, A50, H⟩ := H
   replace H : (if x6_1 < t517 then ((spec_l19Digit.f x6_1).bind fun t518 => (if x5_1.length < 140737488355328 then (some (x5_1 ++ [t518])) else (none))) else (if (wrap64 (36 - t517)) = 0 then (none) else ((spec_l19Digit.f (wrap64 (t517 + (Int.tmod (wrap64 (x6_1 - t517)) (wrap64 (36 - t517)))))).bind fun t522 => (if x5_1.length < 140737488355328 then (zaR.l0 k1 a1 (x5_1 ++ [t522]) (wrap64 (Int.tdiv (wrap64 (x6_1 - t517)) (wrap64 (36 - t517)))) (wrap64 (x7_1 + 36))) else (none))))) = some r := H
   have A5 := zac.mk A50; clear A50
   by_cases c6 : x6_1 < t517
   ·rw [if_pos c6] at H
    have c6b0 : decide (x6_1 < t517) = true := decide_eq_true c6
    clear c6; replace H := Option.bind_eq_some_iff.mp H
    obtain ⟨t518, A70, H⟩ := H
    replace H : (if x5_1.length < 140737488355328 then (some (x5_1 ++ [t518])) else (none)) = some r := H
    have A7 := zac.mk A70; clear A70
    by_cases c8 : x5_1.length < 140737488355328
    ·rw [if_pos c8] at H; have LMc8 := zac.mk c8; clear c8
     obtain ⟨y519, hy519⟩ : ∃ y_ : List Int, y_ = (x5_1 ++ [t518]) := ⟨_, rfl⟩
     replace H : (some y519) = some r := by first | (rw [hy519]; with_reducible exact H) | (have H2_ := (Option.bind_some _ _).symm.trans H; rw [hy519]; with_reducible exact H2_) | (have H2_ := (Option.bind_some _ _).symm.trans H; with_reducible exact H2_) | with_reducible exact H | (rw [hy519]; exact H) | exact H
     have Ny519 := zac.mk hy519; clear hy519; obtain rfl := Option.some.inj H
     go_wp2_with (first | ((with_reducible refine zak (f := 142) rfl ?_); refine zaG (some 15) rfl rfl Tryd.func142 (by kernel_rfl) rfl #[.int .i64 x7_1, .int .i64 a1] rfl (by (try simp only [List.map_toArray, List.map_cons, List.map_nil]); first | done | rfl | (simp only [List.length_drop, List.length_take]; rfl)) ?_; (with_reducible refine (spec_l19Least.calls x7_1 a1 t517 _ A5.out).mono ?_); rintro e w' ⟨rfl, ⟨nd, rfl⟩⟩; refine ⟨_, rfl, ?_⟩) | ((with_reducible refine zak (f := 143) rfl ?_); refine zaG (some 21) rfl rfl Tryd.func143 (by kernel_rfl) rfl #[.int .i64 x6_1] rfl (by (try simp only [List.map_toArray, List.map_cons, List.map_nil]); first | done | rfl | (simp only [List.length_drop, List.length_take]; rfl)) ?_; (with_reducible refine (spec_l19Digit.calls x6_1 t518 _ A7.out).mono ?_); rintro e w' ⟨rfl, ⟨nd, rfl⟩⟩; refine ⟨_, rfl, ?_⟩) | ((with_reducible refine gate_builtin (b := .append) (xs := #[.tmp 19, .tmp 22]) rfl ?_); at_builtin; refine Kd.R_append (Kd.int .u8) (w0 := w) w.heap.size rfl (.tmp 19) (.tmp 22) 22 5 (.int .u8 0) 1 rfl Tryd.underlying22 info5 rfl (by decide) (by omega) u5 x5_1 t518 [.int .u8 t518] (fun _ => True) (fun _ => False) rfl rfl ?aP (fun _ hk => hk.elim) ?aF ?aO ?aB ?aS ?aL ?_; (case aP => exact rfl); (case aB => exact (by repeat (first | (with_reducible first | exact HB.out | apply zae | apply zaa | apply zad) | exact HB.out))); (case aF => exact (fun _ _ => trivial)); (case aO => exact (by (with_reducible repeat (first | apply Kd.zav | apply Kd.zau | apply Kd.R_drew)); exact HO_5.out)); (case aS => exact (zaJ (by repeat (first | (with_reducible first | exact HB.out | apply zae | apply zaa | apply zad) | exact HB.out)))); (case aL => have := LMc8.out; omega); intro v520 w9 ho hb hg hat; rw [← Ny519.out] at ho; have n0_ := zac.mk (hb); have n1_ := zac.mk (ho); clear HB HO_5; have HB := n0_; have HO521 := n1_; clear n0_ n1_ ho hb hg hat))
     go_ret
     exact ⟨_, by first | rfl | (simp [zan, zam] <;> rfl) | (simp [*, zan, zam] <;> rfl), by (with_reducible repeat (first | apply Kd.zav | apply Kd.zau | apply Kd.R_drew)); exact HO521.out, by repeat (first | (with_reducible first | exact HB.out | apply zae | apply zaa | apply zad) | exact HB.out)⟩
    rw [if_neg c8] at H
    exact absurd H (by simp)
   rw [if_neg c6] at H
   have c6b0 : decide (x6_1 < t517) = false := decide_eq_false c6
   clear c6
   by_cases c10 : (wrap64 (36 - t517)) = 0
   ·rw [if_pos c10] at H
    exact absurd H (by simp)
   rw [if_neg c10] at H
   have c10b0 : ((wrap64 (36 - t517)) == 0) = false := beq_eq_false_iff_ne.mpr c10
   have c10b1 : ((wrap64 (36 - t517)) != 0) = true := bne_iff_ne.mpr c10
   replace H := Option.bind_eq_some_iff.mp H
   obtain ⟨t522, A110, H⟩ := H
   replace H : (if x5_1.length < 140737488355328 then (zaR.l0 k1 a1 (x5_1 ++ [t522]) (wrap64 (Int.tdiv (wrap64 (x6_1 - t517)) (wrap64 (36 - t517)))) (wrap64 (x7_1 + 36))) else (none)) = some r := H
   have A11 := zac.mk A110; clear A110
   by_cases c12 : x5_1.length < 140737488355328
   ·rw [if_pos c12] at H; have LMc12 := zac.mk c12; clear c12
    obtain ⟨y523, hy523⟩ : ∃ y_ : List Int, y_ = (x5_1 ++ [t522]) := ⟨_, rfl⟩
    replace H : (zaR.l0 k1 a1 y523 (wrap64 (Int.tdiv (wrap64 (x6_1 - t517)) (wrap64 (36 - t517)))) (wrap64 (x7_1 + 36))) = some r := by first | (rw [hy523]; with_reducible exact H) | (have H2_ := (Option.bind_some _ _).symm.trans H; rw [hy523]; with_reducible exact H2_) | (have H2_ := (Option.bind_some _ _).symm.trans H; with_reducible exact H2_) | with_reducible exact H | (rw [hy523]; exact H) | exact H
    have Ny523 := zac.mk hy523; clear hy523; have H' := zac.mk H; clear H
    go_wp2_with (first | ((with_reducible refine zak (f := 142) rfl ?_); refine zaG (some 15) rfl rfl Tryd.func142 (by kernel_rfl) rfl #[.int .i64 x7_1, .int .i64 a1] rfl (by (try simp only [List.map_toArray, List.map_cons, List.map_nil]); first | done | rfl | (simp only [List.length_drop, List.length_take]; rfl)) ?_; (with_reducible refine (spec_l19Least.calls x7_1 a1 t517 _ A5.out).mono ?_); rintro e w' ⟨rfl, ⟨nd, rfl⟩⟩; refine ⟨_, rfl, ?_⟩) | ((with_reducible refine zak (f := 143) rfl ?_); refine zaG (some 33) rfl rfl Tryd.func143 (by kernel_rfl) rfl #[.int .i64 (wrap64 (t517 + (Int.tmod (wrap64 (x6_1 - t517)) (wrap64 (36 - t517)))))] rfl (by (try simp only [List.map_toArray, List.map_cons, List.map_nil]); first | done | rfl | (simp only [List.length_drop, List.length_take]; rfl)) ?_; (with_reducible refine (spec_l19Digit.calls (wrap64 (t517 + (Int.tmod (wrap64 (x6_1 - t517)) (wrap64 (36 - t517))))) t522 _ A11.out).mono ?_); rintro e w' ⟨rfl, ⟨nd, rfl⟩⟩; refine ⟨_, rfl, ?_⟩) | ((with_reducible refine gate_builtin (b := .append) (xs := #[.tmp 24, .tmp 34]) rfl ?_); at_builtin; refine Kd.R_append (Kd.int .u8) (w0 := w) w.heap.size rfl (.tmp 24) (.tmp 34) 22 5 (.int .u8 0) 1 rfl Tryd.underlying22 info5 rfl (by decide) (by omega) u5 x5_1 t522 [.int .u8 t522] (fun _ => True) (fun _ => False) rfl rfl ?aP (fun _ hk => hk.elim) ?aF ?aO ?aB ?aS ?aL ?_; (case aP => exact rfl); (case aB => exact (by repeat (first | (with_reducible first | exact HB.out | apply zae | apply zaa | apply zad) | exact HB.out))); (case aF => exact (fun _ _ => trivial)); (case aO => exact (by (with_reducible repeat (first | apply Kd.zav | apply Kd.zau | apply Kd.R_drew)); exact HO_5.out)); (case aS => exact (zaJ (by repeat (first | (with_reducible first | exact HB.out | apply zae | apply zaa | apply zad) | exact HB.out)))); (case aL => have := LMc12.out; omega); intro v524 w13 ho hb hg hat; rw [← Ny523.out] at ho; have n0_ := zac.mk (hb); have n1_ := zac.mk (ho); clear HB HO_5; have HB := n0_; have HO525 := n1_; clear n0_ n1_ ho hb hg hat))
    go_roundg k1
    case measure => have := HK1.out; omega
    case rel => exact ⟨(y523), (wrap64 (Int.tdiv (wrap64 (x6_1 - t517)) (wrap64 (36 - t517)))), (wrap64 (x7_1 + 36)), (by first | rfl | (simp; done) | (simp [*]; done)), (by first | rfl | (simp; done) | (simp [*]; done)), H', ⟨by have := HK1.out; omega⟩, ⟨by (with_reducible repeat (first | apply Kd.zav | apply Kd.zau | apply Kd.R_drew)); exact HO525.out⟩, ⟨by repeat (first | (with_reducible first | exact HB.out | apply zae | apply zaa | apply zad) | exact HB.out)⟩⟩
   rw [if_neg c12] at H
   exact absurd H (by simp)
end Go.Proofs.YtbppeepihlajoaaDoor.P
