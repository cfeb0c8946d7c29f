/- Written by a program of this session: plain Lean functions for Go functions, and for each the proof that the call comes to what the function says. -/
import Derived.Test.YtgahimbccbghnaaDoorD0
import Derived.Test.YtgahimbccbghnaaDoorD1
import Derived.Test.YtgahimbccbghnaaDoorD11
import Derived.Test.YtgahimbccbghnaaDoorD3
import Derived.Test.YtgahimbccbghnaaDoorD4
import Derived.Test.YtgahimbccbghnaaDoorD5
namespace Go.Proofs.YtgahimbccbghnaaDoor.P
open Go.RowKit Go.Proofs.YtgahimbccbghnaaDoorW.PrintWords Go.Proofs.YtgahimbccbghnaaDoorW.PrintLast Go.Proofs.YtgahimbccbghnaaDoorW.PrintMore
attribute [local go_sem] max2_int min2_int max_two min_two max_three min_three max_four min_four   -- for this text's walks alone
set_option linter.unusedVariables false
set_option linter.unusedSimpArgs false

/-! ### spec_l19Decode: function 51 -/
mutual
def spec_l19Decode.j2 : Nat → ByteArray → List Int → Int → Option (List Int × Bool)
  | 0, _, _, _ => none
  | k + 1, x0, x4, x5 => spec_l19Decode.l2 k x0 x4 x5 (x4.length : Int) 128 0 72
def spec_l19Decode.l2 : Nat → ByteArray → List Int → Int → Int → Int → Int → Int → Option (List Int × Bool)
  | 0, _, _, _, _, _, _, _ => none
  | k + 1, x0, x4, x5, x8, x9, x10, x11 => if x5 < (x0.size : Int) then (spec_l19Decode.l3 k x0 x4 x5 x8 x9 x10 x11 x10 1 36) else ((spec_l19Encode.f k x4).bind fun t211 => (some (x4, (t211.toList == x0.toList))))
def spec_l19Decode.l3 : Nat → ByteArray → List Int → Int → Int → Int → Int → Int → Int → Int → Int → Option (List Int × Bool)
  | 0, _, _, _, _, _, _, _, _, _, _ => none
  | k + 1, x0, x4, x5, x8, x9, x10, x11, x12, x13, x14 => if x5 ≥ (x0.size : Int) then (some (([] : List Int), false)) else (if 0 ≤ x5 then (if x5 < (x0.size : Int) then ((spec_l19Value.f k (bt x0 x5)).bind fun t212 => (if t212 < 0 then (spec_l19Decode.j5 k x0 x4 (wrap64 (x5 + 1)) x8 x9 x10 x11 x12 x13 x14 t212 true) else (spec_l19Decode.j5 k x0 x4 (wrap64 (x5 + 1)) x8 x9 x10 x11 x12 x13 x14 t212 (decide (x13 > 1099511627776))))) else (none)) else (none))
def spec_l19Decode.j5 : Nat → ByteArray → List Int → Int → Int → Int → Int → Int → Int → Int → Int → Int → Bool → Option (List Int × Bool)
  | 0, _, _, _, _, _, _, _, _, _, _, _, _ => none
  | k + 1, x0, x4, x5, x8, x9, x10, x11, x12, x13, x14, x15, x69 => if x69 = true then (some (([] : List Int), false)) else ((spec_l19Least.f x14 x11).bind fun t213 => (if x15 < t213 then ((spec_l19Bias.f k (wrap64 ((wrap64 (x10 + (wrap64 (x15 * x13)))) - x12)) (wrap64 ((x4.length : Int) + 1)) ((x4.length : Int) == x8)).bind fun t214 => (if (wrap64 ((x4.length : Int) + 1)) = 0 then (none) else ((spec_l01IsPoint.f (wrap64 (x9 + (wrap64 (Int.tdiv (wrap64 (x10 + (wrap64 (x15 * x13)))) (wrap64 ((x4.length : Int) + 1))))))).bind fun t215 => (if t215 = true then ((some (([] : List Int) : List Int)).bind fun y216 => (if 0 ≤ (Int.tmod (wrap64 (x10 + (wrap64 (x15 * x13)))) (wrap64 ((x4.length : Int) + 1))) then (if (Int.tmod (wrap64 (x10 + (wrap64 (x15 * x13)))) (wrap64 ((x4.length : Int) + 1))) ≤ (x4.length : Int) then ((some (x4.take ((Int.tmod (wrap64 (x10 + (wrap64 (x15 * x13)))) (wrap64 ((x4.length : Int) + 1))) : Int).toNat : List Int)).bind fun y219 => (if y216.length + y219.length < 17592186044416 then ((some (y216 ++ y219 : List Int)).bind fun y223 => (if y223.length < 17592186044416 then ((some (y223 ++ [wrap64 (x9 + (wrap64 (Int.tdiv (wrap64 (x10 + (wrap64 (x15 * x13)))) (wrap64 ((x4.length : Int) + 1)))))] : List Int)).bind fun y226 => ((some (x4.drop ((Int.tmod (wrap64 (x10 + (wrap64 (x15 * x13)))) (wrap64 ((x4.length : Int) + 1))) : Int).toNat : List Int)).bind fun y229 => (if y226.length + y229.length < 17592186044416 then (spec_l19Decode.l2 k x0 (y226 ++ y229) x5 x8 (wrap64 (x9 + (wrap64 (Int.tdiv (wrap64 (x10 + (wrap64 (x15 * x13)))) (wrap64 ((x4.length : Int) + 1)))))) (wrap64 ((Int.tmod (wrap64 (x10 + (wrap64 (x15 * x13)))) (wrap64 ((x4.length : Int) + 1))) + 1)) t214) else (none)))) else (none))) else (none))) else (none)) else (none))) else (some (([] : List Int), false)))))) else (spec_l19Decode.l3 k x0 x4 x5 x8 x9 (wrap64 (x10 + (wrap64 (x15 * x13)))) x11 x12 (wrap64 (x13 * (wrap64 (36 - t213)))) (wrap64 (x14 + 36)))))
def spec_l19Decode.l0 : Nat → ByteArray → List Int → Int → Int → Option (List Int × Bool)
  | 0, _, _, _, _ => none
  | k + 1, x0, x4, x5, x6 => if x6 > 0 then (if 0 ≤ x6 then (if x6 < (x0.size : Int) then (if (bt x0 x6) = 45 then (spec_l19Decode.l1 k x0 x4 x6 0) else (spec_l19Decode.l0 k x0 x4 x5 (wrap64 (x6 - 1)))) else (none)) else (none)) else (spec_l19Decode.j2 k x0 x4 x5)
def spec_l19Decode.l1 : Nat → ByteArray → List Int → Int → Int → Option (List Int × Bool)
  | 0, _, _, _, _ => none
  | k + 1, x0, x4, x6, x7 => if x7 < x6 then (if 0 ≤ x7 then (if x7 < (x0.size : Int) then (if x4.length < 17592186044416 then (spec_l19Decode.l1 k x0 (x4 ++ [wrap64 (bt x0 x7)]) x6 (wrap64 (x7 + 1))) else (none)) else (none)) else (none)) else (spec_l19Decode.j2 k x0 x4 (wrap64 (x6 + 1)))
end
def spec_l19Decode.f (k : Nat) (a0 : ByteArray) : Option (List Int × Bool) := spec_l19Decode.l0 k a0 (([] : List Int)) 0 (wrap64 ((a0.size : Int) - 1))
theorem spec_l19Decode.mono_l : ∀ k, (∀ y0 y1 y2, LeO (spec_l19Decode.j2 k y0 y1 y2) (spec_l19Decode.j2 (k + 1) y0 y1 y2)) ∧ (∀ y0 y1 y2 y3 y4 y5 y6, LeO (spec_l19Decode.l2 k y0 y1 y2 y3 y4 y5 y6) (spec_l19Decode.l2 (k + 1) y0 y1 y2 y3 y4 y5 y6)) ∧ (∀ y0 y1 y2 y3 y4 y5 y6 y7 y8 y9, LeO (spec_l19Decode.l3 k y0 y1 y2 y3 y4 y5 y6 y7 y8 y9) (spec_l19Decode.l3 (k + 1) y0 y1 y2 y3 y4 y5 y6 y7 y8 y9)) ∧ (∀ y0 y1 y2 y3 y4 y5 y6 y7 y8 y9 y10 y11, LeO (spec_l19Decode.j5 k y0 y1 y2 y3 y4 y5 y6 y7 y8 y9 y10 y11) (spec_l19Decode.j5 (k + 1) y0 y1 y2 y3 y4 y5 y6 y7 y8 y9 y10 y11)) ∧ (∀ y0 y1 y2 y3, LeO (spec_l19Decode.l0 k y0 y1 y2 y3) (spec_l19Decode.l0 (k + 1) y0 y1 y2 y3)) ∧ (∀ y0 y1 y2 y3, LeO (spec_l19Decode.l1 k y0 y1 y2 y3) (spec_l19Decode.l1 (k + 1) y0 y1 y2 y3))
  | 0 => ⟨fun _ _ _ r h => by simp [spec_l19Decode.j2] at h, fun _ _ _ _ _ _ _ r h => by simp [spec_l19Decode.l2] at h, fun _ _ _ _ _ _ _ _ _ _ r h => by simp [spec_l19Decode.l3] at h, fun _ _ _ _ _ _ _ _ _ _ _ _ r h => by simp [spec_l19Decode.j5] at h, fun _ _ _ _ r h => by simp [spec_l19Decode.l0] at h, fun _ _ _ _ r h => by simp [spec_l19Decode.l1] at h⟩
  | k + 1 => by
    obtain ⟨ih0, ih1, ih2, ih3, ih4, ih5⟩ := spec_l19Decode.mono_l k
    refine ⟨?_, ?_, ?_, ?_, ?_, ?_⟩
    · intro y0 y1 y2
      unfold spec_l19Decode.j2
      repeat' first
      | (with_reducible exact ih0 _ _ _)
      | (with_reducible exact ih1 _ _ _ _ _ _ _)
      | (with_reducible exact ih2 _ _ _ _ _ _ _ _ _ _)
      | (with_reducible exact ih3 _ _ _ _ _ _ _ _ _ _ _ _)
      | (with_reducible exact ih4 _ _ _ _)
      | (with_reducible exact ih5 _ _ _ _)
      | (with_reducible exact spec_l19Bias.mono _ _ _ _)
      | (with_reducible exact spec_l19Encode.mono _ _)
      | (with_reducible exact spec_l19Value.mono _ _)
      | (with_reducible exact LeO.refl _)
      | (with_reducible exact LeO.none _)
      | (with_reducible refine LeO.ite ?_ ?_)
      | (with_reducible refine LeO.bind ?_ (fun _ => ?_))
      | exact ih0 _ _ _
      | exact ih1 _ _ _ _ _ _ _
      | exact ih2 _ _ _ _ _ _ _ _ _ _
      | exact ih3 _ _ _ _ _ _ _ _ _ _ _ _
      | exact ih4 _ _ _ _
      | exact ih5 _ _ _ _
      | exact spec_l19Bias.mono _ _ _ _
      | exact spec_l19Encode.mono _ _
      | exact spec_l19Value.mono _ _
      | exact LeO.none _
      | refine LeO.ite ?_ ?_
      | refine LeO.bind ?_ (fun _ => ?_)
    · intro y0 y1 y2 y3 y4 y5 y6
      unfold spec_l19Decode.l2
      repeat' first
      | (with_reducible exact ih0 _ _ _)
      | (with_reducible exact ih1 _ _ _ _ _ _ _)
      | (with_reducible exact ih2 _ _ _ _ _ _ _ _ _ _)
      | (with_reducible exact ih3 _ _ _ _ _ _ _ _ _ _ _ _)
      | (with_reducible exact ih4 _ _ _ _)
      | (with_reducible exact ih5 _ _ _ _)
      | (with_reducible exact spec_l19Bias.mono _ _ _ _)
      | (with_reducible exact spec_l19Encode.mono _ _)
      | (with_reducible exact spec_l19Value.mono _ _)
      | (with_reducible exact LeO.refl _)
      | (with_reducible exact LeO.none _)
      | (with_reducible refine LeO.ite ?_ ?_)
      | (with_reducible refine LeO.bind ?_ (fun _ => ?_))
      | exact ih0 _ _ _
      | exact ih1 _ _ _ _ _ _ _
      | exact ih2 _ _ _ _ _ _ _ _ _ _
      | exact ih3 _ _ _ _ _ _ _ _ _ _ _ _
      | exact ih4 _ _ _ _
      | exact ih5 _ _ _ _
      | exact spec_l19Bias.mono _ _ _ _
      | exact spec_l19Encode.mono _ _
      | exact spec_l19Value.mono _ _
      | exact LeO.none _
      | refine LeO.ite ?_ ?_
      | refine LeO.bind ?_ (fun _ => ?_)
    · intro y0 y1 y2 y3 y4 y5 y6 y7 y8 y9
      unfold spec_l19Decode.l3
      repeat' first
      | (with_reducible exact ih0 _ _ _)
      | (with_reducible exact ih1 _ _ _ _ _ _ _)
      | (with_reducible exact ih2 _ _ _ _ _ _ _ _ _ _)
      | (with_reducible exact ih3 _ _ _ _ _ _ _ _ _ _ _ _)
      | (with_reducible exact ih4 _ _ _ _)
      | (with_reducible exact ih5 _ _ _ _)
      | (with_reducible exact spec_l19Bias.mono _ _ _ _)
      | (with_reducible exact spec_l19Encode.mono _ _)
      | (with_reducible exact spec_l19Value.mono _ _)
      | (with_reducible exact LeO.refl _)
      | (with_reducible exact LeO.none _)
      | (with_reducible refine LeO.ite ?_ ?_)
      | (with_reducible refine LeO.bind ?_ (fun _ => ?_))
      | exact ih0 _ _ _
      | exact ih1 _ _ _ _ _ _ _
      | exact ih2 _ _ _ _ _ _ _ _ _ _
      | exact ih3 _ _ _ _ _ _ _ _ _ _ _ _
      | exact ih4 _ _ _ _
      | exact ih5 _ _ _ _
      | exact spec_l19Bias.mono _ _ _ _
      | exact spec_l19Encode.mono _ _
      | exact spec_l19Value.mono _ _
      | exact LeO.none _
      | refine LeO.ite ?_ ?_
      | refine LeO.bind ?_ (fun _ => ?_)
    · intro y0 y1 y2 y3 y4 y5 y6 y7 y8 y9 y10 y11
      unfold spec_l19Decode.j5
      repeat' first
      | (with_reducible exact ih0 _ _ _)
      | (with_reducible exact ih1 _ _ _ _ _ _ _)
      | (with_reducible exact ih2 _ _ _ _ _ _ _ _ _ _)
      | (with_reducible exact ih3 _ _ _ _ _ _ _ _ _ _ _ _)
      | (with_reducible exact ih4 _ _ _ _)
      | (with_reducible exact ih5 _ _ _ _)
      | (with_reducible exact spec_l19Bias.mono _ _ _ _)
      | (with_reducible exact spec_l19Encode.mono _ _)
      | (with_reducible exact spec_l19Value.mono _ _)
      | (with_reducible exact LeO.refl _)
      | (with_reducible exact LeO.none _)
      | (with_reducible refine LeO.ite ?_ ?_)
      | (with_reducible refine LeO.bind ?_ (fun _ => ?_))
      | exact ih0 _ _ _
      | exact ih1 _ _ _ _ _ _ _
      | exact ih2 _ _ _ _ _ _ _ _ _ _
      | exact ih3 _ _ _ _ _ _ _ _ _ _ _ _
      | exact ih4 _ _ _ _
      | exact ih5 _ _ _ _
      | exact spec_l19Bias.mono _ _ _ _
      | exact spec_l19Encode.mono _ _
      | exact spec_l19Value.mono _ _
      | exact LeO.none _
      | refine LeO.ite ?_ ?_
      | refine LeO.bind ?_ (fun _ => ?_)
    · intro y0 y1 y2 y3
      unfold spec_l19Decode.l0
      repeat' first
      | (with_reducible exact ih0 _ _ _)
      | (with_reducible exact ih1 _ _ _ _ _ _ _)
      | (with_reducible exact ih2 _ _ _ _ _ _ _ _ _ _)
      | (with_reducible exact ih3 _ _ _ _ _ _ _ _ _ _ _ _)
      | (with_reducible exact ih4 _ _ _ _)
      | (with_reducible exact ih5 _ _ _ _)
      | (with_reducible exact spec_l19Bias.mono _ _ _ _)
      | (with_reducible exact spec_l19Encode.mono _ _)
      | (with_reducible exact spec_l19Value.mono _ _)
      | (with_reducible exact LeO.refl _)
      | (with_reducible exact LeO.none _)
      | (with_reducible refine LeO.ite ?_ ?_)
      | (with_reducible refine LeO.bind ?_ (fun _ => ?_))
      | exact ih0 _ _ _
      | exact ih1 _ _ _ _ _ _ _
      | exact ih2 _ _ _ _ _ _ _ _ _ _
      | exact ih3 _ _ _ _ _ _ _ _ _ _ _ _
      | exact ih4 _ _ _ _
      | exact ih5 _ _ _ _
      | exact spec_l19Bias.mono _ _ _ _
      | exact spec_l19Encode.mono _ _
      | exact spec_l19Value.mono _ _
      | exact LeO.none _
      | refine LeO.ite ?_ ?_
      | refine LeO.bind ?_ (fun _ => ?_)
    · intro y0 y1 y2 y3
      unfold spec_l19Decode.l1
      repeat' first
      | (with_reducible exact ih0 _ _ _)
      | (with_reducible exact ih1 _ _ _ _ _ _ _)
      | (with_reducible exact ih2 _ _ _ _ _ _ _ _ _ _)
      | (with_reducible exact ih3 _ _ _ _ _ _ _ _ _ _ _ _)
      | (with_reducible exact ih4 _ _ _ _)
      | (with_reducible exact ih5 _ _ _ _)
      | (with_reducible exact spec_l19Bias.mono _ _ _ _)
      | (with_reducible exact spec_l19Encode.mono _ _)
      | (with_reducible exact spec_l19Value.mono _ _)
      | (with_reducible exact LeO.refl _)
      | (with_reducible exact LeO.none _)
      | (with_reducible refine LeO.ite ?_ ?_)
      | (with_reducible refine LeO.bind ?_ (fun _ => ?_))
      | exact ih0 _ _ _
      | exact ih1 _ _ _ _ _ _ _
      | exact ih2 _ _ _ _ _ _ _ _ _ _
      | exact ih3 _ _ _ _ _ _ _ _ _ _ _ _
      | exact ih4 _ _ _ _
      | exact ih5 _ _ _ _
      | exact spec_l19Bias.mono _ _ _ _
      | exact spec_l19Encode.mono _ _
      | exact spec_l19Value.mono _ _
      | exact LeO.none _
      | refine LeO.ite ?_ ?_
      | refine LeO.bind ?_ (fun _ => ?_)
theorem spec_l19Decode.mono : ∀ a0 k, LeO (spec_l19Decode.f k a0) (spec_l19Decode.f (k + 1) a0) := by
  intro a0 k
  obtain ⟨ih0, ih1, ih2, ih3, ih4, ih5⟩ := spec_l19Decode.mono_l k
  unfold spec_l19Decode.f
  repeat' first
      | (with_reducible exact ih0 _ _ _)
      | (with_reducible exact ih1 _ _ _ _ _ _ _)
      | (with_reducible exact ih2 _ _ _ _ _ _ _ _ _ _)
      | (with_reducible exact ih3 _ _ _ _ _ _ _ _ _ _ _ _)
      | (with_reducible exact ih4 _ _ _ _)
      | (with_reducible exact ih5 _ _ _ _)
      | (with_reducible exact spec_l19Bias.mono _ _ _ _)
      | (with_reducible exact spec_l19Encode.mono _ _)
      | (with_reducible exact spec_l19Value.mono _ _)
      | (with_reducible exact LeO.refl _)
      | (with_reducible exact LeO.none _)
      | (with_reducible refine LeO.ite ?_ ?_)
      | (with_reducible refine LeO.bind ?_ (fun _ => ?_))
      | exact ih0 _ _ _
      | exact ih1 _ _ _ _ _ _ _
      | exact ih2 _ _ _ _ _ _ _ _ _ _
      | exact ih3 _ _ _ _ _ _ _ _ _ _ _ _
      | exact ih4 _ _ _ _
      | exact ih5 _ _ _ _
      | exact spec_l19Bias.mono _ _ _ _
      | exact spec_l19Encode.mono _ _
      | exact spec_l19Value.mono _ _
      | exact LeO.none _
      | refine LeO.ite ?_ ?_
      | refine LeO.bind ?_ (fun _ => ?_)
set_option maxHeartbeats 8000000 in
set_option maxRecDepth 100000 in
theorem spec_l19Decode.calls (k : Nat) (a0 : ByteArray) (r1 : List Int) (r2 : Bool) (w : World) (h : spec_l19Decode.f k a0 = some (r1, r2)) :
    Calls Tryd.prog 51 #[.string a0] w fun e w' => ∃ v0_ : Value, e = .returned (.tuple #[v0_, .bool r2]) ∧ Kd.R (Kd.int .i64) 2 w' w.heap.size (fun _ => True) v0_ r1 ∧ Below w.heap.size w w' := by
  have HB := Aside0.mk (Below.refl w.heap.size w)
  have H : (spec_l19Decode.l0 k a0 (([] : List Int)) 0 (wrap64 ((a0.size : Int) - 1))) = some (r1, r2) := h
  clear h
  obtain ⟨y205, hy205⟩ : ∃ y_ : List Int, y_ = (([] : List Int)) := ⟨_, rfl⟩
  replace H : (spec_l19Decode.l0 k a0 y205 0 (wrap64 ((a0.size : Int) - 1))) = some (r1, r2) := by first | (rw [hy205]; with_reducible exact H) | (have H2_ := (Option.bind_some _ _).symm.trans H; rw [hy205]; with_reducible exact H2_) | (have H2_ := (Option.bind_some _ _).symm.trans H; with_reducible exact H2_) | with_reducible exact H | (rw [hy205]; exact H) | exact H
  have Ny205 := Aside0.mk hy205
  clear hy205
  have HC2 := Aside0.mk H
  clear H
  go_enter Tryd.func51, Tryd.ntmps51
  go_upto_block 0 with (first | ((with_reducible refine gate_dst (N := 19) rfl ?_); refine Kd.R_lit (Kd.int .i64) _ 2 ?hg (N := 19) ?hd (xs := ([] : List Int)) (inner := []) (ok := fun _ => True) (okp := fun _ => True) ?hr ?hp (fun _ hk => hk) trivial (Below.refl _ _) (Nat.le_refl _) (by simp) ?_; (case hd => rfl); (case hg => rfl); (case hr => first | (go_simp; done) | (go_simp; rfl)); (case hp => exact (Reps.none _ _)); intro v206 w3 ho4 hb hg_ hnew_; clear hg_ hnew_; (first | rw [← Ny205.out] at ho4 | (simp only [Int.reduceToNat] at ho4; rw [← Ny205.out] at ho4)); have n0_ := Aside0.mk (Kd.R_lower ho4 (below_size (by repeat (first | (with_reducible first | exact HB.out | apply below_alloc | apply pw_below_drewN | apply below_drew1) | exact HB.out)))); have n1_ := Aside0.mk (below_step (by repeat (first | (with_reducible first | exact HB.out | apply below_alloc | apply pw_below_drewN | apply below_drew1) | exact HB.out)) hb); clear HB; have HO207 := n0_; have HB := n1_; clear n0_ n1_; clear hb ho4))
  (try simp only [Act.put, List.setIfInBounds_toArray, List.set_cons_zero, List.set_cons_succ])
  go_cut [4, 5] (fun v4 v5 wc => ∃ (kq : Nat) (x4_1 : List Int) (x5_1 : Int), v5 = .int .i64 x5_1 ∧ Aside0 (spec_l19Decode.j2 kq a0 x4_1 x5_1 = some (r1, r2)) ∧ Aside0 (kq ≤ k) ∧ Aside0 (Kd.R (Kd.int .i64) 2 wc w.heap.size (fun _ => True) v4 x4_1) ∧ Aside0 (Below w.heap.size w wc))
  case first =>
    have H := HC2.out
    clear HC2
    have H' := Aside0.mk H
    clear H
    go_wp2
    go_loopg [4, 5, 6] k (fun kq v4 v5 v6 w' => ∃ (x4_1 : List Int) (x5_1 : Int) (x6_1 : Int), v5 = .int .i64 x5_1 ∧ v6 = .int .i64 x6_1 ∧ Aside0 (spec_l19Decode.l0 kq a0 x4_1 x5_1 x6_1 = some (r1, r2)) ∧ Aside0 (kq ≤ k) ∧ Aside0 (Kd.R (Kd.int .i64) 2 w' w.heap.size (fun _ => True) v4 x4_1) ∧ Aside0 (Below w.heap.size w w'))
    case atStart => exact ⟨(y205), (0), (wrap64 ((a0.size : Int) - 1)), (by first | rfl | (simp; done) | (simp [*]; done)), (by first | rfl | (simp; done) | (simp [*]; done)), H', ⟨Nat.le_refl _⟩, ⟨by (with_reducible repeat (first | apply Kd.R_alloc | apply Kd.R_drewN | apply Kd.R_drew)); exact HO207.out⟩, ⟨by repeat (first | (with_reducible first | exact HB.out | apply below_alloc | apply pw_below_drewN | apply below_drew1) | exact HB.out)⟩⟩
    case round =>
      clear H'
      try clear p2
      obtain ⟨x4_1, x5_1, x6_1, rfl, rfl, HA, HK1, HO_4, HB⟩ := hrel
      cases gk with
      | zero => exact absurd HA.out (by simp [spec_l19Decode.l0])
      | succ k1 =>
        have H := HA.out
        clear HA
        simp only [spec_l19Decode.l0] at H
        by_cases c5 : x6_1 > 0
        · rw [if_pos c5] at H
          have c5b0 : decide (0 < x6_1) = true := decide_eq_true c5
          clear c5
          (first | rw [c5b0] | rw [c5b1] | (simp only [i64_w, i32_w]; rw [c5b0]) | skip)
          by_cases c6 : 0 ≤ x6_1
          · rw [if_pos c6] at H
            have c6b0 : decide (0 ≤ x6_1) = true := decide_eq_true c6
            clear c6
            by_cases c7 : x6_1 < (a0.size : Int)
            · rw [if_pos c7] at H
              have c7b0 : decide (x6_1 < (a0.size : Int)) = true := decide_eq_true c7
              clear c7
              by_cases c9 : (bt a0 x6_1) = 45
              · rw [if_pos c9] at H
                have c9b0 : ((bt a0 x6_1) == 45) = true := beq_iff_eq.mpr c9
                have c9b1 : ((bt a0 x6_1) != 45) = false := bne_eq_false_iff_eq.mpr c9
                clear c9
                have H' := Aside0.mk H
                clear H
                have p8 : 0 ≤ (x6_1 : Int) := of_decide_eq_true (by first | (with_reducible assumption) | assumption)
                have q8 : x6_1 < (a0.size : Int) := of_decide_eq_true (by first | (with_reducible assumption) | assumption)
                have hx8 := bt_at a0 x6_1
                replace p8 := eq_true p8
                replace q8 := eq_true q8
                go_wp2
                go_loopg [4, 7] k1 (fun kq v4 v7 w' => ∃ (x4_2 : List Int) (x7_2 : Int), v7 = .int .i64 x7_2 ∧ Aside0 (spec_l19Decode.l1 kq a0 x4_2 x6_1 x7_2 = some (r1, r2)) ∧ Aside0 (kq ≤ k1) ∧ Aside0 (Kd.R (Kd.int .i64) 2 w' w.heap.size (fun _ => True) v4 x4_2) ∧ Aside0 (Below w.heap.size w w'))
                case atStart => exact ⟨(x4_1), (0), (by first | rfl | (simp; done) | (simp [*]; done)), H', ⟨Nat.le_refl _⟩, ⟨by (with_reducible repeat (first | apply Kd.R_alloc | apply Kd.R_drewN | apply Kd.R_drew)); exact HO_4.out⟩, ⟨by repeat (first | (with_reducible first | exact HB.out | apply below_alloc | apply pw_below_drewN | apply below_drew1) | exact HB.out)⟩⟩
                case round =>
                  clear H'
                  try clear p2
                  try clear c5
                  try clear c5b0
                  try clear c5b1
                  try clear c6
                  try clear c6b0
                  try clear p6
                  try clear c7
                  try clear c7b0
                  try clear p8
                  try clear q8
                  try clear hx8
                  try clear c9
                  try clear c9b0
                  try clear c9b1
                  try clear p2
                  try clear p8
                  try clear q8
                  obtain ⟨x4_2, x7_2, rfl, HA, HK2, HO_4, HB⟩ := hrel
                  cases gk with
                  | zero => exact absurd HA.out (by simp [spec_l19Decode.l1])
                  | succ k2 =>
                    have H := HA.out
                    clear HA
                    simp only [spec_l19Decode.l1] at H
                    by_cases c10 : x7_2 < x6_1
                    · rw [if_pos c10] at H
                      have c10b0 : decide (x7_2 < x6_1) = true := decide_eq_true c10
                      clear c10
                      by_cases c11 : 0 ≤ x7_2
                      · rw [if_pos c11] at H
                        have c11b0 : decide (0 ≤ x7_2) = true := decide_eq_true c11
                        clear c11
                        by_cases c12 : x7_2 < (a0.size : Int)
                        · rw [if_pos c12] at H
                          have c12b0 : decide (x7_2 < (a0.size : Int)) = true := decide_eq_true c12
                          clear c12
                          by_cases c14 : x4_2.length < 17592186044416
                          · rw [if_pos c14] at H
                            have LMc14 := Aside0.mk c14
                            clear c14
                            obtain ⟨y208, hy208⟩ : ∃ y_ : List Int, y_ = (x4_2 ++ [wrap64 (bt a0 x7_2)]) := ⟨_, rfl⟩
                            replace H : (spec_l19Decode.l1 k2 a0 y208 x6_1 (wrap64 (x7_2 + 1))) = some (r1, r2) := by first | (rw [hy208]; with_reducible exact H) | (have H2_ := (Option.bind_some _ _).symm.trans H; rw [hy208]; with_reducible exact H2_) | (have H2_ := (Option.bind_some _ _).symm.trans H; with_reducible exact H2_) | with_reducible exact H | (rw [hy208]; exact H) | exact H
                            have Ny208 := Aside0.mk hy208
                            clear hy208
                            have H' := Aside0.mk H
                            clear H
                            have p13 : 0 ≤ (x7_2 : Int) := of_decide_eq_true (by first | (with_reducible assumption) | assumption)
                            have q13 : x7_2 < (a0.size : Int) := of_decide_eq_true (by first | (with_reducible assumption) | assumption)
                            have hx13 := bt_at a0 x7_2
                            replace p13 := eq_true p13
                            replace q13 := eq_true q13
                            go_wp2_with (first | ((with_reducible refine gate_builtin (b := .append) (xs := #[.tmp 36, .tmp 41]) rfl ?_); at_builtin; refine Kd.R_append (Kd.int .i64) (w0 := w) w.heap.size rfl (.tmp 36) (.tmp 41) 40 2 (.int .i64 0) 8 rfl Tryd.underlying40 info2 rfl (by decide) (by omega) u4 x4_2 (wrap64 (bt a0 x7_2)) [.int .i64 (wrap64 (bt a0 x7_2))] (fun _ => True) (fun _ => False) rfl rfl ?aP (fun _ hk => hk.elim) ?aF ?aO ?aB ?aS ?aL ?_; (case aP => exact rfl); (case aB => exact (by repeat (first | (with_reducible first | exact HB.out | apply below_alloc | apply pw_below_drewN | apply below_drew1) | exact HB.out))); (case aF => exact (fun _ _ => trivial)); (case aO => exact (by (with_reducible repeat (first | apply Kd.R_alloc | apply Kd.R_drewN | apply Kd.R_drew)); exact HO_4.out)); (case aS => exact (below_size (by repeat (first | (with_reducible first | exact HB.out | apply below_alloc | apply pw_below_drewN | apply below_drew1) | exact HB.out)))); (case aL => have := LMc14.out; omega); intro v209 w15 ho hb hg hat; rw [← Ny208.out] at ho; have n0_ := Aside0.mk (hb); have n1_ := Aside0.mk (ho); clear HB; clear HO_4; have HB := n0_; have HO210 := n1_; clear n0_ n1_; clear ho hb hg hat))
                            go_roundg k2
                            case measure => have := HK1.out; have := HK2.out; omega
                            case rel => exact ⟨(y208), (wrap64 (x7_2 + 1)), (by first | rfl | (simp; done) | (simp [*]; done)), H', ⟨by have := HK1.out; have := HK2.out; omega⟩, ⟨by (with_reducible repeat (first | apply Kd.R_alloc | apply Kd.R_drewN | apply Kd.R_drew)); exact HO210.out⟩, ⟨by repeat (first | (with_reducible first | exact HB.out | apply below_alloc | apply pw_below_drewN | apply below_drew1) | exact HB.out)⟩⟩
                          · rw [if_neg c14] at H
                            exact absurd H (by simp)
                        · rw [if_neg c12] at H
                          exact absurd H (by simp)
                      · rw [if_neg c11] at H
                        exact absurd H (by simp)
                    · rw [if_neg c10] at H
                      have c10b0 : decide (x7_2 < x6_1) = false := decide_eq_false c10
                      clear c10
                      have H' := Aside0.mk H
                      clear H
                      go_wp2
                      go_meet
                      case rel => exact ⟨_, (x4_2), (wrap64 (x6_1 + 1)), (by first | rfl | (simp; done) | (simp [*]; done)), H', ⟨by have := HK1.out; have := HK2.out; first | omega | exact Nat.le_refl _⟩, ⟨by (with_reducible repeat (first | apply Kd.R_alloc | apply Kd.R_drewN | apply Kd.R_drew)); exact HO_4.out⟩, ⟨by repeat (first | (with_reducible first | exact HB.out | apply below_alloc | apply pw_below_drewN | apply below_drew1) | exact HB.out)⟩⟩
              · rw [if_neg c9] at H
                have c9b0 : ((bt a0 x6_1) == 45) = false := beq_eq_false_iff_ne.mpr c9
                have c9b1 : ((bt a0 x6_1) != 45) = true := bne_iff_ne.mpr c9
                have H' := Aside0.mk H
                clear H
                have p8 : 0 ≤ (x6_1 : Int) := of_decide_eq_true (by first | (with_reducible assumption) | assumption)
                have q8 : x6_1 < (a0.size : Int) := of_decide_eq_true (by first | (with_reducible assumption) | assumption)
                have hx8 := bt_at a0 x6_1
                replace p8 := eq_true p8
                replace q8 := eq_true q8
                go_wp2
                go_roundg k1
                case measure => have := HK1.out; omega
                case rel => exact ⟨(x4_1), (x5_1), (wrap64 (x6_1 - 1)), (by first | rfl | (simp; done) | (simp [*]; done)), (by first | rfl | (simp; done) | (simp [*]; done)), H', ⟨by have := HK1.out; omega⟩, ⟨by (with_reducible repeat (first | apply Kd.R_alloc | apply Kd.R_drewN | apply Kd.R_drew)); exact HO_4.out⟩, ⟨by repeat (first | (with_reducible first | exact HB.out | apply below_alloc | apply pw_below_drewN | apply below_drew1) | exact HB.out)⟩⟩
            · rw [if_neg c7] at H
              exact absurd H (by simp)
          · rw [if_neg c6] at H
            exact absurd H (by simp)
        · rw [if_neg c5] at H
          have c5b0 : decide (0 < x6_1) = false := decide_eq_false c5
          clear c5
          (first | rw [c5b0] | rw [c5b1] | (simp only [i64_w, i32_w]; rw [c5b0]) | skip)
          have H' := Aside0.mk H
          clear H
          go_wp2
          go_meet
          case rel => exact ⟨_, (x4_1), (x5_1), (by first | rfl | (simp; done) | (simp [*]; done)), H', ⟨by have := HK1.out; first | omega | exact Nat.le_refl _⟩, ⟨by (with_reducible repeat (first | apply Kd.R_alloc | apply Kd.R_drewN | apply Kd.R_drew)); exact HO_4.out⟩, ⟨by repeat (first | (with_reducible first | exact HB.out | apply below_alloc | apply pw_below_drewN | apply below_drew1) | exact HB.out)⟩⟩
  case rest =>
    clear HC2
    try clear c1
    try clear p1
    try clear q1
    try clear hx1
    try clear p2
    try clear c5
    try clear c5b0
    try clear c5b1
    try clear c6
    try clear c6b0
    try clear p6
    try clear c7
    try clear c7b0
    try clear p8
    try clear q8
    try clear hx8
    try clear c9
    try clear c9b0
    try clear c9b1
    try clear c10
    try clear c10b0
    try clear c11
    try clear c11b0
    try clear c12
    try clear c12b0
    try clear p13
    try clear q13
    try clear hx13
    try clear c14
    try clear p13
    try clear p2
    try clear p6
    try clear p8
    try clear q13
    try clear q8
    obtain ⟨kq, x4_1, x5_1, rfl, HA, HJ1, HO_4, HB⟩ := hcut
    cases kq with
    | zero => exact absurd HA.out (by simp [spec_l19Decode.j2])
    | succ kj1 =>
      have H := HA.out
      clear HA
      simp only [spec_l19Decode.j2] at H
      have H' := Aside0.mk H
      clear H
      obtain ⟨Ao16, co16, eo16⟩ := Kd.R_slice HO_4.out
      subst eo16
      go_wp2
      go_loopg [4, 5, 9, 10, 11] kj1 (fun kq v4 v5 v9 v10 v11 w' => ∃ (x4_2 : List Int) (x5_2 : Int) (x9_2 : Int) (x10_2 : Int) (x11_2 : Int), v5 = .int .i64 x5_2 ∧ v9 = .int .i64 x9_2 ∧ v10 = .int .i64 x10_2 ∧ v11 = .int .i64 x11_2 ∧ Aside0 (spec_l19Decode.l2 kq a0 x4_2 x5_2 (x4_1.length : Int) x9_2 x10_2 x11_2 = some (r1, r2)) ∧ Aside0 (kq ≤ kj1) ∧ Aside0 (Kd.R (Kd.int .i64) 2 w' w.heap.size (fun _ => True) v4 x4_2) ∧ Aside0 (Below w.heap.size w w'))
      case atStart => exact ⟨(x4_1), (x5_1), (128), (0), (72), (by first | rfl | (simp; done) | (simp [*]; done)), (by first | rfl | (simp; done) | (simp [*]; done)), (by first | rfl | (simp; done) | (simp [*]; done)), (by first | rfl | (simp; done) | (simp [*]; done)), H', ⟨Nat.le_refl _⟩, ⟨by (with_reducible repeat (first | apply Kd.R_alloc | apply Kd.R_drewN | apply Kd.R_drew)); exact HO_4.out⟩, ⟨by repeat (first | (with_reducible first | exact HB.out | apply below_alloc | apply pw_below_drewN | apply below_drew1) | exact HB.out)⟩⟩
      case round =>
        clear H'
        try clear c1
        try clear p1
        try clear q1
        try clear hx1
        try clear p2
        try clear c5
        try clear c5b0
        try clear c5b1
        try clear c6
        try clear c6b0
        try clear p6
        try clear c7
        try clear c7b0
        try clear p8
        try clear q8
        try clear hx8
        try clear c9
        try clear c9b0
        try clear c9b1
        try clear c10
        try clear c10b0
        try clear c11
        try clear c11b0
        try clear c12
        try clear c12b0
        try clear p13
        try clear q13
        try clear hx13
        try clear c14
        try clear p1
        try clear p13
        try clear p2
        try clear p6
        try clear p8
        try clear q1
        try clear q13
        try clear q8
        obtain ⟨x4_2, x5_2, x9_2, x10_2, x11_2, rfl, rfl, rfl, rfl, HA, HK2, HO_4, HB⟩ := hrel
        cases gk with
        | zero => exact absurd HA.out (by simp [spec_l19Decode.l2])
        | succ k2 =>
          have H := HA.out
          clear HA
          simp only [spec_l19Decode.l2] at H
          by_cases c17 : x5_2 < (a0.size : Int)
          · rw [if_pos c17] at H
            have c17b0 : decide (x5_2 < (a0.size : Int)) = true := decide_eq_true c17
            clear c17
            have H' := Aside0.mk H
            clear H
            go_wp2
            go_loopg [5, 10, 13, 14] k2 (fun kq v5 v10 v13 v14 w' => ∃ (x5_3 : Int) (x10_3 : Int) (x13_3 : Int) (x14_3 : Int), v5 = .int .i64 x5_3 ∧ v10 = .int .i64 x10_3 ∧ v13 = .int .i64 x13_3 ∧ v14 = .int .i64 x14_3 ∧ Aside0 (spec_l19Decode.l3 kq a0 x4_2 x5_3 (x4_1.length : Int) x9_2 x10_3 x11_2 x10_2 x13_3 x14_3 = some (r1, r2)) ∧ Aside0 (kq ≤ k2) ∧ Aside0 (Kd.R (Kd.int .i64) 2 w' w.heap.size (fun _ => True) u4 x4_2) ∧ Aside0 (Below w.heap.size w w'))
            case atStart => exact ⟨(x5_2), (x10_2), (1), (36), (by first | rfl | (simp; done) | (simp [*]; done)), (by first | rfl | (simp; done) | (simp [*]; done)), (by first | rfl | (simp; done) | (simp [*]; done)), (by first | rfl | (simp; done) | (simp [*]; done)), H', ⟨Nat.le_refl _⟩, ⟨by (with_reducible repeat (first | apply Kd.R_alloc | apply Kd.R_drewN | apply Kd.R_drew)); exact HO_4.out⟩, ⟨by repeat (first | (with_reducible first | exact HB.out | apply below_alloc | apply pw_below_drewN | apply below_drew1) | exact HB.out)⟩⟩
            case round =>
              clear H'
              try clear c1
              try clear p1
              try clear q1
              try clear hx1
              try clear p2
              try clear c5
              try clear c5b0
              try clear c5b1
              try clear c6
              try clear c6b0
              try clear p6
              try clear c7
              try clear c7b0
              try clear p8
              try clear q8
              try clear hx8
              try clear c9
              try clear c9b0
              try clear c9b1
              try clear c10
              try clear c10b0
              try clear c11
              try clear c11b0
              try clear c12
              try clear c12b0
              try clear p13
              try clear q13
              try clear hx13
              try clear c14
              try clear c17
              try clear c17b0
              try clear p1
              try clear p13
              try clear p2
              try clear p6
              try clear p8
              try clear q1
              try clear q13
              try clear q8
              obtain ⟨x5_3, x10_3, x13_3, x14_3, rfl, rfl, rfl, rfl, HA, HK3, HO_4, HB⟩ := hrel
              cases gk with
              | zero => exact absurd HA.out (by simp [spec_l19Decode.l3])
              | succ k3 =>
                have H := HA.out
                clear HA
                simp only [spec_l19Decode.l3] at H
                by_cases c18 : x5_3 ≥ (a0.size : Int)
                · rw [if_pos c18] at H
                  have c18b0 : decide ((a0.size : Int) ≤ x5_3) = true := decide_eq_true c18
                  clear c18
                  simp only [Option.some.injEq, Prod.mk.injEq] at H
                  obtain ⟨rfl, rfl⟩ := H
                  go_wp2
                  go_ret2
                  exact ⟨_, by first | rfl | (simp [errW_none, errW_some] <;> rfl) | (simp [*, errW_none, errW_some] <;> rfl), by first | exact Kd.R_nil _ _ _ _ _ | exact Kd.N_nil _ _ _ _ _ | exact Kd.V_nil _ _ _ _ _ | exact Kd.Q_nil _ _ _ _ _ | exact Kd.S_nil _ _ _ _ _, by repeat (first | (with_reducible first | exact HB.out | apply below_alloc | apply pw_below_drewN | apply below_drew1) | exact HB.out)⟩
                · rw [if_neg c18] at H
                  have c18b0 : decide ((a0.size : Int) ≤ x5_3) = false := decide_eq_false c18
                  clear c18
                  by_cases c19 : 0 ≤ x5_3
                  · rw [if_pos c19] at H
                    have c19b0 : decide (0 ≤ x5_3) = true := decide_eq_true c19
                    clear c19
                    by_cases c20 : x5_3 < (a0.size : Int)
                    · rw [if_pos c20] at H
                      have c20b0 : decide (x5_3 < (a0.size : Int)) = true := decide_eq_true c20
                      clear c20
                      replace H := Option.bind_eq_some_iff.mp H
                      obtain ⟨t212, A220, H⟩ := H
                      replace H : (if t212 < 0 then (spec_l19Decode.j5 k3 a0 x4_2 (wrap64 (x5_3 + 1)) (x4_1.length : Int) x9_2 x10_3 x11_2 x10_2 x13_3 x14_3 t212 true) else (spec_l19Decode.j5 k3 a0 x4_2 (wrap64 (x5_3 + 1)) (x4_1.length : Int) x9_2 x10_3 x11_2 x10_2 x13_3 x14_3 t212 (decide (x13_3 > 1099511627776)))) = some (r1, r2) := H
                      have A22 := Aside0.mk A220
                      clear A220
                      have HC23 := Aside0.mk H
                      clear H
                      have p21 : 0 ≤ (x5_3 : Int) := of_decide_eq_true (by first | (with_reducible assumption) | assumption)
                      have q21 : x5_3 < (a0.size : Int) := of_decide_eq_true (by first | (with_reducible assumption) | assumption)
                      have hx21 := bt_at a0 x5_3
                      replace p21 := eq_true p21
                      replace q21 := eq_true q21
                      go_upto_region 25 with (first | ((with_reducible refine gate_callee (f := 85) rfl ?_); refine goesL_ (some 61) rfl rfl Tryd.func85 (by kernel_rfl) rfl #[.int .u8 (bt a0 x5_3)] rfl (by (try simp only [List.map_toArray, List.map_cons, List.map_nil]); first | done | rfl | (simp only [List.length_drop, List.length_take]; rfl)) ?_; (with_reducible refine (spec_l19Value.calls k3 (bt a0 x5_3) t212 _ A22.out).mono ?_); rintro e w' ⟨rfl, ⟨nd, rfl⟩⟩; refine ⟨_, rfl, ?_⟩))
                      (try simp only [Act.put, List.setIfInBounds_toArray, List.set_cons_zero, List.set_cons_succ])
                      go_cut [69] (fun v69 wc => ∃ (kq : Nat) (x69_22 : Bool), v69 = .bool x69_22 ∧ Aside0 (spec_l19Decode.j5 kq a0 x4_2 (wrap64 (x5_3 + 1)) (x4_1.length : Int) x9_2 x10_3 x11_2 x10_2 x13_3 x14_3 t212 x69_22 = some (r1, r2)) ∧ Aside0 (kq ≤ k3) ∧ Aside0 (Kd.R (Kd.int .i64) 2 wc w.heap.size (fun _ => True) u4 x4_2) ∧ Aside0 (Below w.heap.size w wc))
                      case first =>
                        have H := HC23.out
                        clear HC23
                        by_cases c24 : t212 < 0
                        · rw [if_pos c24] at H
                          have c24b0 : decide (t212 < 0) = true := decide_eq_true c24
                          clear c24
                          (first | rw [c24b0] | rw [c24b1] | (simp only [i64_w, i32_w]; rw [c24b0]) | skip)
                          have H' := Aside0.mk H
                          clear H
                          go_wp2
                          go_meet
                          case rel => exact ⟨_, (true), (by first | rfl | (simp; done) | (simp [*]; done)), H', ⟨by have := HJ1.out; have := HK2.out; have := HK3.out; first | omega | exact Nat.le_refl _⟩, ⟨by (with_reducible repeat (first | apply Kd.R_alloc | apply Kd.R_drewN | apply Kd.R_drew)); exact HO_4.out⟩, ⟨by repeat (first | (with_reducible first | exact HB.out | apply below_alloc | apply pw_below_drewN | apply below_drew1) | exact HB.out)⟩⟩
                        · rw [if_neg c24] at H
                          have c24b0 : decide (t212 < 0) = false := decide_eq_false c24
                          clear c24
                          (first | rw [c24b0] | rw [c24b1] | (simp only [i64_w, i32_w]; rw [c24b0]) | skip)
                          have H' := Aside0.mk H
                          clear H
                          go_wp2
                          go_meet
                          case rel => exact ⟨_, (decide (x13_3 > 1099511627776)), (by first | rfl | (simp; done) | (simp [*]; done)), H', ⟨by have := HJ1.out; have := HK2.out; have := HK3.out; first | omega | exact Nat.le_refl _⟩, ⟨by (with_reducible repeat (first | apply Kd.R_alloc | apply Kd.R_drewN | apply Kd.R_drew)); exact HO_4.out⟩, ⟨by repeat (first | (with_reducible first | exact HB.out | apply below_alloc | apply pw_below_drewN | apply below_drew1) | exact HB.out)⟩⟩
                      case rest =>
                        clear HC23
                        try clear c1
                        try clear p1
                        try clear q1
                        try clear hx1
                        try clear c2
                        try clear p2
                        try clear q2
                        try clear hx2
                        try clear c5
                        try clear c5b0
                        try clear c5b1
                        try clear c6
                        try clear c6b0
                        try clear p6
                        try clear c7
                        try clear c7b0
                        try clear c8
                        try clear p8
                        try clear q8
                        try clear hx8
                        try clear c9
                        try clear c9b0
                        try clear c9b1
                        try clear c10
                        try clear c10b0
                        try clear c11
                        try clear c11b0
                        try clear c12
                        try clear c12b0
                        try clear p13
                        try clear q13
                        try clear hx13
                        try clear c14
                        try clear c17
                        try clear c17b0
                        try clear c18
                        try clear c18b0
                        try clear c19
                        try clear c19b0
                        try clear c20
                        try clear c20b0
                        try clear p21
                        try clear q21
                        try clear hx21
                        try clear c24
                        try clear c24b0
                        try clear c24b1
                        try clear p1
                        try clear p13
                        try clear p2
                        try clear p21
                        try clear p6
                        try clear p8
                        try clear q1
                        try clear q13
                        try clear q21
                        try clear q8
                        obtain ⟨kq, x69_22, rfl, HA, HJ22, HO_4, HB⟩ := hcut
                        cases kq with
                        | zero => exact absurd HA.out (by simp [spec_l19Decode.j5])
                        | succ kj22 =>
                          have H := HA.out
                          clear HA
                          simp only [spec_l19Decode.j5] at H
                          by_cases c25 : x69_22 = true
                          · subst c25
                            have H1 : (some (([] : List Int), false)) = some (r1, r2) := by rw [if_pos rfl] at H; exact H
                            clear H
                            have H := H1
                            clear H1
                            simp only [Option.some.injEq, Prod.mk.injEq] at H
                            obtain ⟨rfl, rfl⟩ := H
                            go_wp2
                            go_ret2
                            exact ⟨_, by first | rfl | (simp [errW_none, errW_some] <;> rfl) | (simp [*, errW_none, errW_some] <;> rfl), by first | exact Kd.R_nil _ _ _ _ _ | exact Kd.N_nil _ _ _ _ _ | exact Kd.V_nil _ _ _ _ _ | exact Kd.Q_nil _ _ _ _ _ | exact Kd.S_nil _ _ _ _ _, by repeat (first | (with_reducible first | exact HB.out | apply below_alloc | apply pw_below_drewN | apply below_drew1) | exact HB.out)⟩
                          · replace c25 := Bool.eq_false_iff.mpr c25
                            subst c25
                            have H1 : ((spec_l19Least.f x14_3 x11_2).bind fun t213 => (if t212 < t213 then ((spec_l19Bias.f kj22 (wrap64 ((wrap64 (x10_3 + (wrap64 (t212 * x13_3)))) - x10_2)) (wrap64 ((x4_2.length : Int) + 1)) ((x4_2.length : Int) == (x4_1.length : Int))).bind fun t214 => (if (wrap64 ((x4_2.length : Int) + 1)) = 0 then (none) else ((spec_l01IsPoint.f (wrap64 (x9_2 + (wrap64 (Int.tdiv (wrap64 (x10_3 + (wrap64 (t212 * x13_3)))) (wrap64 ((x4_2.length : Int) + 1))))))).bind fun t215 => (if t215 = true then ((some (([] : List Int) : List Int)).bind fun y216 => (if 0 ≤ (Int.tmod (wrap64 (x10_3 + (wrap64 (t212 * x13_3)))) (wrap64 ((x4_2.length : Int) + 1))) then (if (Int.tmod (wrap64 (x10_3 + (wrap64 (t212 * x13_3)))) (wrap64 ((x4_2.length : Int) + 1))) ≤ (x4_2.length : Int) then ((some (x4_2.take ((Int.tmod (wrap64 (x10_3 + (wrap64 (t212 * x13_3)))) (wrap64 ((x4_2.length : Int) + 1))) : Int).toNat : List Int)).bind fun y219 => (if y216.length + y219.length < 17592186044416 then ((some (y216 ++ y219 : List Int)).bind fun y223 => (if y223.length < 17592186044416 then ((some (y223 ++ [wrap64 (x9_2 + (wrap64 (Int.tdiv (wrap64 (x10_3 + (wrap64 (t212 * x13_3)))) (wrap64 ((x4_2.length : Int) + 1)))))] : List Int)).bind fun y226 => ((some (x4_2.drop ((Int.tmod (wrap64 (x10_3 + (wrap64 (t212 * x13_3)))) (wrap64 ((x4_2.length : Int) + 1))) : Int).toNat : List Int)).bind fun y229 => (if y226.length + y229.length < 17592186044416 then (spec_l19Decode.l2 kj22 a0 (y226 ++ y229) (wrap64 (x5_3 + 1)) (x4_1.length : Int) (wrap64 (x9_2 + (wrap64 (Int.tdiv (wrap64 (x10_3 + (wrap64 (t212 * x13_3)))) (wrap64 ((x4_2.length : Int) + 1)))))) (wrap64 ((Int.tmod (wrap64 (x10_3 + (wrap64 (t212 * x13_3)))) (wrap64 ((x4_2.length : Int) + 1))) + 1)) t214) else (none)))) else (none))) else (none))) else (none)) else (none))) else (some (([] : List Int), false)))))) else (spec_l19Decode.l3 kj22 a0 x4_2 (wrap64 (x5_3 + 1)) (x4_1.length : Int) x9_2 (wrap64 (x10_3 + (wrap64 (t212 * x13_3)))) x11_2 x10_2 (wrap64 (x13_3 * (wrap64 (36 - t213)))) (wrap64 (x14_3 + 36))))) = some (r1, r2) := by rw [if_neg (show ¬ (false = true) by decide)] at H; exact H
                            clear H
                            have H := H1
                            clear H1
                            replace H := Option.bind_eq_some_iff.mp H
                            obtain ⟨t213, A260, H⟩ := H
                            replace H : (if t212 < t213 then ((spec_l19Bias.f kj22 (wrap64 ((wrap64 (x10_3 + (wrap64 (t212 * x13_3)))) - x10_2)) (wrap64 ((x4_2.length : Int) + 1)) ((x4_2.length : Int) == (x4_1.length : Int))).bind fun t214 => (if (wrap64 ((x4_2.length : Int) + 1)) = 0 then (none) else ((spec_l01IsPoint.f (wrap64 (x9_2 + (wrap64 (Int.tdiv (wrap64 (x10_3 + (wrap64 (t212 * x13_3)))) (wrap64 ((x4_2.length : Int) + 1))))))).bind fun t215 => (if t215 = true then ((some (([] : List Int) : List Int)).bind fun y216 => (if 0 ≤ (Int.tmod (wrap64 (x10_3 + (wrap64 (t212 * x13_3)))) (wrap64 ((x4_2.length : Int) + 1))) then (if (Int.tmod (wrap64 (x10_3 + (wrap64 (t212 * x13_3)))) (wrap64 ((x4_2.length : Int) + 1))) ≤ (x4_2.length : Int) then ((some (x4_2.take ((Int.tmod (wrap64 (x10_3 + (wrap64 (t212 * x13_3)))) (wrap64 ((x4_2.length : Int) + 1))) : Int).toNat : List Int)).bind fun y219 => (if y216.length + y219.length < 17592186044416 then ((some (y216 ++ y219 : List Int)).bind fun y223 => (if y223.length < 17592186044416 then ((some (y223 ++ [wrap64 (x9_2 + (wrap64 (Int.tdiv (wrap64 (x10_3 + (wrap64 (t212 * x13_3)))) (wrap64 ((x4_2.length : Int) + 1)))))] : List Int)).bind fun y226 => ((some (x4_2.drop ((Int.tmod (wrap64 (x10_3 + (wrap64 (t212 * x13_3)))) (wrap64 ((x4_2.length : Int) + 1))) : Int).toNat : List Int)).bind fun y229 => (if y226.length + y229.length < 17592186044416 then (spec_l19Decode.l2 kj22 a0 (y226 ++ y229) (wrap64 (x5_3 + 1)) (x4_1.length : Int) (wrap64 (x9_2 + (wrap64 (Int.tdiv (wrap64 (x10_3 + (wrap64 (t212 * x13_3)))) (wrap64 ((x4_2.length : Int) + 1)))))) (wrap64 ((Int.tmod (wrap64 (x10_3 + (wrap64 (t212 * x13_3)))) (wrap64 ((x4_2.length : Int) + 1))) + 1)) t214) else (none)))) else (none))) else (none))) else (none)) else (none))) else (some (([] : List Int), false)))))) else (spec_l19Decode.l3 kj22 a0 x4_2 (wrap64 (x5_3 + 1)) (x4_1.length : Int) x9_2 (wrap64 (x10_3 + (wrap64 (t212 * x13_3)))) x11_2 x10_2 (wrap64 (x13_3 * (wrap64 (36 - t213)))) (wrap64 (x14_3 + 36)))) = some (r1, r2) := H
                            have A26 := Aside0.mk A260
                            clear A260
                            by_cases c27 : t212 < t213
                            · rw [if_pos c27] at H
                              have c27b0 : decide (t212 < t213) = true := decide_eq_true c27
                              clear c27
                              replace H := Option.bind_eq_some_iff.mp H
                              obtain ⟨t214, A280, H⟩ := H
                              replace H : (if (wrap64 ((x4_2.length : Int) + 1)) = 0 then (none) else ((spec_l01IsPoint.f (wrap64 (x9_2 + (wrap64 (Int.tdiv (wrap64 (x10_3 + (wrap64 (t212 * x13_3)))) (wrap64 ((x4_2.length : Int) + 1))))))).bind fun t215 => (if t215 = true then ((some (([] : List Int) : List Int)).bind fun y216 => (if 0 ≤ (Int.tmod (wrap64 (x10_3 + (wrap64 (t212 * x13_3)))) (wrap64 ((x4_2.length : Int) + 1))) then (if (Int.tmod (wrap64 (x10_3 + (wrap64 (t212 * x13_3)))) (wrap64 ((x4_2.length : Int) + 1))) ≤ (x4_2.length : Int) then ((some (x4_2.take ((Int.tmod (wrap64 (x10_3 + (wrap64 (t212 * x13_3)))) (wrap64 ((x4_2.length : Int) + 1))) : Int).toNat : List Int)).bind fun y219 => (if y216.length + y219.length < 17592186044416 then ((some (y216 ++ y219 : List Int)).bind fun y223 => (if y223.length < 17592186044416 then ((some (y223 ++ [wrap64 (x9_2 + (wrap64 (Int.tdiv (wrap64 (x10_3 + (wrap64 (t212 * x13_3)))) (wrap64 ((x4_2.length : Int) + 1)))))] : List Int)).bind fun y226 => ((some (x4_2.drop ((Int.tmod (wrap64 (x10_3 + (wrap64 (t212 * x13_3)))) (wrap64 ((x4_2.length : Int) + 1))) : Int).toNat : List Int)).bind fun y229 => (if y226.length + y229.length < 17592186044416 then (spec_l19Decode.l2 kj22 a0 (y226 ++ y229) (wrap64 (x5_3 + 1)) (x4_1.length : Int) (wrap64 (x9_2 + (wrap64 (Int.tdiv (wrap64 (x10_3 + (wrap64 (t212 * x13_3)))) (wrap64 ((x4_2.length : Int) + 1)))))) (wrap64 ((Int.tmod (wrap64 (x10_3 + (wrap64 (t212 * x13_3)))) (wrap64 ((x4_2.length : Int) + 1))) + 1)) t214) else (none)))) else (none))) else (none))) else (none)) else (none))) else (some (([] : List Int), false))))) = some (r1, r2) := H
                              have A28 := Aside0.mk A280
                              clear A280
                              by_cases c29 : (wrap64 ((x4_2.length : Int) + 1)) = 0
                              · rw [if_pos c29] at H
                                exact absurd H (by simp)
                              · rw [if_neg c29] at H
                                have c29b0 : ((wrap64 ((x4_2.length : Int) + 1)) == 0) = false := beq_eq_false_iff_ne.mpr c29
                                have c29b1 : ((wrap64 ((x4_2.length : Int) + 1)) != 0) = true := bne_iff_ne.mpr c29
                                replace H := Option.bind_eq_some_iff.mp H
                                obtain ⟨t215, A300, H⟩ := H
                                replace H : (if t215 = true then ((some (([] : List Int) : List Int)).bind fun y216 => (if 0 ≤ (Int.tmod (wrap64 (x10_3 + (wrap64 (t212 * x13_3)))) (wrap64 ((x4_2.length : Int) + 1))) then (if (Int.tmod (wrap64 (x10_3 + (wrap64 (t212 * x13_3)))) (wrap64 ((x4_2.length : Int) + 1))) ≤ (x4_2.length : Int) then ((some (x4_2.take ((Int.tmod (wrap64 (x10_3 + (wrap64 (t212 * x13_3)))) (wrap64 ((x4_2.length : Int) + 1))) : Int).toNat : List Int)).bind fun y219 => (if y216.length + y219.length < 17592186044416 then ((some (y216 ++ y219 : List Int)).bind fun y223 => (if y223.length < 17592186044416 then ((some (y223 ++ [wrap64 (x9_2 + (wrap64 (Int.tdiv (wrap64 (x10_3 + (wrap64 (t212 * x13_3)))) (wrap64 ((x4_2.length : Int) + 1)))))] : List Int)).bind fun y226 => ((some (x4_2.drop ((Int.tmod (wrap64 (x10_3 + (wrap64 (t212 * x13_3)))) (wrap64 ((x4_2.length : Int) + 1))) : Int).toNat : List Int)).bind fun y229 => (if y226.length + y229.length < 17592186044416 then (spec_l19Decode.l2 kj22 a0 (y226 ++ y229) (wrap64 (x5_3 + 1)) (x4_1.length : Int) (wrap64 (x9_2 + (wrap64 (Int.tdiv (wrap64 (x10_3 + (wrap64 (t212 * x13_3)))) (wrap64 ((x4_2.length : Int) + 1)))))) (wrap64 ((Int.tmod (wrap64 (x10_3 + (wrap64 (t212 * x13_3)))) (wrap64 ((x4_2.length : Int) + 1))) + 1)) t214) else (none)))) else (none))) else (none))) else (none)) else (none))) else (some (([] : List Int), false))) = some (r1, r2) := H
                                have A30 := Aside0.mk A300
                                clear A300
                                by_cases c31 : t215 = true
                                · subst c31
                                  have H1 : ((some (([] : List Int) : List Int)).bind fun y216 => (if 0 ≤ (Int.tmod (wrap64 (x10_3 + (wrap64 (t212 * x13_3)))) (wrap64 ((x4_2.length : Int) + 1))) then (if (Int.tmod (wrap64 (x10_3 + (wrap64 (t212 * x13_3)))) (wrap64 ((x4_2.length : Int) + 1))) ≤ (x4_2.length : Int) then ((some (x4_2.take ((Int.tmod (wrap64 (x10_3 + (wrap64 (t212 * x13_3)))) (wrap64 ((x4_2.length : Int) + 1))) : Int).toNat : List Int)).bind fun y219 => (if y216.length + y219.length < 17592186044416 then ((some (y216 ++ y219 : List Int)).bind fun y223 => (if y223.length < 17592186044416 then ((some (y223 ++ [wrap64 (x9_2 + (wrap64 (Int.tdiv (wrap64 (x10_3 + (wrap64 (t212 * x13_3)))) (wrap64 ((x4_2.length : Int) + 1)))))] : List Int)).bind fun y226 => ((some (x4_2.drop ((Int.tmod (wrap64 (x10_3 + (wrap64 (t212 * x13_3)))) (wrap64 ((x4_2.length : Int) + 1))) : Int).toNat : List Int)).bind fun y229 => (if y226.length + y229.length < 17592186044416 then (spec_l19Decode.l2 kj22 a0 (y226 ++ y229) (wrap64 (x5_3 + 1)) (x4_1.length : Int) (wrap64 (x9_2 + (wrap64 (Int.tdiv (wrap64 (x10_3 + (wrap64 (t212 * x13_3)))) (wrap64 ((x4_2.length : Int) + 1)))))) (wrap64 ((Int.tmod (wrap64 (x10_3 + (wrap64 (t212 * x13_3)))) (wrap64 ((x4_2.length : Int) + 1))) + 1)) t214) else (none)))) else (none))) else (none))) else (none)) else (none))) = some (r1, r2) := by rw [if_pos rfl] at H; exact H
                                  clear H
                                  have H := H1
                                  clear H1
                                  obtain ⟨y216, hy216⟩ : ∃ y_ : List Int, y_ = (([] : List Int)) := ⟨_, rfl⟩
                                  replace H : (if 0 ≤ (Int.tmod (wrap64 (x10_3 + (wrap64 (t212 * x13_3)))) (wrap64 ((x4_2.length : Int) + 1))) then (if (Int.tmod (wrap64 (x10_3 + (wrap64 (t212 * x13_3)))) (wrap64 ((x4_2.length : Int) + 1))) ≤ (x4_2.length : Int) then ((some (x4_2.take ((Int.tmod (wrap64 (x10_3 + (wrap64 (t212 * x13_3)))) (wrap64 ((x4_2.length : Int) + 1))) : Int).toNat : List Int)).bind fun y219 => (if y216.length + y219.length < 17592186044416 then ((some (y216 ++ y219 : List Int)).bind fun y223 => (if y223.length < 17592186044416 then ((some (y223 ++ [wrap64 (x9_2 + (wrap64 (Int.tdiv (wrap64 (x10_3 + (wrap64 (t212 * x13_3)))) (wrap64 ((x4_2.length : Int) + 1)))))] : List Int)).bind fun y226 => ((some (x4_2.drop ((Int.tmod (wrap64 (x10_3 + (wrap64 (t212 * x13_3)))) (wrap64 ((x4_2.length : Int) + 1))) : Int).toNat : List Int)).bind fun y229 => (if y226.length + y229.length < 17592186044416 then (spec_l19Decode.l2 kj22 a0 (y226 ++ y229) (wrap64 (x5_3 + 1)) (x4_1.length : Int) (wrap64 (x9_2 + (wrap64 (Int.tdiv (wrap64 (x10_3 + (wrap64 (t212 * x13_3)))) (wrap64 ((x4_2.length : Int) + 1)))))) (wrap64 ((Int.tmod (wrap64 (x10_3 + (wrap64 (t212 * x13_3)))) (wrap64 ((x4_2.length : Int) + 1))) + 1)) t214) else (none)))) else (none))) else (none))) else (none)) else (none)) = some (r1, r2) := by first | (rw [hy216]; with_reducible exact H) | (have H2_ := (Option.bind_some _ _).symm.trans H; rw [hy216]; with_reducible exact H2_) | (have H2_ := (Option.bind_some _ _).symm.trans H; with_reducible exact H2_) | with_reducible exact H | (rw [hy216]; exact H) | exact H
                                  have Ny216 := Aside0.mk hy216
                                  clear hy216
                                  obtain ⟨ji32, hji32⟩ : ∃ j_ : Int, (Int.tmod (wrap64 (x10_3 + (wrap64 (t212 * x13_3)))) (wrap64 ((x4_2.length : Int) + 1))) = j_ := ⟨_, rfl⟩
                                  replace H : (if 0 ≤ (ji32) then (if (ji32) ≤ (x4_2.length : Int) then ((some (x4_2.take ((ji32) : Int).toNat : List Int)).bind fun y219 => (if y216.length + y219.length < 17592186044416 then ((some (y216 ++ y219 : List Int)).bind fun y223 => (if y223.length < 17592186044416 then ((some (y223 ++ [wrap64 (x9_2 + (wrap64 (Int.tdiv (wrap64 (x10_3 + (wrap64 (t212 * x13_3)))) (wrap64 ((x4_2.length : Int) + 1)))))] : List Int)).bind fun y226 => ((some (x4_2.drop ((ji32) : Int).toNat : List Int)).bind fun y229 => (if y226.length + y229.length < 17592186044416 then (spec_l19Decode.l2 kj22 a0 (y226 ++ y229) (wrap64 (x5_3 + 1)) (x4_1.length : Int) (wrap64 (x9_2 + (wrap64 (Int.tdiv (wrap64 (x10_3 + (wrap64 (t212 * x13_3)))) (wrap64 ((x4_2.length : Int) + 1)))))) (wrap64 ((ji32) + 1)) t214) else (none)))) else (none))) else (none))) else (none)) else (none)) = some (r1, r2) := by first | (rw [hji32] at H; exact H) | (simp only [hji32] at H ⊢; exact H)
                                  (try rw [hji32] at A26)
                                  (try rw [hji32] at A28)
                                  (try rw [hji32] at A30)
                                  by_cases c33 : 0 ≤ (ji32)
                                  · rw [if_pos c33] at H
                                    have c33b0 := eq_true c33
                                    have c33b1 : decide (0 ≤ (ji32)) = true := decide_eq_true c33
                                    clear c33
                                    by_cases c34 : (ji32) ≤ (x4_2.length : Int)
                                    · rw [if_pos c34] at H
                                      have c34b0 := eq_true c34
                                      have c34b1 : decide ((ji32) ≤ (x4_2.length : Int)) = true := decide_eq_true c34
                                      clear c34
                                      obtain ⟨y219, hy219⟩ : ∃ y_ : List Int, y_ = (x4_2.take ((ji32) : Int).toNat) := ⟨_, rfl⟩
                                      replace H : (if y216.length + y219.length < 17592186044416 then ((some (y216 ++ y219 : List Int)).bind fun y223 => (if y223.length < 17592186044416 then ((some (y223 ++ [wrap64 (x9_2 + (wrap64 (Int.tdiv (wrap64 (x10_3 + (wrap64 (t212 * x13_3)))) (wrap64 ((x4_2.length : Int) + 1)))))] : List Int)).bind fun y226 => ((some (x4_2.drop ((ji32) : Int).toNat : List Int)).bind fun y229 => (if y226.length + y229.length < 17592186044416 then (spec_l19Decode.l2 kj22 a0 (y226 ++ y229) (wrap64 (x5_3 + 1)) (x4_1.length : Int) (wrap64 (x9_2 + (wrap64 (Int.tdiv (wrap64 (x10_3 + (wrap64 (t212 * x13_3)))) (wrap64 ((x4_2.length : Int) + 1)))))) (wrap64 ((ji32) + 1)) t214) else (none)))) else (none))) else (none)) = some (r1, r2) := by first | (rw [hy219]; with_reducible exact H) | (have H2_ := (Option.bind_some _ _).symm.trans H; rw [hy219]; with_reducible exact H2_) | (have H2_ := (Option.bind_some _ _).symm.trans H; with_reducible exact H2_) | with_reducible exact H | (rw [hy219]; exact H) | exact H
                                      have Ny219 := Aside0.mk hy219
                                      clear hy219
                                      by_cases c35 : y216.length + y219.length < 17592186044416
                                      · rw [if_pos c35] at H
                                        have LMc35 := Aside0.mk c35
                                        clear c35
                                        obtain ⟨y223, hy223⟩ : ∃ y_ : List Int, y_ = (y216 ++ y219) := ⟨_, rfl⟩
                                        replace H : (if y223.length < 17592186044416 then ((some (y223 ++ [wrap64 (x9_2 + (wrap64 (Int.tdiv (wrap64 (x10_3 + (wrap64 (t212 * x13_3)))) (wrap64 ((x4_2.length : Int) + 1)))))] : List Int)).bind fun y226 => ((some (x4_2.drop ((ji32) : Int).toNat : List Int)).bind fun y229 => (if y226.length + y229.length < 17592186044416 then (spec_l19Decode.l2 kj22 a0 (y226 ++ y229) (wrap64 (x5_3 + 1)) (x4_1.length : Int) (wrap64 (x9_2 + (wrap64 (Int.tdiv (wrap64 (x10_3 + (wrap64 (t212 * x13_3)))) (wrap64 ((x4_2.length : Int) + 1)))))) (wrap64 ((ji32) + 1)) t214) else (none)))) else (none)) = some (r1, r2) := by first | (rw [hy223]; with_reducible exact H) | (have H2_ := (Option.bind_some _ _).symm.trans H; rw [hy223]; with_reducible exact H2_) | (have H2_ := (Option.bind_some _ _).symm.trans H; with_reducible exact H2_) | with_reducible exact H | (rw [hy223]; exact H) | exact H
                                        have Ny223 := Aside0.mk hy223
                                        clear hy223
                                        by_cases c36 : y223.length < 17592186044416
                                        · rw [if_pos c36] at H
                                          have LMc36 := Aside0.mk c36
                                          clear c36
                                          obtain ⟨y226, hy226⟩ : ∃ y_ : List Int, y_ = (y223 ++ [wrap64 (x9_2 + (wrap64 (Int.tdiv (wrap64 (x10_3 + (wrap64 (t212 * x13_3)))) (wrap64 ((x4_2.length : Int) + 1)))))]) := ⟨_, rfl⟩
                                          replace H : ((some (x4_2.drop ((ji32) : Int).toNat : List Int)).bind fun y229 => (if y226.length + y229.length < 17592186044416 then (spec_l19Decode.l2 kj22 a0 (y226 ++ y229) (wrap64 (x5_3 + 1)) (x4_1.length : Int) (wrap64 (x9_2 + (wrap64 (Int.tdiv (wrap64 (x10_3 + (wrap64 (t212 * x13_3)))) (wrap64 ((x4_2.length : Int) + 1)))))) (wrap64 ((ji32) + 1)) t214) else (none))) = some (r1, r2) := by first | (rw [hy226]; with_reducible exact H) | (have H2_ := (Option.bind_some _ _).symm.trans H; rw [hy226]; with_reducible exact H2_) | (have H2_ := (Option.bind_some _ _).symm.trans H; with_reducible exact H2_) | with_reducible exact H | (rw [hy226]; exact H) | exact H
                                          have Ny226 := Aside0.mk hy226
                                          clear hy226
                                          have c37b0 := eq_true (of_decide_eq_true (by first | (with_reducible assumption) | assumption) : 0 ≤ (ji32))
                                          have c38b0 := eq_true (of_decide_eq_true (by first | (with_reducible assumption) | assumption) : (ji32) ≤ (x4_2.length : Int))
                                          obtain ⟨y229, hy229⟩ : ∃ y_ : List Int, y_ = (x4_2.drop ((ji32) : Int).toNat) := ⟨_, rfl⟩
                                          replace H : (if y226.length + y229.length < 17592186044416 then (spec_l19Decode.l2 kj22 a0 (y226 ++ y229) (wrap64 (x5_3 + 1)) (x4_1.length : Int) (wrap64 (x9_2 + (wrap64 (Int.tdiv (wrap64 (x10_3 + (wrap64 (t212 * x13_3)))) (wrap64 ((x4_2.length : Int) + 1)))))) (wrap64 ((ji32) + 1)) t214) else (none)) = some (r1, r2) := by first | (rw [hy229]; with_reducible exact H) | (have H2_ := (Option.bind_some _ _).symm.trans H; rw [hy229]; with_reducible exact H2_) | (have H2_ := (Option.bind_some _ _).symm.trans H; with_reducible exact H2_) | with_reducible exact H | (rw [hy229]; exact H) | exact H
                                          have Ny229 := Aside0.mk hy229
                                          clear hy229
                                          by_cases c39 : y226.length + y229.length < 17592186044416
                                          · rw [if_pos c39] at H
                                            have LMc39 := Aside0.mk c39
                                            clear c39
                                            obtain ⟨y233, hy233⟩ : ∃ y_ : List Int, y_ = (y226 ++ y229) := ⟨_, rfl⟩
                                            replace H : (spec_l19Decode.l2 kj22 a0 y233 (wrap64 (x5_3 + 1)) (x4_1.length : Int) (wrap64 (x9_2 + (wrap64 (Int.tdiv (wrap64 (x10_3 + (wrap64 (t212 * x13_3)))) (wrap64 ((x4_2.length : Int) + 1)))))) (wrap64 ((ji32) + 1)) t214) = some (r1, r2) := by first | (rw [hy233]; with_reducible exact H) | (have H2_ := (Option.bind_some _ _).symm.trans H; rw [hy233]; with_reducible exact H2_) | (have H2_ := (Option.bind_some _ _).symm.trans H; with_reducible exact H2_) | with_reducible exact H | (rw [hy233]; exact H) | exact H
                                            have Ny233 := Aside0.mk hy233
                                            clear hy233
                                            have H' := Aside0.mk H
                                            clear H
                                            go_wp2_with (first | ((with_reducible refine gate_callee (f := 86) rfl ?_); refine goesL_ (some 77) rfl rfl Tryd.func86 (by kernel_rfl) rfl #[.int .i64 x14_3, .int .i64 x11_2] rfl (by (try simp only [List.map_toArray, List.map_cons, List.map_nil]); first | done | rfl | (simp only [List.length_drop, List.length_take]; rfl)) ?_; (with_reducible refine (spec_l19Least.calls x14_3 x11_2 t213 _ A26.out).mono ?_); rintro e w' ⟨rfl, ⟨nd, rfl⟩⟩; refine ⟨_, rfl, ?_⟩; obtain ⟨Ao40, co40, eo40⟩ := Kd.R_slice HO_4.out; subst eo40) | ((with_reducible refine gate_callee (f := 82) rfl ?_); refine goesL_ (some 96) rfl rfl Tryd.func82 (by kernel_rfl) rfl #[.int .i64 (wrap64 ((wrap64 (x10_3 + (wrap64 (t212 * x13_3)))) - x10_2)), .int .i64 (wrap64 ((x4_2.length : Int) + 1)), .bool ((x4_2.length : Int) == (x4_1.length : Int))] rfl (by (try simp only [List.map_toArray, List.map_cons, List.map_nil]); first | done | rfl | (simp only [List.length_drop, List.length_take]; rfl)) ?_; (with_reducible refine (spec_l19Bias.calls kj22 (wrap64 ((wrap64 (x10_3 + (wrap64 (t212 * x13_3)))) - x10_2)) (wrap64 ((x4_2.length : Int) + 1)) ((x4_2.length : Int) == (x4_1.length : Int)) t214 _ A28.out).mono ?_); rintro e w' ⟨rfl, ⟨nd, rfl⟩⟩; refine ⟨_, rfl, ?_⟩) | ((with_reducible refine gate_callee (f := 87) rfl ?_); refine goesL_ (some 106) rfl rfl Tryd.func87 (by kernel_rfl) rfl #[.int .i64 (wrap64 (x9_2 + (wrap64 (Int.tdiv (wrap64 (x10_3 + (wrap64 (t212 * x13_3)))) (wrap64 ((x4_2.length : Int) + 1))))))] rfl (by (try simp only [List.map_toArray, List.map_cons, List.map_nil]); first | done | rfl | (simp only [List.length_drop, List.length_take]; rfl)) ?_; (with_reducible refine (spec_l01IsPoint.calls (wrap64 (x9_2 + (wrap64 (Int.tdiv (wrap64 (x10_3 + (wrap64 (t212 * x13_3)))) (wrap64 ((x4_2.length : Int) + 1)))))) true _ A30.out).mono ?_); rintro e w' ⟨rfl, ⟨nd, rfl⟩⟩; refine ⟨_, rfl, ?_⟩) | ((with_reducible refine gate_dst (N := 108) rfl ?_); refine Kd.R_lit (Kd.int .i64) _ 2 ?hg (N := 108) ?hd (xs := ([] : List Int)) (inner := []) (ok := fun _ => True) (okp := fun _ => True) ?hr ?hp (fun _ hk => hk) trivial (Below.refl _ _) (Nat.le_refl _) (by simp) ?_; (case hd => rfl); (case hg => rfl); (case hr => first | (go_simp; done) | (go_simp; rfl)); (case hp => exact (Reps.none _ _)); intro v217 w41 ho42 hb hg_ hnew_; clear hg_ hnew_; (first | rw [← Ny216.out] at ho42 | (simp only [Int.reduceToNat] at ho42; rw [← Ny216.out] at ho42)); have n0_ := Aside0.mk (Kd.R_elder' (by (with_reducible repeat (first | apply Kd.R_alloc | apply Kd.R_drewN | apply Kd.R_drew)); exact HO_4.out) (Kd.R_base ho42) hb); have n1_ := Aside0.mk (Kd.R_lower (Kd.R_new' ho42 (Kd.R_lt (by (with_reducible repeat (first | apply Kd.R_alloc | apply Kd.R_drewN | apply Kd.R_drew)); exact HO_4.out))) (below_size (by repeat (first | (with_reducible first | exact HB.out | apply below_alloc | apply pw_below_drewN | apply below_drew1) | exact HB.out)))); have n2_ := Aside0.mk (below_step (by repeat (first | (with_reducible first | exact HB.out | apply below_alloc | apply pw_below_drewN | apply below_drew1) | exact HB.out)) hb); clear HO_4; clear HB; have HO_4 := n0_; have HO218 := n1_; have HB := n2_; clear n0_ n1_ n2_; clear hb ho42; have q43 : ((ji32) : Int) ≤ ((x4_2.length : Int) : Int) := of_decide_eq_true (by first | (with_reducible assumption) | assumption); obtain ⟨i043, hi043, _, hsz43, _⟩ := info_parts info2; have hroom43 : x4_2.length ≤ co40 := (Kd.R_reads' HO_4.out).2.1; have hC43 : Kd.C (Kd.int .i64) _ Ao40 x4_2.length x4_2 := (Kd.R_reads' HO_4.out).2.2; have hcut43 := cut_to (P := Tryd.prog) 40 2 .i64 Tryd.underlying40 hi043 Ao40 x4_2.length co40 (ji32) (of_decide_eq_true (by first | (with_reducible assumption) | assumption)) q43 hroom43; have hr43 := Kd.C_take (m := ((ji32) : Int).toNat) hC43 (by omega); have hy43 : y219.length = ((ji32) : Int).toNat := (by rw [Ny219.out, List.length_take]; omega); rw [← Ny219.out] at hr43; rw [← hy43] at hcut43; have HR222 := Aside0.mk hr43; have HC222 := Aside0.mk (show y219.length ≤ co40 from by omega); clear hr43 hC43 hroom43 hi043 hsz43; have KY43 := Aside0.mk hy43; clear hy43; have KL43 := Aside0.mk (show ((ji32) : Int).toNat ≤ x4_2.length from by omega); replace q43 := eq_true q43) | ((with_reducible refine gate_builtin (b := .append) (xs := #[.tmp 108, .tmp 111]) rfl ?_); at_builtin; refine Kd.R_append_rows (Kd.int .i64) (w0 := w) w.heap.size rfl (.tmp 108) (.tmp 111) 40 2 (.int .i64 0) 8 rfl Tryd.underlying40 info2 rfl (by decide) (by omega) v217 y216 y219 _ _ _ (fun k_ => some k_ ≠ (.slice Ao40 x4_2.length co40 : Value).ownBlock) (fun _ => False) rfl rfl ?aO ?aR (fun _ _ h => h) (fun _ h => h.elim) ?aF ?aB ?aS ?aL ?_; (case aR => repeat (first | exact (by repeat (first | (with_reducible exact HR222.out) | (with_reducible refine Kd.C_alloc ?_ _) | (with_reducible refine Kd.C_drewN ?_ _) | (with_reducible refine Kd.C_drew ?_) | exact HR222.out)) | (with_reducible refine Kd.C_alloc ?_ _) | (with_reducible refine Kd.C_drewN ?_ _) | (with_reducible refine Kd.C_drew ?_))); (case aB => exact (by repeat (first | (with_reducible first | exact HB.out | apply below_alloc | apply pw_below_drewN | apply below_drew1) | exact HB.out))); (case aF => exact (fun k_ hk => Kd.fresh' (Kd.R_lt (by (with_reducible repeat (first | apply Kd.R_alloc | apply Kd.R_drewN | apply Kd.R_drew)); exact HO_4.out)) k_ hk)); (case aO => exact (by (with_reducible repeat (first | apply Kd.R_alloc | apply Kd.R_drewN | apply Kd.R_drew)); exact Kd.R_mono HO218.out (fun _ hk => hk.2))); (case aS => exact (below_size (by repeat (first | (with_reducible first | exact HB.out | apply below_alloc | apply pw_below_drewN | apply below_drew1) | exact HB.out)))); (case aL => have := LMc35.out; omega); intro v224 w44 ho hb hg hat; rw [← Ny223.out] at ho; have n0_ := Aside0.mk (Kd.R_after (ok := (fun _ => True)) (by (with_reducible repeat (first | apply Kd.R_alloc | apply Kd.R_drewN | apply Kd.R_drew)); exact HO_4.out) hg hat); have n1_ := Aside0.mk (hb); have n2_ := Aside0.mk ((show Kd.C (Kd.int .i64) w44 Ao40 y219.length y219 from by rw [Ny219.out]; exact Kd.C_take (m := ((ji32) : Int).toNat) ((Kd.R_reads' (Kd.R_after (ok := (fun _ => True)) (by (with_reducible repeat (first | apply Kd.R_alloc | apply Kd.R_drewN | apply Kd.R_drew)); exact HO_4.out) hg hat)).2.2) KL43.out)); have n3_ := Aside0.mk (ho); clear HO_4; clear HB; clear HR222; clear HO218; have HO_4 := n0_; have HB := n1_; have HR222 := n2_; have HO225 := n3_; clear n0_ n1_ n2_ n3_; clear ho hb hg hat) | ((with_reducible refine gate_builtin (b := .append) (xs := #[.tmp 113, .tmp 115]) rfl ?_); at_builtin; refine Kd.R_append (Kd.int .i64) (w0 := w) w.heap.size rfl (.tmp 113) (.tmp 115) 40 2 (.int .i64 0) 8 rfl Tryd.underlying40 info2 rfl (by decide) (by omega) v224 y223 (wrap64 (x9_2 + (wrap64 (Int.tdiv (wrap64 (x10_3 + (wrap64 (t212 * x13_3)))) (wrap64 ((x4_2.length : Int) + 1)))))) [.int .i64 (wrap64 (x9_2 + (wrap64 (Int.tdiv (wrap64 (x10_3 + (wrap64 (t212 * x13_3)))) (wrap64 ((x4_2.length : Int) + 1))))))] (fun k_ => some k_ ≠ (.slice Ao40 x4_2.length co40 : Value).ownBlock) (fun _ => False) rfl rfl ?aP (fun _ hk => hk.elim) ?aF ?aO ?aB ?aS ?aL ?_; (case aP => exact rfl); (case aB => exact (by repeat (first | (with_reducible first | exact HB.out | apply below_alloc | apply pw_below_drewN | apply below_drew1) | exact HB.out))); (case aF => exact (fun k_ hk => Kd.fresh' (Kd.R_lt (by (with_reducible repeat (first | apply Kd.R_alloc | apply Kd.R_drewN | apply Kd.R_drew)); exact HO_4.out)) k_ hk)); (case aO => exact (by (with_reducible repeat (first | apply Kd.R_alloc | apply Kd.R_drewN | apply Kd.R_drew)); exact HO225.out)); (case aS => exact (below_size (by repeat (first | (with_reducible first | exact HB.out | apply below_alloc | apply pw_below_drewN | apply below_drew1) | exact HB.out)))); (case aL => have := LMc36.out; omega); intro v227 w45 ho hb hg hat; rw [← Ny226.out] at ho; have n0_ := Aside0.mk (Kd.R_after (ok := (fun _ => True)) (by (with_reducible repeat (first | apply Kd.R_alloc | apply Kd.R_drewN | apply Kd.R_drew)); exact HO_4.out) hg hat); have n1_ := Aside0.mk (hb); have n2_ := Aside0.mk ((show Kd.C (Kd.int .i64) w45 Ao40 y219.length y219 from by rw [Ny219.out]; exact Kd.C_take (m := ((ji32) : Int).toNat) ((Kd.R_reads' (Kd.R_after (ok := (fun _ => True)) (by (with_reducible repeat (first | apply Kd.R_alloc | apply Kd.R_drewN | apply Kd.R_drew)); exact HO_4.out) hg hat)).2.2) KL43.out)); have n3_ := Aside0.mk (ho); clear HO_4; clear HB; clear HR222; clear HO225; have HO_4 := n0_; have HB := n1_; have HR222 := n2_; have HO228 := n3_; clear n0_ n1_ n2_ n3_; clear ho hb hg hat; have q46 : ((ji32) : Int) ≤ ((x4_2.length : Int) : Int) := of_decide_eq_true (by first | (with_reducible assumption) | assumption); obtain ⟨i046, hi046, _, hsz46, _⟩ := info_parts info2; have hroom46 : x4_2.length ≤ co40 := (Kd.R_reads' HO_4.out).2.1; have hC46 : Kd.C (Kd.int .i64) _ Ao40 x4_2.length x4_2 := (Kd.R_reads' HO_4.out).2.2; have q046 : (0 : Int) ≤ ((ji32) : Int) := of_decide_eq_true (by first | (with_reducible assumption) | assumption); have hcut46 := cut_from (P := Tryd.prog) 40 2 .i64 Tryd.underlying40 hi046 1 hsz46 Ao40 x4_2.length co40 (ji32) q046 q46; have hr46 := Kd.C_drop (m := ((ji32) : Int).toNat) (c := co40) hC46 (by omega) hroom46; obtain ⟨A46, hA46⟩ : ∃ A1, A1 = (if co40 = ((ji32) : Int).toNat then Ao40 else (Ao40 : Option Addr).map (·.add (((ji32) : Int).toNat * 1))) := ⟨_, rfl⟩; obtain ⟨c46, hc46⟩ : ∃ c1, c1 = co40 - ((ji32) : Int).toNat := ⟨_, rfl⟩; have hy46 : y229.length = x4_2.length - ((ji32) : Int).toNat := (by rw [Ny229.out, List.length_drop] <;> omega); rw [show (x4_2).drop ((ji32) : Int).toNat = y229 from Ny229.out.symm] at hr46; replace hr46 : Kd.C (Kd.int .i64) _ A46 y229.length y229 := (by rw [hA46]; exact hr46); rw [← hy46, ← hA46, ← hc46] at hcut46; have HR232 := Aside0.mk hr46; have HC232 := Aside0.mk (show y229.length ≤ c46 from by rw [hy46, hc46]; exact Nat.sub_le_sub_right hroom46 _); clear hr46 hC46 hroom46 hi046 hsz46 hc46; have KY46 := Aside0.mk hy46; have KA46 := Aside0.mk hA46; clear hy46 hA46; have KL46 := Aside0.mk (show ((ji32) : Int).toNat ≤ x4_2.length from by omega); replace q46 := eq_true q46) | ((with_reducible refine gate_builtin (b := .append) (xs := #[.tmp 117, .tmp 120]) rfl ?_); at_builtin; refine Kd.R_append_rows (Kd.int .i64) (w0 := w) w.heap.size rfl (.tmp 117) (.tmp 120) 40 2 (.int .i64 0) 8 rfl Tryd.underlying40 info2 rfl (by decide) (by omega) v227 y226 y229 _ _ _ (fun k_ => some k_ ≠ (.slice Ao40 x4_2.length co40 : Value).ownBlock) (fun _ => False) rfl rfl ?aO ?aR (fun _ _ h => h) (fun _ h => h.elim) ?aF ?aB ?aS ?aL ?_; (case aR => repeat (first | exact (by repeat (first | (with_reducible exact HR232.out) | (with_reducible refine Kd.C_alloc ?_ _) | (with_reducible refine Kd.C_drewN ?_ _) | (with_reducible refine Kd.C_drew ?_) | exact HR232.out)) | (with_reducible refine Kd.C_alloc ?_ _) | (with_reducible refine Kd.C_drewN ?_ _) | (with_reducible refine Kd.C_drew ?_))); (case aB => exact (by repeat (first | (with_reducible first | exact HB.out | apply below_alloc | apply pw_below_drewN | apply below_drew1) | exact HB.out))); (case aF => exact (fun k_ hk => Kd.fresh' (Kd.R_lt (by (with_reducible repeat (first | apply Kd.R_alloc | apply Kd.R_drewN | apply Kd.R_drew)); exact HO_4.out)) k_ hk)); (case aO => exact (by (with_reducible repeat (first | apply Kd.R_alloc | apply Kd.R_drewN | apply Kd.R_drew)); exact HO228.out)); (case aS => exact (below_size (by repeat (first | (with_reducible first | exact HB.out | apply below_alloc | apply pw_below_drewN | apply below_drew1) | exact HB.out)))); (case aL => have := LMc39.out; omega); intro v234 w47 ho hb hg hat; rw [← Ny233.out] at ho; have n0_ := Aside0.mk (Kd.R_after (ok := (fun _ => True)) (by (with_reducible repeat (first | apply Kd.R_alloc | apply Kd.R_drewN | apply Kd.R_drew)); exact HO_4.out) hg hat); have n1_ := Aside0.mk (hb); have n2_ := Aside0.mk ((show Kd.C (Kd.int .i64) w47 Ao40 y219.length y219 from by rw [Ny219.out]; exact Kd.C_take (m := ((ji32) : Int).toNat) ((Kd.R_reads' (Kd.R_after (ok := (fun _ => True)) (by (with_reducible repeat (first | apply Kd.R_alloc | apply Kd.R_drewN | apply Kd.R_drew)); exact HO_4.out) hg hat)).2.2) KL43.out)); have n3_ := Aside0.mk ((show Kd.C (Kd.int .i64) w47 A46 y229.length y229 from by rw [Ny229.out, KA46.out]; exact Kd.C_drop (m := ((ji32) : Int).toNat) (c := co40) ((Kd.R_reads' (Kd.R_after (ok := (fun _ => True)) (by (with_reducible repeat (first | apply Kd.R_alloc | apply Kd.R_drewN | apply Kd.R_drew)); exact HO_4.out) hg hat)).2.2) KL46.out ((Kd.R_reads' (Kd.R_after (ok := (fun _ => True)) (by (with_reducible repeat (first | apply Kd.R_alloc | apply Kd.R_drewN | apply Kd.R_drew)); exact HO_4.out) hg hat)).2.1))); have n4_ := Aside0.mk (ho); clear HO_4; clear HB; clear HR222; clear HR232; clear HO228; have HO_4 := n0_; have HB := n1_; have HR222 := n2_; have HR232 := n3_; have HO235 := n4_; clear n0_ n1_ n2_ n3_ n4_; clear ho hb hg hat))
                                            go_roundg kj22
                                            case measure => have := HJ1.out; have := HK2.out; have := HK3.out; have := HJ22.out; omega
                                            case rel => exact ⟨(y233), ((wrap64 (x5_3 + 1))), (wrap64 (x9_2 + (wrap64 (Int.tdiv (wrap64 (x10_3 + (wrap64 (t212 * x13_3)))) (wrap64 ((x4_2.length : Int) + 1)))))), (wrap64 ((ji32) + 1)), (t214), (by first | rfl | (simp; done) | (simp [*]; done)), (by first | rfl | (simp; done) | (simp [*]; done)), (by first | rfl | (simp; done) | (simp only [← hji32] <;> (first | rfl | simp)) | (simp [*]; done)), (by first | rfl | (simp; done) | (simp [*]; done)), H', ⟨by have := HJ1.out; have := HK2.out; have := HK3.out; have := HJ22.out; omega⟩, ⟨by (with_reducible repeat (first | apply Kd.R_alloc | apply Kd.R_drewN | apply Kd.R_drew)); exact Kd.R_mono HO235.out (fun _ hk => trivial)⟩, ⟨by repeat (first | (with_reducible first | exact HB.out | apply below_alloc | apply pw_below_drewN | apply below_drew1) | exact HB.out)⟩⟩
                                          · rw [if_neg c39] at H
                                            exact absurd H (by simp)
                                        · rw [if_neg c36] at H
                                          exact absurd H (by simp)
                                      · rw [if_neg c35] at H
                                        exact absurd H (by simp)
                                    · rw [if_neg c34] at H
                                      exact absurd H (by simp)
                                  · rw [if_neg c33] at H
                                    exact absurd H (by simp)
                                · replace c31 := Bool.eq_false_iff.mpr c31
                                  subst c31
                                  have H1 : (some (([] : List Int), false)) = some (r1, r2) := by rw [if_neg (show ¬ (false = true) by decide)] at H; exact H
                                  clear H
                                  have H := H1
                                  clear H1
                                  simp only [Option.some.injEq, Prod.mk.injEq] at H
                                  obtain ⟨rfl, rfl⟩ := H
                                  go_wp2_with (first | ((with_reducible refine gate_callee (f := 86) rfl ?_); refine goesL_ (some 77) rfl rfl Tryd.func86 (by kernel_rfl) rfl #[.int .i64 x14_3, .int .i64 x11_2] rfl (by (try simp only [List.map_toArray, List.map_cons, List.map_nil]); first | done | rfl | (simp only [List.length_drop, List.length_take]; rfl)) ?_; (with_reducible refine (spec_l19Least.calls x14_3 x11_2 t213 _ A26.out).mono ?_); rintro e w' ⟨rfl, ⟨nd, rfl⟩⟩; refine ⟨_, rfl, ?_⟩; obtain ⟨Ao48, co48, eo48⟩ := Kd.R_slice HO_4.out; subst eo48) | ((with_reducible refine gate_callee (f := 82) rfl ?_); refine goesL_ (some 96) rfl rfl Tryd.func82 (by kernel_rfl) rfl #[.int .i64 (wrap64 ((wrap64 (x10_3 + (wrap64 (t212 * x13_3)))) - x10_2)), .int .i64 (wrap64 ((x4_2.length : Int) + 1)), .bool ((x4_2.length : Int) == (x4_1.length : Int))] rfl (by (try simp only [List.map_toArray, List.map_cons, List.map_nil]); first | done | rfl | (simp only [List.length_drop, List.length_take]; rfl)) ?_; (with_reducible refine (spec_l19Bias.calls kj22 (wrap64 ((wrap64 (x10_3 + (wrap64 (t212 * x13_3)))) - x10_2)) (wrap64 ((x4_2.length : Int) + 1)) ((x4_2.length : Int) == (x4_1.length : Int)) t214 _ A28.out).mono ?_); rintro e w' ⟨rfl, ⟨nd, rfl⟩⟩; refine ⟨_, rfl, ?_⟩) | ((with_reducible refine gate_callee (f := 87) rfl ?_); refine goesL_ (some 106) rfl rfl Tryd.func87 (by kernel_rfl) rfl #[.int .i64 (wrap64 (x9_2 + (wrap64 (Int.tdiv (wrap64 (x10_3 + (wrap64 (t212 * x13_3)))) (wrap64 ((x4_2.length : Int) + 1))))))] rfl (by (try simp only [List.map_toArray, List.map_cons, List.map_nil]); first | done | rfl | (simp only [List.length_drop, List.length_take]; rfl)) ?_; (with_reducible refine (spec_l01IsPoint.calls (wrap64 (x9_2 + (wrap64 (Int.tdiv (wrap64 (x10_3 + (wrap64 (t212 * x13_3)))) (wrap64 ((x4_2.length : Int) + 1)))))) false _ A30.out).mono ?_); rintro e w' ⟨rfl, ⟨nd, rfl⟩⟩; refine ⟨_, rfl, ?_⟩))
                                  go_ret2
                                  exact ⟨_, by first | rfl | (simp [errW_none, errW_some] <;> rfl) | (simp [*, errW_none, errW_some] <;> rfl), by first | exact Kd.R_nil _ _ _ _ _ | exact Kd.N_nil _ _ _ _ _ | exact Kd.V_nil _ _ _ _ _ | exact Kd.Q_nil _ _ _ _ _ | exact Kd.S_nil _ _ _ _ _, by repeat (first | (with_reducible first | exact HB.out | apply below_alloc | apply pw_below_drewN | apply below_drew1) | exact HB.out)⟩
                            · rw [if_neg c27] at H
                              have c27b0 : decide (t212 < t213) = false := decide_eq_false c27
                              clear c27
                              have H' := Aside0.mk H
                              clear H
                              go_wp2_with (first | ((with_reducible refine gate_callee (f := 86) rfl ?_); refine goesL_ (some 77) rfl rfl Tryd.func86 (by kernel_rfl) rfl #[.int .i64 x14_3, .int .i64 x11_2] rfl (by (try simp only [List.map_toArray, List.map_cons, List.map_nil]); first | done | rfl | (simp only [List.length_drop, List.length_take]; rfl)) ?_; (with_reducible refine (spec_l19Least.calls x14_3 x11_2 t213 _ A26.out).mono ?_); rintro e w' ⟨rfl, ⟨nd, rfl⟩⟩; refine ⟨_, rfl, ?_⟩))
                              go_roundg kj22
                              case measure => have := HJ1.out; have := HK2.out; have := HK3.out; have := HJ22.out; omega
                              case rel => exact ⟨((wrap64 (x5_3 + 1))), (wrap64 (x10_3 + (wrap64 (t212 * x13_3)))), (wrap64 (x13_3 * (wrap64 (36 - t213)))), (wrap64 (x14_3 + 36)), (by first | rfl | (simp; done) | (simp [*]; done)), (by first | rfl | (simp; done) | (simp [*]; done)), (by first | rfl | (simp; done) | (simp [*]; done)), (by first | rfl | (simp; done) | (simp [*]; done)), H', ⟨by have := HJ1.out; have := HK2.out; have := HK3.out; have := HJ22.out; omega⟩, ⟨by (with_reducible repeat (first | apply Kd.R_alloc | apply Kd.R_drewN | apply Kd.R_drew)); exact HO_4.out⟩, ⟨by repeat (first | (with_reducible first | exact HB.out | apply below_alloc | apply pw_below_drewN | apply below_drew1) | exact HB.out)⟩⟩
                    · rw [if_neg c20] at H
                      exact absurd H (by simp)
                  · rw [if_neg c19] at H
                    exact absurd H (by simp)
          · rw [if_neg c17] at H
            have c17b0 : decide (x5_2 < (a0.size : Int)) = false := decide_eq_false c17
            clear c17
            replace H := Option.bind_eq_some_iff.mp H
            obtain ⟨t211, A490, H⟩ := H
            replace H : (some (x4_2, (t211.toList == a0.toList))) = some (r1, r2) := H
            have A49 := Aside0.mk A490
            clear A490
            simp only [Option.some.injEq, Prod.mk.injEq] at H
            obtain ⟨rfl, rfl⟩ := H
            obtain ⟨Ao50, co50, eo50⟩ := Kd.R_slice HO_4.out
            subst eo50
            go_wp2_with (first | ((with_reducible refine gate_callee (f := 47) rfl ?_); refine goesL_ (some 126) rfl rfl Tryd.func47 (by kernel_rfl) rfl #[.slice Ao50 x4_2.length co50] rfl (by (try simp only [List.map_toArray, List.map_cons, List.map_nil]); first | done | rfl | (simp only [List.length_drop, List.length_take]; rfl)) ?_; (with_reducible refine (spec_l19Encode.calls k2 _ _ x4_2 t211 _ ?side1 ?side2 A49.out).mono ?_); (case side1 => repeat (first | exact (Kd.R_reads' HO_4.out).2.2 | (with_reducible refine Kd.C_alloc ?_ _) | (with_reducible refine Kd.C_drewN ?_ _) | (with_reducible refine Kd.C_drew ?_))); (case side2 => exact (Kd.R_reads' HO_4.out).2.1); rintro e w51 ⟨rfl, hb⟩; refine ⟨_, rfl, ?_⟩; have n0_ := Aside0.mk (Kd.R_below (by (with_reducible repeat (first | apply Kd.R_alloc | apply Kd.R_drewN | apply Kd.R_drew)); exact HO_4.out) hb); have n1_ := Aside0.mk (below_step (by repeat (first | (with_reducible first | exact HB.out | apply below_alloc | apply pw_below_drewN | apply below_drew1) | exact HB.out)) hb); clear HO_4; clear HB; have HO_4 := n0_; have HB := n1_; clear n0_ n1_; (try clear hb); (try clear hb2); (try clear hk); (try clear hi)))
            go_ret2
            exact ⟨_, by first | rfl | (simp [errW_none, errW_some] <;> rfl) | (simp [*, errW_none, errW_some] <;> rfl), by (with_reducible repeat (first | apply Kd.R_alloc | apply Kd.R_drewN | apply Kd.R_drew)); exact HO_4.out, by repeat (first | (with_reducible first | exact HB.out | apply below_alloc | apply pw_below_drewN | apply below_drew1) | exact HB.out)⟩

end Go.Proofs.YtgahimbccbghnaaDoor.P
