/- Written by a program of this session: plain Lean functions for Go functions, and for each the proof that the call comes to what the function says. -/
import Derived.Test.YtbppeepihlajoaaDoorL0
namespace Go.Proofs.YtbppeepihlajoaaDoor.P
open Go.RowKit Go.Proofs.YtbppeepihlajoaaDoorW.PrintWords Go.Proofs.YtbppeepihlajoaaDoorW.PrintLast Go.Proofs.YtbppeepihlajoaaDoorW.PrintMore
attribute [local go_sem] max2_int min2_int max_two min_two max_three min_three max_four min_four
set_option linter.unusedVariables false
set_option linter.unusedSimpArgs false
def spec_l01Cased.f  : Option ((List (S172))) := some (([(⟨0, 31, 4, 0⟩ : S172), (⟨32, 63, 5, 0⟩ : S172), (⟨64, 67, 4, 0⟩ : S172), (⟨68, 71, 6, 0⟩ : S172), (⟨72, 75, 5, 0⟩ : S172), (⟨80, 89, 8, 0⟩ : S172), (⟨96, 97, 5, 0⟩ : S172)] : List (S172)))
set_option maxHeartbeats 8000000 in
set_option maxRecDepth 100000 in
theorem spec_l01Cased.calls  (r : List (S172)) (w : World) (h : spec_l01Cased.f  = some r) :
  Calls Tryd.prog 181 #[] w fun e w' => ∃ v0_ : Value, e = .returned (v0_) ∧ Kd.R k172 172 w' w.heap.size (fun _ => True) v0_ r ∧ Below w.heap.size w w' := by
 have hu172 := Tryd.underlying172
 have HB := zab.mk (Below.refl w.heap.size w)
 have H : (some (([(⟨0, 31, 4, 0⟩ : S172), (⟨32, 63, 5, 0⟩ : S172), (⟨64, 67, 4, 0⟩ : S172), (⟨68, 71, 6, 0⟩ : S172), (⟨72, 75, 5, 0⟩ : S172), (⟨80, 89, 8, 0⟩ : S172), (⟨96, 97, 5, 0⟩ : S172)] : List (S172)))) = some r := h
 clear h
 obtain ⟨y101, hy101⟩ : ∃ y_ : List (S172), y_ = (([(⟨0, 31, 4, 0⟩ : S172), (⟨32, 63, 5, 0⟩ : S172), (⟨64, 67, 4, 0⟩ : S172), (⟨68, 71, 6, 0⟩ : S172), (⟨72, 75, 5, 0⟩ : S172), (⟨80, 89, 8, 0⟩ : S172), (⟨96, 97, 5, 0⟩ : S172)] : List (S172))) := ⟨_, rfl⟩
 replace H : (some y101) = some r := by first | (rw [hy101]; with_reducible exact H) | (have H2_ := (Option.bind_some _ _).symm.trans H; rw [hy101]; with_reducible exact H2_) | (have H2_ := (Option.bind_some _ _).symm.trans H; with_reducible exact H2_) | with_reducible exact H | (rw [hy101]; exact H) | exact H
 have Ny101 := zab.mk hy101; clear hy101; obtain rfl := Option.some.inj H
 go_enter Tryd.func181, Tryd.ntmps181
 go_wp2_with (first | ((with_reducible refine zbC (N := 8) rfl ?_); refine Kd.R_lit k172 _ 172 ?hg (N := 8) ?hd (xs := ([(⟨0, 31, 4, 0⟩ : S172), (⟨32, 63, 5, 0⟩ : S172), (⟨64, 67, 4, 0⟩ : S172), (⟨68, 71, 6, 0⟩ : S172), (⟨72, 75, 5, 0⟩ : S172), (⟨80, 89, 8, 0⟩ : S172), (⟨96, 97, 5, 0⟩ : S172)] : List (S172))) (inner := [.int .i64 0, .int .i64 31, .int .i64 4, .int .i64 0, .int .i64 32, .int .i64 63, .int .i64 5, .int .i64 0, .int .i64 64, .int .i64 67, .int .i64 4, .int .i64 0, .int .i64 68, .int .i64 71, .int .i64 6, .int .i64 0, .int .i64 72, .int .i64 75, .int .i64 5, .int .i64 0, .int .i64 80, .int .i64 89, .int .i64 8, .int .i64 0, .int .i64 96, .int .i64 97, .int .i64 5, .int .i64 0]) (ok := fun _ => True) (okp := fun _ => True) ?hr ?hp (fun _ hk => hk) trivial (Below.refl _ _) (Nat.le_refl _) (by simp) ?_; (case hd => rfl); (case hg => rfl); (case hr => first | (go_simp; done) | (go_simp; rfl)); (case hp => exact (Reps.c4 (show Kd.M k172 _ _ _ (⟨0, 31, 4, 0⟩ : S172) [.int .i64 0, .int .i64 31, .int .i64 4, .int .i64 0] from (zby _ _ _ (⟨0, 31, 4, 0⟩ : S172) )) (Reps.c4 (show Kd.M k172 _ _ _ (⟨32, 63, 5, 0⟩ : S172) [.int .i64 32, .int .i64 63, .int .i64 5, .int .i64 0] from (zby _ _ _ (⟨32, 63, 5, 0⟩ : S172) )) (Reps.c4 (show Kd.M k172 _ _ _ (⟨64, 67, 4, 0⟩ : S172) [.int .i64 64, .int .i64 67, .int .i64 4, .int .i64 0] from (zby _ _ _ (⟨64, 67, 4, 0⟩ : S172) )) (Reps.c4 (show Kd.M k172 _ _ _ (⟨68, 71, 6, 0⟩ : S172) [.int .i64 68, .int .i64 71, .int .i64 6, .int .i64 0] from (zby _ _ _ (⟨68, 71, 6, 0⟩ : S172) )) (Reps.c4 (show Kd.M k172 _ _ _ (⟨72, 75, 5, 0⟩ : S172) [.int .i64 72, .int .i64 75, .int .i64 5, .int .i64 0] from (zby _ _ _ (⟨72, 75, 5, 0⟩ : S172) )) (Reps.c4 (show Kd.M k172 _ _ _ (⟨80, 89, 8, 0⟩ : S172) [.int .i64 80, .int .i64 89, .int .i64 8, .int .i64 0] from (zby _ _ _ (⟨80, 89, 8, 0⟩ : S172) )) (Reps.c4 (show Kd.M k172 _ _ _ (⟨96, 97, 5, 0⟩ : S172) [.int .i64 96, .int .i64 97, .int .i64 5, .int .i64 0] from (zby _ _ _ (⟨96, 97, 5, 0⟩ : S172) )) (Reps.none _ _))))))))); intro v102 w1 ho2 hb hg_ hnew_; clear hg_ hnew_; (first | rw [← Ny101.out] at ho2 | (simp only [Int.reduceToNat] at ho2; rw [← Ny101.out] at ho2)); have n0_ := zab.mk (Kd.zbx ho2 (zaC (by repeat (first | (with_reducible first | exact HB.out | apply zac | apply zaa | apply zad) | exact HB.out)))); have n1_ := zab.mk (zaw (by repeat (first | (with_reducible first | exact HB.out | apply zac | apply zaa | apply zad) | exact HB.out)) hb); clear HB; have HO103 := n0_; have HB := n1_; clear n0_ n1_ hb ho2))
 go_ret
 exact ⟨_, by first | rfl | (simp [zam, zal] <;> rfl) | (simp [*, zam, zal] <;> rfl), by (with_reducible repeat (first | apply Kd.zao | apply Kd.zan | apply Kd.zav)); exact HO103.out, by repeat (first | (with_reducible first | exact HB.out | apply zac | apply zaa | apply zad) | exact HB.out)⟩
def spec_l01Rows.f  : Option ((List (S172))) := some (([(⟨0, 31, 1, 0⟩ : S172), (⟨32, 32, 2, 0⟩ : S172), (⟨48, 57, 8, 0⟩ : S172), (⟨65, 90, 4, 1⟩ : S172), (⟨97, 122, 5, 1⟩ : S172), (⟨33, 126, 9, 0⟩ : S172), (⟨127, 159, 1, 0⟩ : S172), (⟨160, 160, 2, 0⟩ : S172), (⟨173, 173, 11, 0⟩ : S172), (⟨161, 191, 10, 0⟩ : S172), (⟨1280, 1311, 7, 5⟩ : S172), (⟨1360, 1369, 8, 5⟩ : S172), (⟨1536, 1567, 7, 6⟩ : S172), (⟨1568, 1579, 3, 6⟩ : S172), (⟨1584, 1585, 3, 6⟩ : S172), (⟨1616, 1625, 8, 6⟩ : S172), (⟨1792, 1810, 7, 7⟩ : S172), (⟨1824, 1844, 7, 7⟩ : S172), (⟨1857, 1883, 7, 7⟩ : S172), (⟨2048, 2095, 7, 8⟩ : S172), (⟨4096, 4159, 3, 0⟩ : S172), (⟨7680, 7748, 10, 0⟩ : S172), (⟨7760, 7785, 10, 0⟩ : S172), (⟨7936, 7947, 11, 0⟩ : S172), (⟨7953, 7954, 11, 0⟩ : S172), (⟨8064, 8064, 2, 0⟩ : S172), (⟨9728, 9753, 4, 1⟩ : S172), (⟨9984, 10009, 10, 0⟩ : S172), (⟨10016, 10025, 8, 0⟩ : S172), (⟨10032, 10035, 10, 0⟩ : S172), (⟨12288, 23459, 7, 7⟩ : S172), (⟨24576, 26623, 7, 9⟩ : S172)] : List (S172)))
set_option maxHeartbeats 8000000 in
set_option maxRecDepth 100000 in
theorem spec_l01Rows.calls  (r : List (S172)) (w : World) (h : spec_l01Rows.f  = some r) :
  Calls Tryd.prog 182 #[] w fun e w' => ∃ v0_ : Value, e = .returned (v0_) ∧ Kd.R k172 172 w' w.heap.size (fun _ => True) v0_ r ∧ Below w.heap.size w w' := by
 have hu172 := Tryd.underlying172
 have HB := zab.mk (Below.refl w.heap.size w)
 have H : (some (([(⟨0, 31, 1, 0⟩ : S172), (⟨32, 32, 2, 0⟩ : S172), (⟨48, 57, 8, 0⟩ : S172), (⟨65, 90, 4, 1⟩ : S172), (⟨97, 122, 5, 1⟩ : S172), (⟨33, 126, 9, 0⟩ : S172), (⟨127, 159, 1, 0⟩ : S172), (⟨160, 160, 2, 0⟩ : S172), (⟨173, 173, 11, 0⟩ : S172), (⟨161, 191, 10, 0⟩ : S172), (⟨1280, 1311, 7, 5⟩ : S172), (⟨1360, 1369, 8, 5⟩ : S172), (⟨1536, 1567, 7, 6⟩ : S172), (⟨1568, 1579, 3, 6⟩ : S172), (⟨1584, 1585, 3, 6⟩ : S172), (⟨1616, 1625, 8, 6⟩ : S172), (⟨1792, 1810, 7, 7⟩ : S172), (⟨1824, 1844, 7, 7⟩ : S172), (⟨1857, 1883, 7, 7⟩ : S172), (⟨2048, 2095, 7, 8⟩ : S172), (⟨4096, 4159, 3, 0⟩ : S172), (⟨7680, 7748, 10, 0⟩ : S172), (⟨7760, 7785, 10, 0⟩ : S172), (⟨7936, 7947, 11, 0⟩ : S172), (⟨7953, 7954, 11, 0⟩ : S172), (⟨8064, 8064, 2, 0⟩ : S172), (⟨9728, 9753, 4, 1⟩ : S172), (⟨9984, 10009, 10, 0⟩ : S172), (⟨10016, 10025, 8, 0⟩ : S172), (⟨10032, 10035, 10, 0⟩ : S172), (⟨12288, 23459, 7, 7⟩ : S172), (⟨24576, 26623, 7, 9⟩ : S172)] : List (S172)))) = some r := h
 clear h
 obtain ⟨y104, hy104⟩ : ∃ y_ : List (S172), y_ = (([(⟨0, 31, 1, 0⟩ : S172), (⟨32, 32, 2, 0⟩ : S172), (⟨48, 57, 8, 0⟩ : S172), (⟨65, 90, 4, 1⟩ : S172), (⟨97, 122, 5, 1⟩ : S172), (⟨33, 126, 9, 0⟩ : S172), (⟨127, 159, 1, 0⟩ : S172), (⟨160, 160, 2, 0⟩ : S172), (⟨173, 173, 11, 0⟩ : S172), (⟨161, 191, 10, 0⟩ : S172), (⟨1280, 1311, 7, 5⟩ : S172), (⟨1360, 1369, 8, 5⟩ : S172), (⟨1536, 1567, 7, 6⟩ : S172), (⟨1568, 1579, 3, 6⟩ : S172), (⟨1584, 1585, 3, 6⟩ : S172), (⟨1616, 1625, 8, 6⟩ : S172), (⟨1792, 1810, 7, 7⟩ : S172), (⟨1824, 1844, 7, 7⟩ : S172), (⟨1857, 1883, 7, 7⟩ : S172), (⟨2048, 2095, 7, 8⟩ : S172), (⟨4096, 4159, 3, 0⟩ : S172), (⟨7680, 7748, 10, 0⟩ : S172), (⟨7760, 7785, 10, 0⟩ : S172), (⟨7936, 7947, 11, 0⟩ : S172), (⟨7953, 7954, 11, 0⟩ : S172), (⟨8064, 8064, 2, 0⟩ : S172), (⟨9728, 9753, 4, 1⟩ : S172), (⟨9984, 10009, 10, 0⟩ : S172), (⟨10016, 10025, 8, 0⟩ : S172), (⟨10032, 10035, 10, 0⟩ : S172), (⟨12288, 23459, 7, 7⟩ : S172), (⟨24576, 26623, 7, 9⟩ : S172)] : List (S172))) := ⟨_, rfl⟩
 replace H : (some y104) = some r := by first | (rw [hy104]; with_reducible exact H) | (have H2_ := (Option.bind_some _ _).symm.trans H; rw [hy104]; with_reducible exact H2_) | (have H2_ := (Option.bind_some _ _).symm.trans H; with_reducible exact H2_) | with_reducible exact H | (rw [hy104]; exact H) | exact H
 have Ny104 := zab.mk hy104; clear hy104; obtain rfl := Option.some.inj H
 go_enter Tryd.func182, Tryd.ntmps182
 go_wp2_with (first | ((with_reducible refine zbC (N := 33) rfl ?_); refine Kd.R_lit k172 _ 172 ?hg (N := 33) ?hd (xs := ([(⟨0, 31, 1, 0⟩ : S172), (⟨32, 32, 2, 0⟩ : S172), (⟨48, 57, 8, 0⟩ : S172), (⟨65, 90, 4, 1⟩ : S172), (⟨97, 122, 5, 1⟩ : S172), (⟨33, 126, 9, 0⟩ : S172), (⟨127, 159, 1, 0⟩ : S172), (⟨160, 160, 2, 0⟩ : S172), (⟨173, 173, 11, 0⟩ : S172), (⟨161, 191, 10, 0⟩ : S172), (⟨1280, 1311, 7, 5⟩ : S172), (⟨1360, 1369, 8, 5⟩ : S172), (⟨1536, 1567, 7, 6⟩ : S172), (⟨1568, 1579, 3, 6⟩ : S172), (⟨1584, 1585, 3, 6⟩ : S172), (⟨1616, 1625, 8, 6⟩ : S172), (⟨1792, 1810, 7, 7⟩ : S172), (⟨1824, 1844, 7, 7⟩ : S172), (⟨1857, 1883, 7, 7⟩ : S172), (⟨2048, 2095, 7, 8⟩ : S172), (⟨4096, 4159, 3, 0⟩ : S172), (⟨7680, 7748, 10, 0⟩ : S172), (⟨7760, 7785, 10, 0⟩ : S172), (⟨7936, 7947, 11, 0⟩ : S172), (⟨7953, 7954, 11, 0⟩ : S172), (⟨8064, 8064, 2, 0⟩ : S172), (⟨9728, 9753, 4, 1⟩ : S172), (⟨9984, 10009, 10, 0⟩ : S172), (⟨10016, 10025, 8, 0⟩ : S172), (⟨10032, 10035, 10, 0⟩ : S172), (⟨12288, 23459, 7, 7⟩ : S172), (⟨24576, 26623, 7, 9⟩ : S172)] : List (S172))) (inner := [.int .i64 0, .int .i64 31, .int .i64 1, .int .i64 0, .int .i64 32, .int .i64 32, .int .i64 2, .int .i64 0, .int .i64 48, .int .i64 57, .int .i64 8, .int .i64 0, .int .i64 65, .int .i64 90, .int .i64 4, .int .i64 1, .int .i64 97, .int .i64 122, .int .i64 5, .int .i64 1, .int .i64 33, .int .i64 126, .int .i64 9, .int .i64 0, .int .i64 127, .int .i64 159, .int .i64 1, .int .i64 0, .int .i64 160, .int .i64 160, .int .i64 2, .int .i64 0, .int .i64 173, .int .i64 173, .int .i64 11, .int .i64 0, .int .i64 161, .int .i64 191, .int .i64 10, .int .i64 0, .int .i64 1280, .int .i64 1311, .int .i64 7, .int .i64 5, .int .i64 1360, .int .i64 1369, .int .i64 8, .int .i64 5, .int .i64 1536, .int .i64 1567, .int .i64 7, .int .i64 6, .int .i64 1568, .int .i64 1579, .int .i64 3, .int .i64 6, .int .i64 1584, .int .i64 1585, .int .i64 3, .int .i64 6, .int .i64 1616, .int .i64 1625, .int .i64 8, .int .i64 6, .int .i64 1792, .int .i64 1810, .int .i64 7, .int .i64 7, .int .i64 1824, .int .i64 1844, .int .i64 7, .int .i64 7, .int .i64 1857, .int .i64 1883, .int .i64 7, .int .i64 7, .int .i64 2048, .int .i64 2095, .int .i64 7, .int .i64 8, .int .i64 4096, .int .i64 4159, .int .i64 3, .int .i64 0, .int .i64 7680, .int .i64 7748, .int .i64 10, .int .i64 0, .int .i64 7760, .int .i64 7785, .int .i64 10, .int .i64 0, .int .i64 7936, .int .i64 7947, .int .i64 11, .int .i64 0, .int .i64 7953, .int .i64 7954, .int .i64 11, .int .i64 0, .int .i64 8064, .int .i64 8064, .int .i64 2, .int .i64 0, .int .i64 9728, .int .i64 9753, .int .i64 4, .int .i64 1, .int .i64 9984, .int .i64 10009, .int .i64 10, .int .i64 0, .int .i64 10016, .int .i64 10025, .int .i64 8, .int .i64 0, .int .i64 10032, .int .i64 10035, .int .i64 10, .int .i64 0, .int .i64 12288, .int .i64 23459, .int .i64 7, .int .i64 7, .int .i64 24576, .int .i64 26623, .int .i64 7, .int .i64 9]) (ok := fun _ => True) (okp := fun _ => True) ?hr ?hp (fun _ hk => hk) trivial (Below.refl _ _) (Nat.le_refl _) (by simp) ?_; (case hd => rfl); (case hg => rfl); (case hr => first | (go_simp; done) | (go_simp; rfl)); (case hp => exact (Reps.c4 (show Kd.M k172 _ _ _ (⟨0, 31, 1, 0⟩ : S172) [.int .i64 0, .int .i64 31, .int .i64 1, .int .i64 0] from (zby _ _ _ (⟨0, 31, 1, 0⟩ : S172) )) (Reps.c4 (show Kd.M k172 _ _ _ (⟨32, 32, 2, 0⟩ : S172) [.int .i64 32, .int .i64 32, .int .i64 2, .int .i64 0] from (zby _ _ _ (⟨32, 32, 2, 0⟩ : S172) )) (Reps.c4 (show Kd.M k172 _ _ _ (⟨48, 57, 8, 0⟩ : S172) [.int .i64 48, .int .i64 57, .int .i64 8, .int .i64 0] from (zby _ _ _ (⟨48, 57, 8, 0⟩ : S172) )) (Reps.c4 (show Kd.M k172 _ _ _ (⟨65, 90, 4, 1⟩ : S172) [.int .i64 65, .int .i64 90, .int .i64 4, .int .i64 1] from (zby _ _ _ (⟨65, 90, 4, 1⟩ : S172) )) (Reps.c4 (show Kd.M k172 _ _ _ (⟨97, 122, 5, 1⟩ : S172) [.int .i64 97, .int .i64 122, .int .i64 5, .int .i64 1] from (zby _ _ _ (⟨97, 122, 5, 1⟩ : S172) )) (Reps.c4 (show Kd.M k172 _ _ _ (⟨33, 126, 9, 0⟩ : S172) [.int .i64 33, .int .i64 126, .int .i64 9, .int .i64 0] from (zby _ _ _ (⟨33, 126, 9, 0⟩ : S172) )) (Reps.c4 (show Kd.M k172 _ _ _ (⟨127, 159, 1, 0⟩ : S172) [.int .i64 127, .int .i64 159, .int .i64 1, .int .i64 0] from (zby _ _ _ (⟨127, 159, 1, 0⟩ : S172) )) (Reps.c4 (show Kd.M k172 _ _ _ (⟨160, 160, 2, 0⟩ : S172) [.int .i64 160, .int .i64 160, .int .i64 2, .int .i64 0] from (zby _ _ _ (⟨160, 160, 2, 0⟩ : S172) )) (Reps.c4 (show Kd.M k172 _ _ _ (⟨173, 173, 11, 0⟩ : S172) [.int .i64 173, .int .i64 173, .int .i64 11, .int .i64 0] from (zby _ _ _ (⟨173, 173, 11, 0⟩ : S172) )) (Reps.c4 (show Kd.M k172 _ _ _ (⟨161, 191, 10, 0⟩ : S172) [.int .i64 161, .int .i64 191, .int .i64 10, .int .i64 0] from (zby _ _ _ (⟨161, 191, 10, 0⟩ : S172) )) (Reps.c4 (show Kd.M k172 _ _ _ (⟨1280, 1311, 7, 5⟩ : S172) [.int .i64 1280, .int .i64 1311, .int .i64 7, .int .i64 5] from (zby _ _ _ (⟨1280, 1311, 7, 5⟩ : S172) )) (Reps.c4 (show Kd.M k172 _ _ _ (⟨1360, 1369, 8, 5⟩ : S172) [.int .i64 1360, .int .i64 1369, .int .i64 8, .int .i64 5] from (zby _ _ _ (⟨1360, 1369, 8, 5⟩ : S172) )) (Reps.c4 (show Kd.M k172 _ _ _ (⟨1536, 1567, 7, 6⟩ : S172) [.int .i64 1536, .int .i64 1567, .int .i64 7, .int .i64 6] from (zby _ _ _ (⟨1536, 1567, 7, 6⟩ : S172) )) (Reps.c4 (show Kd.M k172 _ _ _ (⟨1568, 1579, 3, 6⟩ : S172) [.int .i64 1568, .int .i64 1579, .int .i64 3, .int .i64 6] from (zby _ _ _ (⟨1568, 1579, 3, 6⟩ : S172) )) (Reps.c4 (show Kd.M k172 _ _ _ (⟨1584, 1585, 3, 6⟩ : S172) [.int .i64 1584, .int .i64 1585, .int .i64 3, .int .i64 6] from (zby _ _ _ (⟨1584, 1585, 3, 6⟩ : S172) )) (Reps.c4 (show Kd.M k172 _ _ _ (⟨1616, 1625, 8, 6⟩ : S172) [.int .i64 1616, .int .i64 1625, .int .i64 8, .int .i64 6] from (zby _ _ _ (⟨1616, 1625, 8, 6⟩ : S172) )) (Reps.c4 (show Kd.M k172 _ _ _ (⟨1792, 1810, 7, 7⟩ : S172) [.int .i64 1792, .int .i64 1810, .int .i64 7, .int .i64 7] from (zby _ _ _ (⟨1792, 1810, 7, 7⟩ : S172) )) (Reps.c4 (show Kd.M k172 _ _ _ (⟨1824, 1844, 7, 7⟩ : S172) [.int .i64 1824, .int .i64 1844, .int .i64 7, .int .i64 7] from (zby _ _ _ (⟨1824, 1844, 7, 7⟩ : S172) )) (Reps.c4 (show Kd.M k172 _ _ _ (⟨1857, 1883, 7, 7⟩ : S172) [.int .i64 1857, .int .i64 1883, .int .i64 7, .int .i64 7] from (zby _ _ _ (⟨1857, 1883, 7, 7⟩ : S172) )) (Reps.c4 (show Kd.M k172 _ _ _ (⟨2048, 2095, 7, 8⟩ : S172) [.int .i64 2048, .int .i64 2095, .int .i64 7, .int .i64 8] from (zby _ _ _ (⟨2048, 2095, 7, 8⟩ : S172) )) (Reps.c4 (show Kd.M k172 _ _ _ (⟨4096, 4159, 3, 0⟩ : S172) [.int .i64 4096, .int .i64 4159, .int .i64 3, .int .i64 0] from (zby _ _ _ (⟨4096, 4159, 3, 0⟩ : S172) )) (Reps.c4 (show Kd.M k172 _ _ _ (⟨7680, 7748, 10, 0⟩ : S172) [.int .i64 7680, .int .i64 7748, .int .i64 10, .int .i64 0] from (zby _ _ _ (⟨7680, 7748, 10, 0⟩ : S172) )) (Reps.c4 (show Kd.M k172 _ _ _ (⟨7760, 7785, 10, 0⟩ : S172) [.int .i64 7760, .int .i64 7785, .int .i64 10, .int .i64 0] from (zby _ _ _ (⟨7760, 7785, 10, 0⟩ : S172) )) (Reps.c4 (show Kd.M k172 _ _ _ (⟨7936, 7947, 11, 0⟩ : S172) [.int .i64 7936, .int .i64 7947, .int .i64 11, .int .i64 0] from (zby _ _ _ (⟨7936, 7947, 11, 0⟩ : S172) )) (Reps.c4 (show Kd.M k172 _ _ _ (⟨7953, 7954, 11, 0⟩ : S172) [.int .i64 7953, .int .i64 7954, .int .i64 11, .int .i64 0] from (zby _ _ _ (⟨7953, 7954, 11, 0⟩ : S172) )) (Reps.c4 (show Kd.M k172 _ _ _ (⟨8064, 8064, 2, 0⟩ : S172) [.int .i64 8064, .int .i64 8064, .int .i64 2, .int .i64 0] from (zby _ _ _ (⟨8064, 8064, 2, 0⟩ : S172) )) (Reps.c4 (show Kd.M k172 _ _ _ (⟨9728, 9753, 4, 1⟩ : S172) [.int .i64 9728, .int .i64 9753, .int .i64 4, .int .i64 1] from (zby _ _ _ (⟨9728, 9753, 4, 1⟩ : S172) )) (Reps.c4 (show Kd.M k172 _ _ _ (⟨9984, 10009, 10, 0⟩ : S172) [.int .i64 9984, .int .i64 10009, .int .i64 10, .int .i64 0] from (zby _ _ _ (⟨9984, 10009, 10, 0⟩ : S172) )) (Reps.c4 (show Kd.M k172 _ _ _ (⟨10016, 10025, 8, 0⟩ : S172) [.int .i64 10016, .int .i64 10025, .int .i64 8, .int .i64 0] from (zby _ _ _ (⟨10016, 10025, 8, 0⟩ : S172) )) (Reps.c4 (show Kd.M k172 _ _ _ (⟨10032, 10035, 10, 0⟩ : S172) [.int .i64 10032, .int .i64 10035, .int .i64 10, .int .i64 0] from (zby _ _ _ (⟨10032, 10035, 10, 0⟩ : S172) )) (Reps.c4 (show Kd.M k172 _ _ _ (⟨12288, 23459, 7, 7⟩ : S172) [.int .i64 12288, .int .i64 23459, .int .i64 7, .int .i64 7] from (zby _ _ _ (⟨12288, 23459, 7, 7⟩ : S172) )) (Reps.c4 (show Kd.M k172 _ _ _ (⟨24576, 26623, 7, 9⟩ : S172) [.int .i64 24576, .int .i64 26623, .int .i64 7, .int .i64 9] from (zby _ _ _ (⟨24576, 26623, 7, 9⟩ : S172) )) (Reps.none _ _)))))))))))))))))))))))))))))))))); intro v105 w1 ho2 hb hg_ hnew_; clear hg_ hnew_; (first | rw [← Ny104.out] at ho2 | (simp only [Int.reduceToNat] at ho2; rw [← Ny104.out] at ho2)); have n0_ := zab.mk (Kd.zbx ho2 (zaC (by repeat (first | (with_reducible first | exact HB.out | apply zac | apply zaa | apply zad) | exact HB.out)))); have n1_ := zab.mk (zaw (by repeat (first | (with_reducible first | exact HB.out | apply zac | apply zaa | apply zad) | exact HB.out)) hb); clear HB; have HO106 := n0_; have HB := n1_; clear n0_ n1_ hb ho2))
 go_ret
 exact ⟨_, by first | rfl | (simp [zam, zal] <;> rfl) | (simp [*, zam, zal] <;> rfl), by (with_reducible repeat (first | apply Kd.zao | apply Kd.zan | apply Kd.zav)); exact HO106.out, by repeat (first | (with_reducible first | exact HB.out | apply zac | apply zaa | apply zad) | exact HB.out)⟩
mutual
def zaH.j0 : Nat → Int → Bool → Option (Int × Int)
 | 0, _, _ => none
 | k + 1, x0, x14 => if x14 = true then ((spec_l01Cased.f).bind fun t107 => (zaH.l0 k x0 t107 0)) else (if x0 ≥ 8192 then (zaH.j2 k x0 (decide (x0 < 9728))) else (zaH.j2 k x0 false))
def zaH.l0 : Nat → Int → List (S172) → Int → Option (Int × Int)
 | 0, _, _, _ => none
 | k + 1, x0, x4, x5 => if x5 < (x4.length : Int) then (if 0 ≤ x5 then (if (Int.tmod x0 256) ≥ ((rd_T172 x4 x5).f0) then (if (Int.tmod x0 256) ≤ ((rd_T172 x4 x5).f1) then (some ((rd_T172 x4 x5).f2, wrap64 (Int.tdiv x0 256))) else (zaH.l0 k x0 x4 (wrap64 (x5 + 1)))) else (zaH.l0 k x0 x4 (wrap64 (x5 + 1)))) else (none)) else (some (0, 0))
def zaH.j2 : Nat → Int → Bool → Option (Int × Int)
 | 0, _, _ => none
 | k + 1, x0, x52 => if x52 = true then (if (Int.tmod x0 512) ≥ 416 then (some (0, 0)) else (if (Int.tmod x0 512) < 208 then (some (4, 1)) else (some (5, 1)))) else ((spec_l01Rows.f).bind fun t113 => (zaH.l1 k x0 t113 0))
def zaH.l1 : Nat → Int → List (S172) → Int → Option (Int × Int)
 | 0, _, _, _ => none
 | k + 1, x0, x7, x8 => if x8 < (x7.length : Int) then (if 0 ≤ x8 then (if x0 ≥ ((rd_T172 x7 x8).f0) then (if x0 ≤ ((rd_T172 x7 x8).f1) then (some ((rd_T172 x7 x8).f2, (rd_T172 x7 x8).f3)) else (zaH.l1 k x0 x7 (wrap64 (x8 + 1)))) else (zaH.l1 k x0 x7 (wrap64 (x8 + 1)))) else (none)) else (some (0, 0))
end
def zaH.f (k : Nat) (a0 : Int) : Option (Int × Int) := if a0 ≥ 512 then (zaH.j0 k a0 (decide (a0 < 1280))) else (zaH.j0 k a0 false)
set_option maxHeartbeats 8000000 in
set_option maxRecDepth 100000 in
theorem zaH.calls (k : Nat) (a0 : Int) (r1 : Int) (r2 : Int) (w : World) (h : zaH.f k a0 = some (r1, r2)) :
  Calls Tryd.prog 139 #[.int .i64 a0] w fun e w' => e = .returned (.tuple #[.int .i64 r1, .int .i64 r2]) ∧ Below w.heap.size w w' := by
 have HB := zab.mk (Below.refl w.heap.size w)
 have H : (if a0 ≥ 512 then (zaH.j0 k a0 (decide (a0 < 1280))) else (zaH.j0 k a0 false)) = some (r1, r2) := h
 clear h; have HC2 := zab.mk H; clear H
 go_enter Tryd.func139, Tryd.ntmps139
 go_upto_region 1 with (fail)
 repeat (go_quiet (fail); go_upto_region 1 with (fail))
 go_cut [14] (fun v14 wc => ∃ (kq : Nat) (x14_1 : Bool), v14 = .bool x14_1 ∧ zab (zaH.j0 kq a0 x14_1 = some (r1, r2)) ∧ zab (kq ≤ k) ∧ zab (Below w.heap.size w wc))
 case first =>
  have H := HC2.out; clear HC2
  by_cases c3 : a0 ≥ 512
  ·rw [if_pos c3] at H
   have c3b0 : decide (512 ≤ a0) = true := decide_eq_true c3
   clear c3
   (first | rw [c3b0] | rw [c3b1] | (simp only [zbo, i32_w]; rw [c3b0]) | skip)
   have H' := zab.mk H; clear H
   go_wp2
   repeat (go_quiet (fail); try go_wp2)
   go_meet
   case rel => exact ⟨_, (decide (a0 < 1280)), (by first | rfl | (simp; done) | (simp [*]; done)), H', ⟨by first | omega | exact Nat.le_refl _⟩, ⟨by repeat (first | (with_reducible first | exact HB.out | apply zac | apply zaa | apply zad) | exact HB.out)⟩⟩
  rw [if_neg c3] at H
  have c3b0 : decide (512 ≤ a0) = false := decide_eq_false c3
  clear c3
  (first | rw [c3b0] | rw [c3b1] | (simp only [zbo, i32_w]; rw [c3b0]) | skip)
  have H' := zab.mk H; clear H
  go_wp2
  repeat (go_quiet (fail); try go_wp2)
  go_meet
  case rel => exact ⟨_, (false), (by first | rfl | (simp; done) | (simp [*]; done)), H', ⟨by first | omega | exact Nat.le_refl _⟩, ⟨by repeat (first | (with_reducible first | exact HB.out | apply zac | apply zaa | apply zad) | exact HB.out)⟩⟩
 case rest =>
  clear HC2
  obtain ⟨kq, x14_1, rfl, HA, HJ1, HB⟩ := hcut
  cases kq with
  | zero => exact absurd HA.out (by simp [zaH.j0])
  | succ kj1 =>
   have H := HA.out; clear HA
   simp only [zaH.j0] at H
   by_cases c4 : x14_1 = true
   ·subst c4
    replace H : ((spec_l01Cased.f).bind fun t107 => (zaH.l0 kj1 a0 t107 0)) = some (r1, r2) := by rw [if_pos rfl] at H; exact H
    replace H := Option.bind_eq_some_iff.mp H
    obtain ⟨t107, A50, H⟩ := H
    replace H : (zaH.l0 kj1 a0 t107 0) = some (r1, r2) := H
    have A5 := zab.mk A50; clear A50; have H' := zab.mk H; clear H
    go_wp2_with (first | (go_at_call 181; (with_reducible refine (spec_l01Cased.calls  t107 _ A5.out).mono ?_); rintro e w6 ⟨v108, rfl, ho0, hb⟩; have n0_ := zab.mk (Kd.zbx ho0 (zaC (by repeat (first | (with_reducible first | exact HB.out | apply zac | apply zaa | apply zad) | exact HB.out)))); have n1_ := zab.mk (zaw (by repeat (first | (with_reducible first | exact HB.out | apply zac | apply zaa | apply zad) | exact HB.out)) hb); clear HB; have HO109 := n0_; have HB := n1_; clear n0_ n1_; (try clear hb); (try clear hb2); (try clear hk); (try clear hi); (try clear ho0)))
    repeat (go_quiet (first | (go_at_call 181; (with_reducible refine (spec_l01Cased.calls  t107 _ A5.out).mono ?_); rintro e w6 ⟨v108, rfl, ho0, hb⟩; have n0_ := zab.mk (Kd.zbx ho0 (zaC (by repeat (first | (with_reducible first | exact HB.out | apply zac | apply zaa | apply zad) | exact HB.out)))); have n1_ := zab.mk (zaw (by repeat (first | (with_reducible first | exact HB.out | apply zac | apply zaa | apply zad) | exact HB.out)) hb); clear HB; have HO109 := n0_; have HB := n1_; clear n0_ n1_; (try clear hb); (try clear hb2); (try clear hk); (try clear hi); (try clear ho0))); try go_wp2_with (first | (go_at_call 181; (with_reducible refine (spec_l01Cased.calls  t107 _ A5.out).mono ?_); rintro e w6 ⟨v108, rfl, ho0, hb⟩; have n0_ := zab.mk (Kd.zbx ho0 (zaC (by repeat (first | (with_reducible first | exact HB.out | apply zac | apply zaa | apply zad) | exact HB.out)))); have n1_ := zab.mk (zaw (by repeat (first | (with_reducible first | exact HB.out | apply zac | apply zaa | apply zad) | exact HB.out)) hb); clear HB; have HO109 := n0_; have HB := n1_; clear n0_ n1_; (try clear hb); (try clear hb2); (try clear hk); (try clear hi); (try clear ho0))))
    go_loopg [5] kj1 (fun kq v5 w' => ∃ (x5_2 : Int), v5 = .int .i64 x5_2 ∧ zab (zaH.l0 kq a0 t107 x5_2 = some (r1, r2)) ∧ zab (kq ≤ kj1) ∧ zab (Kd.R k172 172 w' w.heap.size (fun _ => True) v108 t107) ∧ zab (Below w.heap.size w w'))
    case atStart => exact ⟨(0), (by first | rfl | (simp; done) | (simp [*]; done)), H', ⟨Nat.le_refl _⟩, ⟨by (with_reducible repeat (first | apply Kd.zao | apply Kd.zan | apply Kd.zav)); exact HO109.out⟩, ⟨by repeat (first | (with_reducible first | exact HB.out | apply zac | apply zaa | apply zad) | exact HB.out)⟩⟩
    case round =>
     clear H'
     try clear c4
     obtain ⟨x5_2, rfl, HA, HK2, HO_4, HB⟩ := hrel
     cases gk with
     | zero => exact absurd HA.out (by simp [zaH.l0])
     | succ k2 =>
      have H := HA.out; clear HA
      simp only [zaH.l0] at H
      by_cases c7 : x5_2 < (t107.length : Int)
      ·rw [if_pos c7] at H
       have c7b0 : decide (x5_2 < (t107.length : Int)) = true := decide_eq_true c7
       clear c7
       by_cases c8 : 0 ≤ x5_2
       ·rw [if_pos c8] at H
        have c8b0 : decide (0 ≤ x5_2) = true := decide_eq_true c8
        clear c8
        by_cases c9 : (Int.tmod a0 256) ≥ ((rd_T172 t107 x5_2).f0)
        ·rw [if_pos c9] at H
         have c9b0 : decide (((rd_T172 t107 x5_2).f0) ≤ (Int.tmod a0 256)) = true := decide_eq_true c9
         clear c9
         by_cases c10 : (Int.tmod a0 256) ≤ ((rd_T172 t107 x5_2).f1)
         ·rw [if_pos c10] at H
          have c10b0 : decide ((Int.tmod a0 256) ≤ ((rd_T172 t107 x5_2).f1)) = true := decide_eq_true c10
          clear c10
          simp only [Option.some.injEq, Prod.mk.injEq] at H
          obtain ⟨rfl, rfl⟩ := H
          obtain ⟨Ao11, co11, eo11⟩ := Kd.zbl HO_4.out
          subst eo11
          have p110 : 0 ≤ (x5_2 : Int) := of_decide_eq_true (by first | (with_reducible assumption) | assumption)
          have q110 : x5_2 < (t107.length : Int) := of_decide_eq_true (by first | (with_reducible assumption) | assumption)
          obtain ⟨ad110, e110, hx110_0, hx110_1, hx110_2, hx110_3⟩ := at_T172 (Kd.zaz HO_4.out).2.2 x5_2 p110 q110
          cases e110
          replace p110 := eq_true p110
          replace q110 := eq_true q110
          have p111 : 0 ≤ (x5_2 : Int) := of_decide_eq_true (by first | (with_reducible assumption) | assumption)
          have q111 : x5_2 < (t107.length : Int) := of_decide_eq_true (by first | (with_reducible assumption) | assumption)
          obtain ⟨ad111, e111, hx111_0, hx111_1, hx111_2, hx111_3⟩ := at_T172 (Kd.zaz HO_4.out).2.2 x5_2 p111 q111
          obtain rfl : ad110 = ad111 := (by injection e111)
          replace p111 := eq_true p111
          replace q111 := eq_true q111
          have p112 : 0 ≤ (x5_2 : Int) := of_decide_eq_true (by first | (with_reducible assumption) | assumption)
          have q112 : x5_2 < (t107.length : Int) := of_decide_eq_true (by first | (with_reducible assumption) | assumption)
          obtain ⟨ad112, e112, hx112_0, hx112_1, hx112_2, hx112_3⟩ := at_T172 (Kd.zaz HO_4.out).2.2 x5_2 p112 q112
          obtain rfl : ad110 = ad112 := (by injection e112)
          replace p112 := eq_true p112
          replace q112 := eq_true q112
          go_wp2
          repeat (go_quiet (fail); try go_wp2)
          go_ret2
          exact ⟨by first | rfl | (simp [zam, zal] <;> rfl) | (simp [*, zam, zal] <;> rfl), by repeat (first | (with_reducible first | exact HB.out | apply zac | apply zaa | apply zad) | exact HB.out)⟩
         rw [if_neg c10] at H
         have c10b0 : decide ((Int.tmod a0 256) ≤ ((rd_T172 t107 x5_2).f1)) = false := decide_eq_false c10
         clear c10; have H' := zab.mk H; clear H
         obtain ⟨Ao12, co12, eo12⟩ := Kd.zbl HO_4.out
         subst eo12
         have p110 : 0 ≤ (x5_2 : Int) := of_decide_eq_true (by first | (with_reducible assumption) | assumption)
         have q110 : x5_2 < (t107.length : Int) := of_decide_eq_true (by first | (with_reducible assumption) | assumption)
         obtain ⟨ad110, e110, hx110_0, hx110_1, hx110_2, hx110_3⟩ := at_T172 (Kd.zaz HO_4.out).2.2 x5_2 p110 q110
         cases e110
         replace p110 := eq_true p110
         replace q110 := eq_true q110
         have p111 : 0 ≤ (x5_2 : Int) := of_decide_eq_true (by first | (with_reducible assumption) | assumption)
         have q111 : x5_2 < (t107.length : Int) := of_decide_eq_true (by first | (with_reducible assumption) | assumption)
         obtain ⟨ad111, e111, hx111_0, hx111_1, hx111_2, hx111_3⟩ := at_T172 (Kd.zaz HO_4.out).2.2 x5_2 p111 q111
         obtain rfl : ad110 = ad111 := (by injection e111)
         replace p111 := eq_true p111
         replace q111 := eq_true q111
         go_wp2
         repeat (go_quiet (fail); try go_wp2)
         go_roundg k2
         case measure => have := HJ1.out; have := HK2.out; omega
         case rel => exact ⟨(wrap64 (x5_2 + 1)), (by first | rfl | (simp; done) | (simp [*]; done)), H', ⟨by have := HJ1.out; have := HK2.out; omega⟩, ⟨by (with_reducible repeat (first | apply Kd.zao | apply Kd.zan | apply Kd.zav)); exact HO_4.out⟩, ⟨by repeat (first | (with_reducible first | exact HB.out | apply zac | apply zaa | apply zad) | exact HB.out)⟩⟩
        rw [if_neg c9] at H
        have c9b0 : decide (((rd_T172 t107 x5_2).f0) ≤ (Int.tmod a0 256)) = false := decide_eq_false c9
        clear c9; have H' := zab.mk H; clear H
        obtain ⟨Ao13, co13, eo13⟩ := Kd.zbl HO_4.out
        subst eo13
        have p110 : 0 ≤ (x5_2 : Int) := of_decide_eq_true (by first | (with_reducible assumption) | assumption)
        have q110 : x5_2 < (t107.length : Int) := of_decide_eq_true (by first | (with_reducible assumption) | assumption)
        obtain ⟨ad110, e110, hx110_0, hx110_1, hx110_2, hx110_3⟩ := at_T172 (Kd.zaz HO_4.out).2.2 x5_2 p110 q110
        cases e110
        replace p110 := eq_true p110
        replace q110 := eq_true q110
        go_wp2
        repeat (go_quiet (fail); try go_wp2)
        go_roundg k2
        case measure => have := HJ1.out; have := HK2.out; omega
        case rel => exact ⟨(wrap64 (x5_2 + 1)), (by first | rfl | (simp; done) | (simp [*]; done)), H', ⟨by have := HJ1.out; have := HK2.out; omega⟩, ⟨by (with_reducible repeat (first | apply Kd.zao | apply Kd.zan | apply Kd.zav)); exact HO_4.out⟩, ⟨by repeat (first | (with_reducible first | exact HB.out | apply zac | apply zaa | apply zad) | exact HB.out)⟩⟩
       rw [if_neg c8] at H
       exact absurd H (by simp)
      rw [if_neg c7] at H
      have c7b0 : decide (x5_2 < (t107.length : Int)) = false := decide_eq_false c7
      clear c7
      simp only [Option.some.injEq, Prod.mk.injEq] at H
      obtain ⟨rfl, rfl⟩ := H
      obtain ⟨Ao14, co14, eo14⟩ := Kd.zbl HO_4.out
      subst eo14
      go_wp2
      repeat (go_quiet (fail); try go_wp2)
      go_ret2
      exact ⟨by first | rfl | (simp [zam, zal] <;> rfl) | (simp [*, zam, zal] <;> rfl), by repeat (first | (with_reducible first | exact HB.out | apply zac | apply zaa | apply zad) | exact HB.out)⟩
   replace c4 := Bool.eq_false_iff.mpr c4
   subst c4
   replace H : (if a0 ≥ 8192 then (zaH.j2 kj1 a0 (decide (a0 < 9728))) else (zaH.j2 kj1 a0 false)) = some (r1, r2) := by rw [if_neg (show ¬ (false = true) by decide)] at H; exact H
   have HC15 := zab.mk H; clear H
   go_upto_region 9 with (fail)
   repeat (go_quiet (fail); go_upto_region 9 with (fail))
   go_cut [52] (fun v52 wc => ∃ (kq : Nat) (x52_14 : Bool), v52 = .bool x52_14 ∧ zab (zaH.j2 kq a0 x52_14 = some (r1, r2)) ∧ zab (kq ≤ kj1) ∧ zab (Below w.heap.size w wc))
   case first =>
    have H := HC15.out; clear HC15
    by_cases c16 : a0 ≥ 8192
    ·rw [if_pos c16] at H
     have c16b0 : decide (8192 ≤ a0) = true := decide_eq_true c16
     clear c16
     (first | rw [c16b0] | rw [c16b1] | (simp only [zbo, i32_w]; rw [c16b0]) | skip)
     have H' := zab.mk H; clear H
     go_wp2
     repeat (go_quiet (fail); try go_wp2)
     go_meet
     case rel => exact ⟨_, (decide (a0 < 9728)), (by first | rfl | (simp; done) | (simp [*]; done)), H', ⟨by have := HJ1.out; first | omega | exact Nat.le_refl _⟩, ⟨by repeat (first | (with_reducible first | exact HB.out | apply zac | apply zaa | apply zad) | exact HB.out)⟩⟩
    rw [if_neg c16] at H
    have c16b0 : decide (8192 ≤ a0) = false := decide_eq_false c16
    clear c16
    (first | rw [c16b0] | rw [c16b1] | (simp only [zbo, i32_w]; rw [c16b0]) | skip)
    have H' := zab.mk H; clear H
    go_wp2
    repeat (go_quiet (fail); try go_wp2)
    go_meet
    case rel => exact ⟨_, (false), (by first | rfl | (simp; done) | (simp [*]; done)), H', ⟨by have := HJ1.out; first | omega | exact Nat.le_refl _⟩, ⟨by repeat (first | (with_reducible first | exact HB.out | apply zac | apply zaa | apply zad) | exact HB.out)⟩⟩
   case rest =>
    clear HC15
    try clear c4
    obtain ⟨kq, x52_14, rfl, HA, HJ14, HB⟩ := hcut
    cases kq with
    | zero => exact absurd HA.out (by simp [zaH.j2])
    | succ kj14 =>
     have H := HA.out; clear HA
     simp only [zaH.j2] at H
     by_cases c17 : x52_14 = true
     ·subst c17
      replace H : (if (Int.tmod a0 512) ≥ 416 then (some (0, 0)) else (if (Int.tmod a0 512) < 208 then (some (4, 1)) else (some (5, 1)))) = some (r1, r2) := by rw [if_pos rfl] at H; exact H
      by_cases c18 : (Int.tmod a0 512) ≥ 416
      ·rw [if_pos c18] at H
       have c18b0 : decide (416 ≤ (Int.tmod a0 512)) = true := decide_eq_true c18
       clear c18
       simp only [Option.some.injEq, Prod.mk.injEq] at H
       obtain ⟨rfl, rfl⟩ := H
       go_wp2
       repeat (go_quiet (fail); try go_wp2)
       go_ret2
       exact ⟨by first | rfl | (simp [zam, zal] <;> rfl) | (simp [*, zam, zal] <;> rfl), by repeat (first | (with_reducible first | exact HB.out | apply zac | apply zaa | apply zad) | exact HB.out)⟩
      rw [if_neg c18] at H
      have c18b0 : decide (416 ≤ (Int.tmod a0 512)) = false := decide_eq_false c18
      clear c18
      by_cases c19 : (Int.tmod a0 512) < 208
      ·rw [if_pos c19] at H
       have c19b0 : decide ((Int.tmod a0 512) < 208) = true := decide_eq_true c19
       clear c19
       simp only [Option.some.injEq, Prod.mk.injEq] at H
       obtain ⟨rfl, rfl⟩ := H
       go_wp2
       repeat (go_quiet (fail); try go_wp2)
       go_ret2
       exact ⟨by first | rfl | (simp [zam, zal] <;> rfl) | (simp [*, zam, zal] <;> rfl), by repeat (first | (with_reducible first | exact HB.out | apply zac | apply zaa | apply zad) | exact HB.out)⟩
      rw [if_neg c19] at H
      have c19b0 : decide ((Int.tmod a0 512) < 208) = false := decide_eq_false c19
      clear c19
      simp only [Option.some.injEq, Prod.mk.injEq] at H
      obtain ⟨rfl, rfl⟩ := H
      go_wp2
      repeat (go_quiet (fail); try go_wp2)
      go_ret2
      exact ⟨by first | rfl | (simp [zam, zal] <;> rfl) | (simp [*, zam, zal] <;> rfl), by repeat (first | (with_reducible first | exact HB.out | apply zac | apply zaa | apply zad) | exact HB.out)⟩
     replace c17 := Bool.eq_false_iff.mpr c17
     subst c17
     replace H : ((spec_l01Rows.f).bind fun t113 => (zaH.l1 kj14 a0 t113 0)) = some (r1, r2) := by rw [if_neg (show ¬ (false = true) by decide)] at H; exact H
     replace H := Option.bind_eq_some_iff.mp H
     obtain ⟨t113, A200, H⟩ := H
     replace H : (zaH.l1 kj14 a0 t113 0) = some (r1, r2) := H
     have A20 := zab.mk A200; clear A200; have H' := zab.mk H; clear H
     go_wp2_with (first | (go_at_call 182; (with_reducible refine (spec_l01Rows.calls  t113 _ A20.out).mono ?_); rintro e w21 ⟨v114, rfl, ho0, hb⟩; have n0_ := zab.mk (Kd.zbx ho0 (zaC (by repeat (first | (with_reducible first | exact HB.out | apply zac | apply zaa | apply zad) | exact HB.out)))); have n1_ := zab.mk (zaw (by repeat (first | (with_reducible first | exact HB.out | apply zac | apply zaa | apply zad) | exact HB.out)) hb); clear HB; have HO115 := n0_; have HB := n1_; clear n0_ n1_; (try clear hb); (try clear hb2); (try clear hk); (try clear hi); (try clear ho0)))
     repeat (go_quiet (first | (go_at_call 182; (with_reducible refine (spec_l01Rows.calls  t113 _ A20.out).mono ?_); rintro e w21 ⟨v114, rfl, ho0, hb⟩; have n0_ := zab.mk (Kd.zbx ho0 (zaC (by repeat (first | (with_reducible first | exact HB.out | apply zac | apply zaa | apply zad) | exact HB.out)))); have n1_ := zab.mk (zaw (by repeat (first | (with_reducible first | exact HB.out | apply zac | apply zaa | apply zad) | exact HB.out)) hb); clear HB; have HO115 := n0_; have HB := n1_; clear n0_ n1_; (try clear hb); (try clear hb2); (try clear hk); (try clear hi); (try clear ho0))); try go_wp2_with (first | (go_at_call 182; (with_reducible refine (spec_l01Rows.calls  t113 _ A20.out).mono ?_); rintro e w21 ⟨v114, rfl, ho0, hb⟩; have n0_ := zab.mk (Kd.zbx ho0 (zaC (by repeat (first | (with_reducible first | exact HB.out | apply zac | apply zaa | apply zad) | exact HB.out)))); have n1_ := zab.mk (zaw (by repeat (first | (with_reducible first | exact HB.out | apply zac | apply zaa | apply zad) | exact HB.out)) hb); clear HB; have HO115 := n0_; have HB := n1_; clear n0_ n1_; (try clear hb); (try clear hb2); (try clear hk); (try clear hi); (try clear ho0))))
     go_loopg [8] kj14 (fun kq v8 w' => ∃ (x8_3 : Int), v8 = .int .i64 x8_3 ∧ zab (zaH.l1 kq a0 t113 x8_3 = some (r1, r2)) ∧ zab (kq ≤ kj14) ∧ zab (Kd.R k172 172 w' w.heap.size (fun _ => True) v114 t113) ∧ zab (Below w.heap.size w w'))
     case atStart => exact ⟨(0), (by first | rfl | (simp; done) | (simp [*]; done)), H', ⟨Nat.le_refl _⟩, ⟨by (with_reducible repeat (first | apply Kd.zao | apply Kd.zan | apply Kd.zav)); exact HO115.out⟩, ⟨by repeat (first | (with_reducible first | exact HB.out | apply zac | apply zaa | apply zad) | exact HB.out)⟩⟩
     case round =>
      clear H'
      try clear c4
      try clear c17
      obtain ⟨x8_3, rfl, HA, HK3, HO_7, HB⟩ := hrel
      cases gk with
      | zero => exact absurd HA.out (by simp [zaH.l1])
      | succ k3 =>
       have H := HA.out; clear HA
       simp only [zaH.l1] at H
       by_cases c22 : x8_3 < (t113.length : Int)
       ·rw [if_pos c22] at H
        have c22b0 : decide (x8_3 < (t113.length : Int)) = true := decide_eq_true c22
        clear c22
        by_cases c23 : 0 ≤ x8_3
        ·rw [if_pos c23] at H
         have c23b0 : decide (0 ≤ x8_3) = true := decide_eq_true c23
         clear c23
         by_cases c24 : a0 ≥ ((rd_T172 t113 x8_3).f0)
         ·rw [if_pos c24] at H
          have c24b0 : decide (((rd_T172 t113 x8_3).f0) ≤ a0) = true := decide_eq_true c24
          clear c24
          by_cases c25 : a0 ≤ ((rd_T172 t113 x8_3).f1)
          ·rw [if_pos c25] at H
           have c25b0 : decide (a0 ≤ ((rd_T172 t113 x8_3).f1)) = true := decide_eq_true c25
           clear c25
           simp only [Option.some.injEq, Prod.mk.injEq] at H
           obtain ⟨rfl, rfl⟩ := H
           obtain ⟨Ao26, co26, eo26⟩ := Kd.zbl HO_7.out
           subst eo26
           have p116 : 0 ≤ (x8_3 : Int) := of_decide_eq_true (by first | (with_reducible assumption) | assumption)
           have q116 : x8_3 < (t113.length : Int) := of_decide_eq_true (by first | (with_reducible assumption) | assumption)
           obtain ⟨ad116, e116, hx116_0, hx116_1, hx116_2, hx116_3⟩ := at_T172 (Kd.zaz HO_7.out).2.2 x8_3 p116 q116
           cases e116
           replace p116 := eq_true p116
           replace q116 := eq_true q116
           have p117 : 0 ≤ (x8_3 : Int) := of_decide_eq_true (by first | (with_reducible assumption) | assumption)
           have q117 : x8_3 < (t113.length : Int) := of_decide_eq_true (by first | (with_reducible assumption) | assumption)
           obtain ⟨ad117, e117, hx117_0, hx117_1, hx117_2, hx117_3⟩ := at_T172 (Kd.zaz HO_7.out).2.2 x8_3 p117 q117
           obtain rfl : ad116 = ad117 := (by injection e117)
           replace p117 := eq_true p117
           replace q117 := eq_true q117
           have p118 : 0 ≤ (x8_3 : Int) := of_decide_eq_true (by first | (with_reducible assumption) | assumption)
           have q118 : x8_3 < (t113.length : Int) := of_decide_eq_true (by first | (with_reducible assumption) | assumption)
           obtain ⟨ad118, e118, hx118_0, hx118_1, hx118_2, hx118_3⟩ := at_T172 (Kd.zaz HO_7.out).2.2 x8_3 p118 q118
           obtain rfl : ad116 = ad118 := (by injection e118)
           replace p118 := eq_true p118
           replace q118 := eq_true q118
           have p119 : 0 ≤ (x8_3 : Int) := of_decide_eq_true (by first | (with_reducible assumption) | assumption)
           have q119 : x8_3 < (t113.length : Int) := of_decide_eq_true (by first | (with_reducible assumption) | assumption)
           obtain ⟨ad119, e119, hx119_0, hx119_1, hx119_2, hx119_3⟩ := at_T172 (Kd.zaz HO_7.out).2.2 x8_3 p119 q119
           obtain rfl : ad116 = ad119 := (by injection e119)
           replace p119 := eq_true p119
           replace q119 := eq_true q119
           go_wp2
           repeat (go_quiet (fail); try go_wp2)
           go_ret2
           exact ⟨by first | rfl | (simp [zam, zal] <;> rfl) | (simp [*, zam, zal] <;> rfl), by repeat (first | (with_reducible first | exact HB.out | apply zac | apply zaa | apply zad) | exact HB.out)⟩
          rw [if_neg c25] at H
          have c25b0 : decide (a0 ≤ ((rd_T172 t113 x8_3).f1)) = false := decide_eq_false c25
          clear c25; have H' := zab.mk H; clear H
          obtain ⟨Ao27, co27, eo27⟩ := Kd.zbl HO_7.out
          subst eo27
          have p116 : 0 ≤ (x8_3 : Int) := of_decide_eq_true (by first | (with_reducible assumption) | assumption)
          have q116 : x8_3 < (t113.length : Int) := of_decide_eq_true (by first | (with_reducible assumption) | assumption)
          obtain ⟨ad116, e116, hx116_0, hx116_1, hx116_2, hx116_3⟩ := at_T172 (Kd.zaz HO_7.out).2.2 x8_3 p116 q116
          cases e116
          replace p116 := eq_true p116
          replace q116 := eq_true q116
          have p117 : 0 ≤ (x8_3 : Int) := of_decide_eq_true (by first | (with_reducible assumption) | assumption)
          have q117 : x8_3 < (t113.length : Int) := of_decide_eq_true (by first | (with_reducible assumption) | assumption)
          obtain ⟨ad117, e117, hx117_0, hx117_1, hx117_2, hx117_3⟩ := at_T172 (Kd.zaz HO_7.out).2.2 x8_3 p117 q117
          obtain rfl : ad116 = ad117 := (by injection e117)
          replace p117 := eq_true p117
          replace q117 := eq_true q117
          go_wp2
          repeat (go_quiet (fail); try go_wp2)
          go_roundg k3
          case measure => have := HJ1.out; have := HJ14.out; have := HK3.out; omega
          case rel => exact ⟨(wrap64 (x8_3 + 1)), (by first | rfl | (simp; done) | (simp [*]; done)), H', ⟨by have := HJ1.out; have := HJ14.out; have := HK3.out; omega⟩, ⟨by (with_reducible repeat (first | apply Kd.zao | apply Kd.zan | apply Kd.zav)); exact HO_7.out⟩, ⟨by repeat (first | (with_reducible first | exact HB.out | apply zac | apply zaa | apply zad) | exact HB.out)⟩⟩
         rw [if_neg c24] at H
         have c24b0 : decide (((rd_T172 t113 x8_3).f0) ≤ a0) = false := decide_eq_false c24
         clear c24; have H' := zab.mk H; clear H
         obtain ⟨Ao28, co28, eo28⟩ := Kd.zbl HO_7.out
         subst eo28
         have p116 : 0 ≤ (x8_3 : Int) := of_decide_eq_true (by first | (with_reducible assumption) | assumption)
         have q116 : x8_3 < (t113.length : Int) := of_decide_eq_true (by first | (with_reducible assumption) | assumption)
         obtain ⟨ad116, e116, hx116_0, hx116_1, hx116_2, hx116_3⟩ := at_T172 (Kd.zaz HO_7.out).2.2 x8_3 p116 q116
         cases e116
         replace p116 := eq_true p116
         replace q116 := eq_true q116
         go_wp2
         repeat (go_quiet (fail); try go_wp2)
         go_roundg k3
         case measure => have := HJ1.out; have := HJ14.out; have := HK3.out; omega
         case rel => exact ⟨(wrap64 (x8_3 + 1)), (by first | rfl | (simp; done) | (simp [*]; done)), H', ⟨by have := HJ1.out; have := HJ14.out; have := HK3.out; omega⟩, ⟨by (with_reducible repeat (first | apply Kd.zao | apply Kd.zan | apply Kd.zav)); exact HO_7.out⟩, ⟨by repeat (first | (with_reducible first | exact HB.out | apply zac | apply zaa | apply zad) | exact HB.out)⟩⟩
        rw [if_neg c23] at H
        exact absurd H (by simp)
       rw [if_neg c22] at H
       have c22b0 : decide (x8_3 < (t113.length : Int)) = false := decide_eq_false c22
       clear c22
       simp only [Option.some.injEq, Prod.mk.injEq] at H
       obtain ⟨rfl, rfl⟩ := H
       obtain ⟨Ao29, co29, eo29⟩ := Kd.zbl HO_7.out
       subst eo29
       go_wp2
       repeat (go_quiet (fail); try go_wp2)
       go_ret2
       exact ⟨by first | rfl | (simp [zam, zal] <;> rfl) | (simp [*, zam, zal] <;> rfl), by repeat (first | (with_reducible first | exact HB.out | apply zac | apply zaa | apply zad) | exact HB.out)⟩
def zbn.f (k : Nat) (a0 : Int) : Option (Int) := (zaH.f k a0).bind fun bt120 => (some bt120.1)
set_option maxHeartbeats 8000000 in
set_option maxRecDepth 100000 in
theorem zbn.calls (k : Nat) (a0 : Int) (r : Int) (w : World) (h : zbn.f k a0 = some r) :
  Calls Tryd.prog 105 #[.int .i64 a0] w fun e w' => e = .returned (.int .i64 r) ∧ Below w.heap.size w w' := by
 have HB := zab.mk (Below.refl w.heap.size w)
 have H : ((zaH.f k a0).bind fun bt120 => (some bt120.1)) = some r := h
 clear h; replace H := Option.bind_eq_some_iff.mp H
 obtain ⟨⟨t120, t121⟩, A20, H⟩ := H
 replace H : (some t120) = some r := H
 have A2 := zab.mk A20; clear A20; obtain rfl := Option.some.inj H
 go_enter Tryd.func105, Tryd.ntmps105
 go_wp2_with (first | ((with_reducible refine zae (f := 139) rfl ?_); refine zaB (some 7) rfl rfl Tryd.func139 (by kernel_rfl) rfl #[.int .i64 a0] rfl (by (try simp only [List.map_toArray, List.map_cons, List.map_nil]); first | done | rfl | (simp only [List.length_drop, List.length_take]; rfl)) ?_; (with_reducible refine (zaH.calls k a0 t120 t121 _ A2.out).mono ?_); rintro e w3 ⟨rfl, hb⟩; refine ⟨_, rfl, ?_⟩; have n0_ := zab.mk (zaw (by repeat (first | (with_reducible first | exact HB.out | apply zac | apply zaa | apply zad) | exact HB.out)) hb); clear HB; have HB := n0_; clear n0_; (try clear hb); (try clear hb2); (try clear hk); (try clear hi)))
 go_ret
 exact ⟨by first | rfl | (simp [zam, zal] <;> rfl) | (simp [*, zam, zal] <;> rfl), by repeat (first | (with_reducible first | exact HB.out | apply zac | apply zaa | apply zad) | exact HB.out)⟩
end Go.Proofs.YtbppeepihlajoaaDoor.P
