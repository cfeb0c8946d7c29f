/- spec.LocalesFault, walked. -/
import Derived.Test.YtfafjbolmeimmaaGreatDoorF16
import Derived.Test.YtfafjbolmeimmaaGreatDoorF20
import Derived.Laws.Cover1
import Derived.Deep.CutBlock
namespace Go.Proofs.YtfafjbolmeimmaaGreatDoor.P
open Go.RowKit Go.Proofs.YtfafjbolmeimmaaGreatDoorW.PrintWords Go.Proofs.YtfafjbolmeimmaaGreatDoorW.PrintLast Go.Proofs.YtfafjbolmeimmaaGreatDoorW.PrintMore
set_option linter.unusedVariables false
set_option linter.unusedSimpArgs false
def lss_T : Bool × List (List Nat × List Nat) := (true, [([], []), ([], []), ([0, 1], [0, 1]), ([2], [2]), ([3], [3]), ([4], [4]), ([5, 4], [5]), ([6], [6]), ([7, 6], [6, 7]), ([8, 6, 6], [6, 8]), ([9], [9]), ([9], [9]), ([11, 9], [9, 11]), ([10, 12, 9], [9, 10, 12]), ([13, 9], [9, 13]), ([14, 9], [9, 14]), ([9], [9]), ([9], [9]), ([16, 17, 9], [9, 16, 17]), ([18, 9], [9, 18]), ([19, 9], [9, 19]), ([15, 20, 9], [9, 15, 20]), ([9, 21, 6], [6, 9, 21]), ([6, 22], [6, 22])])
def lss_B : List Nat := [0, 0, 3, 7, 15, 31, 63, 127, 255, 511, 1023, 1023, 3071, 8191, 16383, 32767, 1023, 1023, 197631, 459775, 984063, 2097151, 4194303, 8388607]
theorem lss_tab : rtab .any (opsOf Tryz.f14 6) = lss_T := by kernel_rfl
theorem lss_bits : waitsOk lss_T.2 lss_B = true := by kernel_rfl
def zbs.f (l0 : List S31) : Option Int := if lsS l0 = true then some (lsV l0) else none
set_option maxHeartbeats 8000000 in
set_option maxRecDepth 1000000 in
theorem zbs.calls (A0 : Option Addr) (c0 : Nat) (l0 : List S31) (r : Int) (w : World) (hr0 : Kd.C k31 w A0 l0.length l0) (hc0 : l0.length ≤ c0) (h : zbs.f l0 = some r) :
  Calls Tryz.prog 14 #[.slice A0 l0.length c0] w fun e w' => e = .returned (.int .i64 r) ∧ Below w.heap.size w w' := by
 unfold zbs.f at h
 split at h
 case isFalse => cases h
 rename_i hS0
 obtain rfl := Option.some.inj h
 clear h
 have HB := zaa.mk (Below.refl w.heap.size w)
 by_cases c50 : (l0.length : Int) > 50
 ·have HV := zaa.mk (lsV_long c50)
  have g0 : (50 < (l0.length : Int)) = True := eq_true c50
  clear c50 hr0 hS0
  go_enter Tryz.func14, Tryz.ntmps14
  go_wp2
  go_ret
  exact ⟨by rw [HV.out]; rfl, (by repeat (first | exact HB.out | apply zae | apply zab | apply zad))⟩
 have g0 : (50 < (l0.length : Int)) = False := eq_false c50
 have H5 := zaa.mk c50; have HS := zaa.mk hS0; have HR := zaa.mk hr0; have HC := zaa.mk hc0
 have HN := zaa.mk (lsS_len hS0)
 clear c50 hS0 hr0 hc0
 go_enter Tryz.func14, Tryz.ntmps14
 go_wp2
 go_loopg [3] (l0.length + 1) (fun gk v3 wr => ∃ (x : Int) (i : Nat), v3 = .int .i64 x ∧ zaa (x = (i : Int)) ∧ zaa (i ≤ l0.length ∧ l0.length + 1 ≤ gk + i ∧ ∀ j, j < i → lsBad l0 j = false) ∧ zaa (Below w.heap.size w wr))
 case atStart => exact ⟨0, 0, rfl, ⟨rfl⟩, ⟨Nat.zero_le _, Nat.le_refl _, fun j hj => absurd hj (Nat.not_lt_zero _)⟩, ⟨(by repeat (first | exact HB.out | apply zae | apply zab | apply zad))⟩⟩
 case round =>
  clear HB g0
  obtain ⟨x, i, rfl, HXI, HI, HB⟩ := hrel
  cases gk with
  | zero => exact absurd HI.out.2.1 (by have := HI.out.1; omega)
  | succ k1 =>
   by_cases hlt : i < l0.length
   case neg =>
    have HV := zaa.mk (lsV_good (by have := H5.out; omega) (fun j hj => HI.out.2.2 j (by omega)))
    have g1 : decide (x < (l0.length : Int)) = false := decide_eq_false (by have := HXI.out; omega)
    clear hlt
    go_wp2
    go_ret
    exact ⟨by rw [HV.out]; rfl, (by repeat (first | exact HB.out | apply zae | apply zab | apply zad))⟩
   have g1 : decide (x < (l0.length : Int)) = true := decide_eq_true (by have := HXI.out; omega)
   have g2 : (0 ≤ x) = True := eq_true (by have := HXI.out; omega)
   have g3 : (x < (l0.length : Int)) = True := eq_true (by have := HXI.out; omega)
   have HL := zaa.mk hlt
   obtain ⟨ad, A5, c5, A7, c7, A12, c12, A13, c13, e, hw⟩ := row_at HR.out x (by have := HXI.out; omega) (by have := HXI.out; omega)
   have HY := zaa.mk (smL_at HS.out hlt)
   have HY' : zaa (smLB (zao l0 x) = true) := ⟨by rw [HXI.out]; exact HY.out⟩
   clear HY
   have HY := HY'
   clear HY'
   obtain ⟨y, hy⟩ : ∃ y, zao l0 x = y := ⟨_, rfl⟩
   have HX : zaa (lsBad l0 i = (!okLB y || (decide (0 < i) && !Op.bytesLess (zao l0 ((i - 1 : Nat) : Int)).f0.toList y.f0.toList))) := ⟨by rw [← hy, HXI.out]; rfl⟩
   rw [hy] at hw HY
   have RW := zaa.mk hw
   cases e
   clear hw hy hlt
   have CL : zaa (∀ w1, Below w.heap.size w w1 → Calls Tryz.prog 9 #[.agg #[.string y.f0, .string y.f1, .string y.f2, .string y.f3, .string y.f4, .slice A5 y.f5.length c5, .int .i64 y.f6, .slice A7 y.f7.length c7, .string y.f8, .string y.f9, .string y.f10, .string y.f11, .slice A12 y.f12.length c12, .slice A13 y.f13.length c13, .string y.f14]] w1 fun e w' => e = .returned (.int .i64 (if okLB y = true then 0 else 1)) ∧ Below w1.heap.size w1 w') := ⟨fun w1 hb => zaF.calls y.f0 y.f1 y.f2 y.f3 y.f4 A5 c5 y.f5 y.f6 A7 c7 y.f7 y.f8 y.f9 y.f10 y.f11 A12 c12 y.f12 A13 c13 y.f13 y.f14 _ w1 (RW.out.step hb).r5 RW.out.s5 (RW.out.step hb).r7 RW.out.s7 (RW.out.step hb).r12 RW.out.s12 (RW.out.step hb).r13 RW.out.s13 (if_pos HY.out)⟩
   obtain ⟨r0, hr0⟩ : ∃ r0 : Int, (if okLB y = true then 0 else 1) = r0 := ⟨_, rfl⟩
   rw [hr0] at CL
   cases hk : okLB y
   have HV := zaa.mk (lsV_bad HL.out (show lsBad l0 i = true by rw [HX.out, hk]; rfl))
   obtain rfl : r0 = 1 := by rw [← hr0, hk]; rfl
   clear hr0 hk
   rotate_left
   obtain rfl : r0 = 0 := by rw [← hr0, hk]; rfl
   clear hr0
   by_cases hi : i = 0
   have HO := zaa.mk (show lsBad l0 i = false by rw [HX.out, hk, hi]; rfl)
   have g4 : decide (0 < x) = false := decide_eq_false (by have := HXI.out; omega)
   have g5 : (0 < x) = False := eq_false (by have := HXI.out; omega)
   clear hk hi
   rotate_left
   obtain ⟨x1, hx1⟩ : ∃ x1 : Int, x1 = x - 1 := ⟨_, rfl⟩
   have e1 : IntKind.i64.wrap (x - 1) = x1 := by rw [zaH, w64 (by have := HXI.out; have := HL.out; have := HN.out; omega) (by have := HXI.out; have := HL.out; have := HN.out; omega), hx1]
   have ei : x1 = ((i - 1 : Nat) : Int) := by have := HXI.out; omega
   have g4 : decide (0 < x) = true := decide_eq_true (by have := HXI.out; omega)
   have g5 : (0 < x) = True := eq_true (by have := HXI.out; omega)
   have g6 : (0 ≤ x1) = True := eq_true (by omega)
   have g7 : (x1 < (l0.length : Int)) = True := eq_true (by have := HL.out; omega)
   obtain ⟨ad2, B5, d5, B7, d7, B12, d12, B13, d13, e2, hw2⟩ := row_at HR.out x1 (by omega) (by have := HL.out; omega)
   cases e2
   obtain ⟨z, hz⟩ : ∃ z, zao l0 x1 = z := ⟨_, rfl⟩
   rw [hz] at hw2
   have PW := zaa.mk hw2.x0
   rw [← ei, hz, hk] at HX
   have h9 : decide (0 < i) = true := decide_eq_true (by omega)
   clear hw2 hz ei hx1 hk hi
   cases hb0 : Op.bytesLess z.f0.toList y.f0.toList
   have HV := zaa.mk (lsV_bad HL.out (show lsBad l0 i = true by rw [HX.out, hb0, h9]; rfl))
   clear h9
   rotate_left
   have HO := zaa.mk (show lsBad l0 i = false by rw [HX.out, hb0]; simp)
   clear h9
   all_goals (go_upto_region 6 with (fail))
   all_goals
    refine sn_ (n := 24) (S := fun w' => Below w.heap.size w w') (by kernel_rfl) rfl (by rfl) (zad HB.out) (fun hHeld => ?_)
    refine zbp lss_tab lss_bits (fun HT_ HW_ => ?_)
    generalize wr.drew = w3 at hHeld ⊢
    repeat (first | (refine pn_ 13 (v := ?_) (a' := ?_) rfl rfl HT_ (by kernel_rfl) (fun _ _ _ h => h) (Or.inl ⟨by rfl, ?_⟩) ?_ ?_; rotate_left; (intro w'; go_simp; with_reducible rfl); rotate_left; (simp only [Act.put, Nat.reduceAdd, List.setIfInBounds_toArray, List.set_cons_zero, List.set_cons_succ, zaH, zaI]; rfl)) | (refine pn_ 13 (v := undef) (a' := ?_) rfl rfl HT_ (by kernel_rfl) (fun _ _ _ h => h) (Or.inr ⟨by rfl, rfl⟩) ?_ ?_; rotate_left; (simp only [Act.put, Nat.reduceAdd, List.setIfInBounds_toArray, List.set_cons_zero, List.set_cons_succ, zaH, zaI]; rfl)) | (refine tn_ 13 (v := ?_) (a' := ?_) rfl rfl HT_ HW_ (by kernel_rfl) (fun _ _ _ h => h) (Or.inl ⟨by rfl, ?_⟩) hHeld ?_ ?_; rotate_left; (intro w' hS; obtain ⟨q0, q1, q2, q3, q4, q5, q6, q7, q8, q9, q10, q11, q12, q13, q14, _, _, _, _, _, _, _, _⟩ := RW.out.step hS; (try have hp := cell_step hS PW.out); go_simp; with_reducible rfl); rotate_left; (simp only [Act.put, Nat.reduceAdd, List.setIfInBounds_toArray, List.set_cons_zero, List.set_cons_succ, zaH, zaI]; rfl)) | (refine on_ 13 rfl rfl HT_ (by kernel_rfl) (fun K hK => ?_); refine goes_ Tryz.func9 (by kernel_rfl) rfl #[.agg #[.string y.f0, .string y.f1, .string y.f2, .string y.f3, .string y.f4, .slice A5 y.f5.length c5, .int .i64 y.f6, .slice A7 y.f7.length c7, .string y.f8, .string y.f9, .string y.f10, .string y.f11, .slice A12 y.f12.length c12, .slice A13 y.f13.length c13, .string y.f14]] (by rfl) rfl rfl (by (try simp only [List.map_toArray, List.map_cons, List.map_nil]); first | done | rfl) ?_; (with_reducible refine (CL.out _ hHeld).mono ?_); rintro e wn ⟨rfl, hb⟩; refine ⟨_, rfl, ?_⟩; refine hK.out _ _ (zam hHeld hb) (fun hHeld => ?_); clear hK K; refine norm_ (a' := ?_) ?_ ?_; rotate_left; (simp only [Act.put, Nat.reduceAdd, List.setIfInBounds_toArray, List.set_cons_zero, List.set_cons_succ, zaH, zaI]; rfl)))
    refine dn_ HT_ (by kernel_rfl) ?_
    have HB2 := zaa.mk hHeld; clear HT_ HW_ hHeld
    go_wp2
   ·go_roundg k1
    case measure => have := HI.out; have := HL.out; omega
    case rel => exact ⟨_, i + 1, rfl, ⟨by rw [HXI.out]; show wrap64 _ = _; rw [w64 (by have := HL.out; have := HN.out; omega) (by have := HL.out; have := HN.out; omega)]; omega⟩, ⟨HL.out, by have := HI.out.2.1; omega, fun j hj => by rcases Nat.lt_succ_iff_lt_or_eq.1 hj with h1 | rfl; exact HI.out.2.2 j h1; exact HO.out⟩, HB2⟩
   ·go_ret
    exact ⟨by rw [HV.out]; rfl, HB2.out⟩
   ·go_roundg k1
    case measure => have := HI.out; have := HL.out; omega
    case rel => exact ⟨_, i + 1, rfl, ⟨by rw [HXI.out]; show wrap64 _ = _; rw [w64 (by have := HL.out; have := HN.out; omega) (by have := HL.out; have := HN.out; omega)]; omega⟩, ⟨HL.out, by have := HI.out.2.1; omega, fun j hj => by rcases Nat.lt_succ_iff_lt_or_eq.1 hj with h1 | rfl; exact HI.out.2.2 j h1; exact HO.out⟩, HB2⟩
   go_ret
   exact ⟨by rw [HV.out]; rfl, HB2.out⟩
end Go.Proofs.YtfafjbolmeimmaaGreatDoor.P
