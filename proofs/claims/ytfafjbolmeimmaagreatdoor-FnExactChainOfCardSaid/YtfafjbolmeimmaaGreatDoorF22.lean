/- Parts of a proof: words of the print tool that this claim uses, or plain lists. -/
import Derived.Test.YtfafjbolmeimmaaGreatDoorAb
import Derived.Test.YtfafjbolmeimmaaGreatDoorF19
import Derived.Test.YtfafjbolmeimmaaGreatDoorXLgA
import Derived.Test.YtfafjbolmeimmaaGreatDoorXLgB
import Derived.Test.YtfafjbolmeimmaaGreatDoorF20
import Derived.Test.YtfafjbolmeimmaaGreatDoorXLgD
import Derived.Test.YtfafjbolmeimmaaGreatDoorF17
import Derived.Laws.Cover1
import Derived.Deep.CutBlock
import Derived.Test.YtfafjbolmeimmaaGreatDoorF18
namespace Go.Proofs.YtfafjbolmeimmaaGreatDoor.P
open Go.RowKit Go.Proofs.YtfafjbolmeimmaaGreatDoorW.PrintWords Go.Proofs.YtfafjbolmeimmaaGreatDoorW.PrintLast Go.Proofs.YtfafjbolmeimmaaGreatDoorW.PrintMore
set_option linter.unusedVariables false
set_option linter.unusedSimpArgs false
def zaF.f (a0_0 : ByteArray) (a0_1 : ByteArray) (a0_2 : ByteArray) (a0_3 : ByteArray) (a0_4 : ByteArray) (l0_5 : List Int) (a0_6 : Int) (l0_7 : List S58) (a0_8 : ByteArray) (a0_9 : ByteArray) (a0_10 : ByteArray) (a0_11 : ByteArray) (l0_12 : List ByteArray) (l0_13 : List ByteArray) (a0_14 : ByteArray) : Option Int := if smallLoc a0_0 a0_1 a0_2 a0_3 a0_4 l0_5 l0_7 a0_8 a0_9 a0_10 a0_11 l0_12 l0_13 a0_14 = true then some (if okLoc a0_0 a0_1 a0_2 a0_3 a0_4 l0_5 a0_6 l0_7 a0_8 a0_9 a0_10 a0_11 l0_12 l0_13 a0_14 = true then 0 else 1) else none
theorem sp_ok (a0 a1 a2 a3 a4 : ByteArray) (l5 : List Int) (a6 : Int) (l7 : List S58) (a8 a9 a10 a11 : ByteArray) (l12 l13 : List ByteArray) (a14 : ByteArray) : okLoc a0 a1 a2 a3 a4 l5 a6 l7 a8 a9 a10 a11 l12 l13 a14 = (sp1 a0 a1 a2 a3 a4 && (sp3 l5 a6 l7 a8 a9 a10 a11 l12 l13 a14 && (l5.all szB && plFrom l7 0))) := by
 unfold okLoc loc1 sp1 sp3
 simp only [List.all_cons, List.all_nil, Bool.and_true]
 ac_rfl
theorem rt_no {p x : Bool} {r : Int} (h : (if (p && x) = true then (0 : Int) else 1) = r) : p = false → r = 1 := fun e => by rw [e] at h; exact h.symm
theorem rt_yes {p x : Bool} {r : Int} (h : (if (p && x) = true then (0 : Int) else 1) = r) (e : p = true) : (if x = true then (0 : Int) else 1) = r := by rw [e, Bool.true_and] at h; exact h
theorem rt_last {p : Bool} {r : Int} (h : (if p = true then (0 : Int) else 1) = r) : p = false → r = 1 := fun e => by rw [e] at h; exact h.symm
set_option maxHeartbeats 8000000 in
set_option maxRecDepth 100000 in
theorem zaF.calls (a0_0 : ByteArray) (a0_1 : ByteArray) (a0_2 : ByteArray) (a0_3 : ByteArray) (a0_4 : ByteArray) (A0_5 : Option Addr) (c0_5 : Nat) (l0_5 : List Int) (a0_6 : Int) (A0_7 : Option Addr) (c0_7 : Nat) (l0_7 : List S58) (a0_8 : ByteArray) (a0_9 : ByteArray) (a0_10 : ByteArray) (a0_11 : ByteArray) (A0_12 : Option Addr) (c0_12 : Nat) (l0_12 : List ByteArray) (A0_13 : Option Addr) (c0_13 : Nat) (l0_13 : List ByteArray) (a0_14 : ByteArray) (r : Int) (w : World) (hr0_5 : Kd.C (Kd.int .i64) w A0_5 l0_5.length l0_5) (hc0_5 : l0_5.length ≤ c0_5) (hr0_7 : Kd.C k58 w A0_7 l0_7.length l0_7) (hc0_7 : l0_7.length ≤ c0_7) (hr0_12 : Kd.C Kd.string w A0_12 l0_12.length l0_12) (hc0_12 : l0_12.length ≤ c0_12) (hr0_13 : Kd.C Kd.string w A0_13 l0_13.length l0_13) (hc0_13 : l0_13.length ≤ c0_13) (h : zaF.f a0_0 a0_1 a0_2 a0_3 a0_4 l0_5 a0_6 l0_7 a0_8 a0_9 a0_10 a0_11 l0_12 l0_13 a0_14 = some r) :
  Calls Tryz.prog 9 #[.agg #[.string a0_0, .string a0_1, .string a0_2, .string a0_3, .string a0_4, .slice A0_5 l0_5.length c0_5, .int .i64 a0_6, .slice A0_7 l0_7.length c0_7, .string a0_8, .string a0_9, .string a0_10, .string a0_11, .slice A0_12 l0_12.length c0_12, .slice A0_13 l0_13.length c0_13, .string a0_14]] w fun e w' => e = .returned (.int .i64 r) ∧ Below w.heap.size w w' := by
 unfold zaF.f at h
 split at h
 case isFalse => cases h
 rename_i hs
 have hr := Option.some.inj h
 rw [sp_ok] at hr
 have SM := zaa.mk hs
 obtain ⟨⟨s0, s1, s2, s3, s4, s8, s9, s10, s11, s14⟩, t5, t7, q7, t12, q12, t13, q13⟩ := small_parts' hs
 have K5 := zaa.mk hr0_5; have K7 := zaa.mk hr0_7
 go_enter Tryz.func9, Tryz.ntmps9
 refine wp_seq (lg_0 _ ?_)
 intros
 rename_i w0 L0
 change Code.wp _ _ _ _ _
 refine wp_seq (lg_A SM L0 (rt_no hr) _ (fun _ _ => rfl) ?_)
 intros
 rename_i w1 p1 L1
 change Code.wp _ _ _ _ _
 have hr1 := rt_yes hr p1
 refine wp_seq (lg_B SM hr0_12 hc0_12 hr0_13 hc0_13 L1 (rt_no hr1) _ (fun _ _ => rfl) ?_)
 intros
 rename_i w2 p2 L2
 change Code.wp _ _ _ _ _
 have hr2 := rt_yes hr1 p2
 refine wp_seq (lg_C ⟨t5⟩ K5 L2 (rt_no hr2) _ (fun _ _ => rfl) ⟨fun _ _ n _ _ h => by cases n <;> exact h⟩ ?_)
 intros
 rename_i w3 p3 L3
 change Code.wp _ _ _ _ _
 have hr3 := rt_yes hr2 p3
 refine wp_seq (lg_D SM K7 L3 (rt_last hr3) _ (fun _ _ => rfl) ⟨fun _ _ n _ _ h => by cases n <;> exact h⟩ ?_)
 intros
 rename_i w4 p4 L4
 change Code.wp _ _ _ _ _
 rw [p4] at hr3
 have hr4 : (0 : Int) = r := hr3
 clear hr hr1 hr2 hr3
 go_wp2
 go_ret
 exact ⟨by rw [← hr4]; rfl, L4.out.b⟩
end Go.Proofs.YtfafjbolmeimmaaGreatDoor.P
namespace Go.Proofs.YtfafjbolmeimmaaGreatDoor.P
open Go.RowKit Go.Proofs.YtfafjbolmeimmaaGreatDoorW.PrintWords Go.Proofs.YtfafjbolmeimmaaGreatDoorW.PrintLast Go.Proofs.YtfafjbolmeimmaaGreatDoorW.PrintMore
set_option linter.unusedVariables false
set_option linter.unusedSimpArgs false
def lss_T : Bool × List (List Nat × List Nat) := (true, [([], []), ([], []), ([0, 1], [0, 1]), ([2], [2]), ([3], [3]), ([4], [4]), ([5, 4], [5]), ([6], [6]), ([7, 6], [6, 7]), ([8, 6, 6], [6, 8]), ([9], [9]), ([9], [9]), ([11, 9], [9, 11]), ([10, 12, 9], [9, 10, 12]), ([13, 9], [9, 13]), ([14, 9], [9, 14]), ([9], [9]), ([9], [9]), ([16, 17, 9], [9, 16, 17]), ([18, 9], [9, 18]), ([19, 9], [9, 19]), ([15, 20, 9], [9, 15, 20]), ([9, 21, 6], [6, 9, 21]), ([6, 22], [6, 22])])
def lss_B : List Nat := [0, 0, 3, 7, 15, 31, 63, 127, 255, 511, 1023, 1023, 3071, 8191, 16383, 32767, 1023, 1023, 197631, 459775, 984063, 2097151, 4194303, 8388607]
theorem lss_tab : rtab .any (opsOf Tryz.f14 6) = lss_T := by kernel_rfl
theorem lss_bits : waitsOk lss_T.2 lss_B = true := by kernel_rfl
def spec_LocalesFault.f (l0 : List S31) : Option Int := if lsS l0 = true then some (lsV l0) else none
set_option maxHeartbeats 8000000 in
set_option maxRecDepth 1000000 in
theorem spec_LocalesFault.calls (A0 : Option Addr) (c0 : Nat) (l0 : List S31) (r : Int) (w : World) (hr0 : Kd.C k31 w A0 l0.length l0) (hc0 : l0.length ≤ c0) (h : spec_LocalesFault.f l0 = some r) :
  Calls Tryz.prog 14 #[.slice A0 l0.length c0] w fun e w' => e = .returned (.int .i64 r) ∧ Below w.heap.size w w' := by
 unfold spec_LocalesFault.f at h
 split at h
 case isFalse => cases h
 rename_i hS0
 obtain rfl := Option.some.inj h
 clear h
 have HB := zaa.mk (Below.refl w.heap.size w)
 by_cases c50 : (l0.length : Int) > 50
 ·have HV := zaa.mk (lsV_long c50)
  have g0 : (50 < (l0.length : Int)) = True := eq_true c50
  clear c50 hr0 hS0
  go_enter Tryz.func14, Tryz.ntmps14
  go_wp2
  go_ret
  exact ⟨by rw [HV.out]; rfl, (yq25 HB.out)⟩
 have g0 : (50 < (l0.length : Int)) = False := eq_false c50
 have H5 := zaa.mk c50; have HS := zaa.mk hS0; have HR := zaa.mk hr0; have HC := zaa.mk hc0
 have HN := zaa.mk (lsS_len hS0)
 clear c50 hS0 hr0 hc0
 go_enter Tryz.func14, Tryz.ntmps14
 go_wp2
 go_loopg [3] (l0.length + 1) (fun gk v3 wr => ∃ (x : Int) (i : Nat), v3 = .int .i64 x ∧ zaa (x = (i : Int)) ∧ zaa (i ≤ l0.length ∧ l0.length + 1 ≤ gk + i ∧ ∀ j, j < i → lsBad l0 j = false) ∧ zaa (Below w.heap.size w wr))
 case atStart => exact ⟨0, 0, rfl, ⟨rfl⟩, ⟨Nat.zero_le _, Nat.le_refl _, fun j hj => absurd hj (Nat.not_lt_zero _)⟩, ⟨(yq25 HB.out)⟩⟩
 case round =>
  clear HB g0
  obtain ⟨x, i, rfl, HXI, HI, HB⟩ := hrel
  cases gk with
  | zero => exact absurd HI.out.2.1 (yq27 HI.out)
  | succ k1 =>
   by_cases hlt : i < l0.length
   case neg =>
    have HV := zaa.mk (lsV_good (yq15 H5.out) (fun j hj => HI.out.2.2 j yq9))
    have g1 : decide (x < (l0.length : Int)) = false := decide_eq_false (yq15 HXI.out)
    clear hlt
    go_wp2
    go_ret
    exact ⟨by rw [HV.out]; rfl, (yq25 HB.out)⟩
   have g1 : decide (x < (l0.length : Int)) = true := decide_eq_true (yq15 HXI.out)
   have g2 : (0 ≤ x) = True := eq_true (yq15 HXI.out)
   have g3 : (x < (l0.length : Int)) = True := eq_true (yq15 HXI.out)
   have HL := zaa.mk hlt
   obtain ⟨ad, A5, c5, A7, c7, A12, c12, A13, c13, e, hw⟩ := row_at HR.out x (yq15 HXI.out) (yq15 HXI.out)
   have HY := zaa.mk (smL_at HS.out hlt)
   have HY' : zaa (smLB (zao l0 x) = true) := ⟨by rw [HXI.out]; exact HY.out⟩
   clear HY
   have HY := HY'
   clear HY'
   obtain ⟨y, hy⟩ : ∃ y, zao l0 x = y := ⟨_, rfl⟩
   have HX : zaa (lsBad l0 i = (!okLB y || (decide (0 < i) && !Op.bytesLess (zao l0 ((i - 1 : Nat) : Int)).f0.toList y.f0.toList))) := ⟨by rw [← hy, HXI.out]; rfl⟩
   rw [hy] at hw HY
   have RW := zaa.mk hw
   cases e
   clear hw hy hlt
   have CL : zaa (∀ w1, Below w.heap.size w w1 → Calls Tryz.prog 9 #[.agg #[.string y.f0, .string y.f1, .string y.f2, .string y.f3, .string y.f4, .slice A5 y.f5.length c5, .int .i64 y.f6, .slice A7 y.f7.length c7, .string y.f8, .string y.f9, .string y.f10, .string y.f11, .slice A12 y.f12.length c12, .slice A13 y.f13.length c13, .string y.f14]] w1 fun e w' => e = .returned (.int .i64 (if okLB y = true then 0 else 1)) ∧ Below w1.heap.size w1 w') := ⟨fun w1 hb => zaF.calls y.f0 y.f1 y.f2 y.f3 y.f4 A5 c5 y.f5 y.f6 A7 c7 y.f7 y.f8 y.f9 y.f10 y.f11 A12 c12 y.f12 A13 c13 y.f13 y.f14 _ w1 (RW.out.step hb).r5 RW.out.s5 (RW.out.step hb).r7 RW.out.s7 (RW.out.step hb).r12 RW.out.s12 (RW.out.step hb).r13 RW.out.s13 (if_pos HY.out)⟩
   obtain ⟨r0, hr0⟩ : ∃ r0 : Int, (if okLB y = true then 0 else 1) = r0 := ⟨_, rfl⟩
   rw [hr0] at CL
   cases hk : okLB y
   have HV := zaa.mk (lsV_bad HL.out (show lsBad l0 i = true by rw [HX.out, hk]; rfl))
   obtain rfl : r0 = 1 := by rw [← hr0, hk]; rfl
   clear hr0 hk
   rotate_left
   obtain rfl : r0 = 0 := by rw [← hr0, hk]; rfl
   clear hr0
   by_cases hi : i = 0
   have HO := zaa.mk (show lsBad l0 i = false by rw [HX.out, hk, hi]; rfl)
   have g4 : decide (0 < x) = false := decide_eq_false (yq15 HXI.out)
   have g5 : (0 < x) = False := eq_false (yq15 HXI.out)
   clear hk hi
   rotate_left
   obtain ⟨x1, hx1⟩ : ∃ x1 : Int, x1 = x - 1 := ⟨_, rfl⟩
   have e1 : IntKind.i64.wrap (x - 1) = x1 := by rw [zaE, w64 (yq33 HXI.out HL.out HN.out) (yq33 HXI.out HL.out HN.out), hx1]
   have ei : x1 = ((i - 1 : Nat) : Int) := by have := HXI.out; omega
   have g4 : decide (0 < x) = true := decide_eq_true (yq15 HXI.out)
   have g5 : (0 < x) = True := eq_true (yq15 HXI.out)
   have g6 : (0 ≤ x1) = True := eq_true yq9
   have g7 : (x1 < (l0.length : Int)) = True := eq_true (yq15 HL.out)
   obtain ⟨ad2, B5, d5, B7, d7, B12, d12, B13, d13, e2, hw2⟩ := row_at HR.out x1 yq9 (yq15 HL.out)
   cases e2
   obtain ⟨z, hz⟩ : ∃ z, zao l0 x1 = z := ⟨_, rfl⟩
   rw [hz] at hw2
   have PW := zaa.mk hw2.x0
   rw [← ei, hz, hk] at HX
   have h9 : decide (0 < i) = true := decide_eq_true yq9
   clear hw2 hz ei hx1 hk hi
   cases hb0 : Op.bytesLess z.f0.toList y.f0.toList
   have HV := zaa.mk (lsV_bad HL.out (show lsBad l0 i = true by rw [HX.out, hb0, h9]; rfl))
   clear h9
   rotate_left
   have HO := zaa.mk (show lsBad l0 i = false by rw [HX.out, hb0]; simp)
   clear h9
   all_goals (go_upto_region 6 with (fail))
   all_goals
    refine sn_ (n := 24) (S := fun w' => Below w.heap.size w w') yq10 rfl yq30 (zac HB.out) (fun hHeld => ?_)
    refine zbo lss_tab lss_bits (fun HT_ HW_ => ?_)
    generalize wr.drew = w3 at hHeld ⊢
    repeat (first | (refine pn_ 13 (v := ?_) (a' := ?_) rfl rfl HT_ yq10 (fun _ _ _ h => h) (Or.inl ⟨yq30, ?_⟩) ?_ ?_; rotate_left; (intro w'; go_simp; with_reducible rfl); rotate_left; (simp only [Act.put, Nat.reduceAdd, List.setIfInBounds_toArray, List.set_cons_zero, List.set_cons_succ, zaE, zaH]; rfl)) | (refine pn_ 13 (v := undef) (a' := ?_) rfl rfl HT_ yq10 (fun _ _ _ h => h) (Or.inr ⟨yq30, rfl⟩) ?_ ?_; rotate_left; (simp only [Act.put, Nat.reduceAdd, List.setIfInBounds_toArray, List.set_cons_zero, List.set_cons_succ, zaE, zaH]; rfl)) | (refine tn_ 13 (v := ?_) (a' := ?_) rfl rfl HT_ HW_ yq10 (fun _ _ _ h => h) (Or.inl ⟨yq30, ?_⟩) hHeld ?_ ?_; rotate_left; (intro w' hS; obtain ⟨q0, q1, q2, q3, q4, q5, q6, q7, q8, q9, q10, q11, q12, q13, q14, _, _, _, _, _, _, _, _⟩ := RW.out.step hS; (try have hp := cell_step hS PW.out); go_simp; with_reducible rfl); rotate_left; (simp only [Act.put, Nat.reduceAdd, List.setIfInBounds_toArray, List.set_cons_zero, List.set_cons_succ, zaE, zaH]; rfl)) | (refine on_ 13 rfl rfl HT_ yq10 (fun K hK => ?_); refine goes_ Tryz.func9 yq10 rfl #[.agg #[.string y.f0, .string y.f1, .string y.f2, .string y.f3, .string y.f4, .slice A5 y.f5.length c5, .int .i64 y.f6, .slice A7 y.f7.length c7, .string y.f8, .string y.f9, .string y.f10, .string y.f11, .slice A12 y.f12.length c12, .slice A13 y.f13.length c13, .string y.f14]] yq30 rfl rfl yq14 ?_; (with_reducible refine (CL.out _ hHeld).mono ?_); rintro e wn ⟨rfl, hb⟩; refine ⟨_, rfl, ?_⟩; refine hK.out _ _ (zam hHeld hb) (fun hHeld => ?_); clear hK K; refine norm_ (a' := ?_) ?_ ?_; rotate_left; (simp only [Act.put, Nat.reduceAdd, List.setIfInBounds_toArray, List.set_cons_zero, List.set_cons_succ, zaE, zaH]; rfl)))
    refine dn_ HT_ yq10 ?_
    have HB2 := zaa.mk hHeld; clear HT_ HW_ hHeld
    go_wp2
   ·go_roundg k1
    case measure => have := HI.out; have := HL.out; omega
    case rel => exact ⟨_, i + 1, rfl, ⟨by rw [HXI.out]; show wrap64 _ = _; rw [w64 (yq19 HL.out HN.out) (yq19 HL.out HN.out)]; omega⟩, ⟨HL.out, by have := HI.out.2.1; omega, fun j hj => by rcases Nat.lt_succ_iff_lt_or_eq.1 hj with h1 | rfl; exact HI.out.2.2 j h1; exact HO.out⟩, HB2⟩
   ·go_ret
    exact ⟨by rw [HV.out]; rfl, HB2.out⟩
   ·go_roundg k1
    case measure => have := HI.out; have := HL.out; omega
    case rel => exact ⟨_, i + 1, rfl, ⟨by rw [HXI.out]; show wrap64 _ = _; rw [w64 (yq19 HL.out HN.out) (yq19 HL.out HN.out)]; omega⟩, ⟨HL.out, by have := HI.out.2.1; omega, fun j hj => by rcases Nat.lt_succ_iff_lt_or_eq.1 hj with h1 | rfl; exact HI.out.2.2 j h1; exact HO.out⟩, HB2⟩
   go_ret
   exact ⟨by rw [HV.out]; rfl, HB2.out⟩
end Go.Proofs.YtfafjbolmeimmaaGreatDoor.P
namespace Go.Proofs.YtfafjbolmeimmaaGreatDoor.P
open Go.RowKit Go.Proofs.YtfafjbolmeimmaaGreatDoorW.PrintWords Go.Proofs.YtfafjbolmeimmaaGreatDoorW.PrintLast Go.Proofs.YtfafjbolmeimmaaGreatDoorW.PrintMore
set_option linter.unusedVariables false
set_option linter.unusedSimpArgs false
set_option maxHeartbeats 4000000 in
set_option maxRecDepth 100000 in
theorem six_calls (A : Option Addr) (c : Nat) (out : List ByteArray) (n : ByteArray) (w : World) (hC : Kd.C Kd.string w A out.length out) (hl : out.length ≤ 1048576) :
  Calls Tryz.prog 95 #[.slice A out.length c, .string n] w fun e w' => ∃ x : Int, e = .returned (.int .i64 x) ∧ decide (0 ≤ x) = hasT n out ∧ Below w.heap.size w w' := by
 have HC := zaa.mk hC; have HL := zaa.mk hl; clear hC hl
 go_enter Tryz.func95, Tryz.ntmps95
 go_wp2_with (fail)
 go_loopg [8] (out.length + 1) (fun gk v8 wr => ∃ (x : Int) (j : Nat), v8 = .int .i64 x ∧ zaa (x = (j : Int) ∧ j ≤ out.length ∧ out.length + 1 ≤ gk + j ∧ ∀ y, y < j → ¬ (rdOf ByteArray.empty out (y : Int)).toList = n.toList) ∧ zaa (Below w.heap.size w wr))
 case atStart => exact ⟨0, 0, rfl, ⟨rfl, Nat.zero_le _, Nat.le_refl _, fun y hy => absurd hy (Nat.not_lt_zero _)⟩, ⟨Below.refl _ _⟩⟩
 case round =>
  obtain ⟨x, j, rfl, HX, HB⟩ := hrel
  cases gk with
  | zero => exact absurd HX.out.2.2.1 (by have := HX.out.2.1; omega)
  | succ k1 =>
   by_cases hlt : j < out.length
   case neg =>
    have g1 : decide (x < (out.length : Int)) = false := decide_eq_false (yq27 HX.out)
    have HV := zaa.mk (has_none (n := n) (out := out) (fun y hy => HX.out.2.2.2 y yq9))
    clear hlt
    go_wp2
    go_ret
    exact ⟨_, rfl, by rw [HV.out]; rfl, HB.out⟩
   have g1 : decide (x < (out.length : Int)) = true := decide_eq_true (yq27 HX.out)
   have g2 : (0 ≤ x) = True := eq_true (yq27 HX.out)
   have g3 : (x < (out.length : Int)) = True := eq_true (yq27 HX.out)
   obtain ⟨ad, ea, q0⟩ := Kd.at_string (Kd.zaS HC.out HB.out) x (yq27 HX.out) (yq27 HX.out)
   have HLt := zaa.mk hlt
   obtain ⟨y, hy⟩ : ∃ y, rdOf ByteArray.empty out x = y := ⟨_, rfl⟩
   rw [hy] at q0
   have HY := zaa.mk hy
   cases ea
   clear hlt hy
   by_cases hn : y.toList = n.toList
   ·have HV : zaa (hasT n out = true) := ⟨has_at HLt.out (by rw [← HX.out.1, HY.out]; exact hn)⟩
    have e1 : (n.toList == y.toList) = true := beq_iff_eq.2 hn.symm
    go_wp2
    go_ret
    exact ⟨_, rfl, by rw [HV.out]; exact decide_eq_true (yq27 HX.out), HB.out⟩
   have HN : zaa (¬ (rdOf ByteArray.empty out (j : Int)).toList = n.toList) := ⟨by rw [← HX.out.1, HY.out]; exact hn⟩
   have e1 : (n.toList == y.toList) = false := beq_eq_false_iff_ne.2 (fun h => hn h.symm)
   go_wp2
   go_roundg k1
   case measure => have := HX.out; have := HLt.out; omega
   case rel => exact ⟨_, j + 1, rfl, ⟨by rw [HX.out.1]; show wrap64 _ = _; rw [w64 yq9 (yq19 HLt.out HL.out)]; omega, HLt.out, by have := HX.out.2.2.1; omega, fun z hz => by rcases Nat.lt_succ_iff_lt_or_eq.1 hz with h1 | rfl; exact HX.out.2.2.2 z h1; exact HN.out⟩, HB⟩
set_option maxHeartbeats 4000000 in
theorem con_calls (A : Option Addr) (c : Nat) (out : List ByteArray) (n : ByteArray) (w : World) (hC : Kd.C Kd.string w A out.length out) (hl : out.length ≤ 1048576) :
  Calls Tryz.prog 61 #[.slice A out.length c, .string n] w fun e w' => e = .returned (.bool (hasT n out)) ∧ Below w.heap.size w w' := by
 have HI := zaa.mk (six_calls A c out n w hC hl)
 clear hC hl
 go_enter Tryz.func61, Tryz.ntmps61
 go_wp2_with (first | ((with_reducible refine HI.out.mono ?_); rintro e w1 ⟨x, rfl, hx, hb⟩; have HX := zaa.mk hx; have HB := zaa.mk hb; clear hb hx) | fail)
 go_ret
 exact ⟨by rw [← HX.out]; rfl, HB.out⟩
set_option maxHeartbeats 4000000 in
set_option maxRecDepth 100000 in
theorem sch_calls (A0 : Option Addr) (c0 : Nat) (l : List LO) (n : ByteArray) (w : World) (hC : Kd.C k31 w A0 l.length l) (hl : l.length ≤ 1048576) (hok : okC l) (hg : goodN n) :
  Calls Tryz.prog 60 #[.slice A0 l.length c0, .string n] w fun e w' => ∃ v : Value, e = .returned v ∧ Kd.R Kd.string 9 w' w.heap.size (fun _ => True) v (chV l n) ∧ Below w.heap.size w w' := by
 have HC := zaa.mk hC; have HL := zaa.mk hl; have HK := zaa.mk hok
 have HB0 := zaa.mk (Below.refl w.heap.size w)
 have HS : zaa (chS l [] n = chV l n ∧ (n.toList = ([] : List UInt8) ∨ goodN n)) := ⟨by unfold chS; rw [if_neg (nil_list hg)]; exact ⟨rfl, .inr hg⟩⟩
 clear hC hl hok hg
 go_enter Tryz.func60, Tryz.ntmps60
 go_wp2_with (first | ((with_reducible refine zaU (N := 7) rfl ?_); refine Kd.R_lit Kd.string (w0 := w) w.heap.size 9 rfl (N := 7) rfl (xs := []) (inner := []) (ok := fun _ => True) (okp := fun _ => False) ?hr (Reps.none _ _) (fun k hk => hk.elim) ?hf ?hB ?hs yq21 ?_; (case hr => first | (go_simp; done) | (go_simp; rfl)); (case hf => trivial); (case hB => exact HB0.out); (case hs => exact HB0.out.size); intro v_ w2 ho hb hg hat; have HR := zaa.mk ho; have HB := zaa.mk hb; clear ho hb hg hat) | fail)
 go_loopg [1, 5, 6] 11 (fun gk v1 v5 v6 wr => ∃ (n0 : ByteArray) (out : List ByteArray), v1 = .string n0 ∧ zaa (chS l out n0 = chV l n ∧ (n0.toList = ([] : List UInt8) ∨ goodN n0) ∧ out.length ≤ 10 ∧ 11 ≤ gk + out.length) ∧ zaa (Kd.R Kd.string 9 wr w.heap.size (fun _ => True) v5 out) ∧ zaa (Below w.heap.size w wr))
 case atStart => exact ⟨n, [], rfl, ⟨HS.out.1, HS.out.2, yq38, yq38⟩, HR, HB⟩
 case round =>
  clear HR HB HS HB0
  obtain ⟨n0, out, rfl, HX, HR, HB⟩ := hrel
  obtain ⟨A5, c5, rfl⟩ := Kd.R_slice HR.out
  cases gk with
  | zero => exact absurd HX.out.2.2.2 (by have := HX.out.2.2.1; omega)
  | succ k1 =>
   by_cases hn : n0.toList = ([] : List UInt8)
   ·have g1 : (n0.toList == ([] : List UInt8)) = true := beq_iff_eq.2 hn
    have g2 : (n0.toList != ([] : List UInt8)) = false := by rw [bne, g1]; rfl
    have HV : zaa (chV l n = out) := ⟨by rw [← HX.out.1]; unfold chS; rw [if_pos hn]⟩
    clear hn
    go_wp2
    go_ret
    exact ⟨_, rfl, by rw [HV.out]; exact HR.out, HB.out⟩
   have g1 : (n0.toList == ([] : List UInt8)) = false := beq_eq_false_iff_ne.2 hn
   have g2 : (n0.toList != ([] : List UInt8)) = true := by rw [bne, g1]; rfl
   have HG : zaa (goodN n0) := ⟨HX.out.2.1.resolve_left hn⟩
   have HU : zaa (chV l n = chF l (10 - out.length) out n0) := ⟨by rw [← HX.out.1]; unfold chS; rw [if_neg hn]⟩
   clear hn
   by_cases h10 : out.length < 10
   case neg =>
    have g3 : decide ((out.length : Int) < 10) = false := decide_eq_false yq9
    have HV : zaa (chV l n = out) := ⟨by rw [HU.out, show 10 - out.length = 0 by omega]; rfl⟩
    clear h10
    go_wp2
    go_ret
    exact ⟨_, rfl, by rw [HV.out]; exact HR.out, HB.out⟩
   have g3 : decide ((out.length : Int) < 10) = true := decide_eq_true yq9
   have H10 := zaa.mk h10; clear h10
   go_wp2_with (fail)
   go_loopg [6] (out.length + 1) (fun gq v6 wi => ∃ (x : Int) (j : Nat), v6 = .int .i64 x ∧ zaa (x = (j : Int) ∧ j ≤ out.length ∧ out.length + 1 ≤ gq + j ∧ ∀ y, y < j → ¬ (rdOf ByteArray.empty out (y : Int)).toList = n0.toList) ∧ zaa (Kd.R Kd.string 9 wi w.heap.size (fun _ => True) (.slice A5 out.length c5) out) ∧ zaa (Below w.heap.size w wi))
   case atStart => exact ⟨0, 0, rfl, ⟨rfl, Nat.zero_le _, Nat.le_refl _, fun y hy => absurd hy (Nat.not_lt_zero _)⟩, ⟨yq7 HR.out⟩, ⟨yq0 HB.out⟩⟩
   case round =>
    clear HR HB
    obtain ⟨x, j, rfl, HJ, HR, HB⟩ := hrel
    cases gk with
    | zero => exact absurd HJ.out.2.2.1 (by have := HJ.out.2.1; omega)
    | succ k2 =>
     by_cases hlt : j < out.length
     case pos =>
      have e0 : decide (x < (out.length : Int)) = true := decide_eq_true (yq27 HJ.out)
      have e2 : (0 ≤ x) = True := eq_true (yq27 HJ.out)
      have e3 : (x < (out.length : Int)) = True := eq_true (yq27 HJ.out)
      obtain ⟨A9, c9, e9, _, hC9⟩ := Kd.R_reads HR.out
      cases e9
      obtain ⟨ad, ea, q0⟩ := Kd.at_string hC9 x (yq27 HJ.out) (yq27 HJ.out)
      have HLt := zaa.mk hlt
      obtain ⟨y, hy⟩ : ∃ y, rdOf ByteArray.empty out x = y := ⟨_, rfl⟩
      rw [hy] at q0
      have HY := zaa.mk hy
      cases ea
      clear hlt hy
      by_cases hn : y.toList = n0.toList
      ·have HV : zaa (chV l n = out) := ⟨by rw [HU.out, chF_has (has_at HLt.out (by rw [← HJ.out.1, HY.out]; exact hn))]⟩
       have e1 : (y.toList == n0.toList) = true := beq_iff_eq.2 hn
       have e1' : (n0.toList == y.toList) = true := beq_iff_eq.2 hn.symm
       clear hn
       go_wp2
       go_ret
       exact ⟨_, rfl, by rw [HV.out]; exact (yq7 HR.out), yq0 HB.out⟩
      have HN : zaa (¬ (rdOf ByteArray.empty out (j : Int)).toList = n0.toList) := ⟨by rw [← HJ.out.1, HY.out]; exact hn⟩
      have e1 : (y.toList == n0.toList) = false := beq_eq_false_iff_ne.2 hn
      have e1' : (n0.toList == y.toList) = false := beq_eq_false_iff_ne.2 (fun h => hn h.symm)
      clear hn
      go_wp2
      go_roundg k2
      case measure => have := HJ.out; have := HLt.out; omega
      case rel => exact ⟨_, j + 1, rfl, ⟨by rw [HJ.out.1]; show wrap64 _ = _; rw [w64 yq9 (yq19 HLt.out H10.out)]; omega, HLt.out, by have := HJ.out.2.2.1; omega, fun z hz => by rcases Nat.lt_succ_iff_lt_or_eq.1 hz with h1 | rfl; exact HJ.out.2.2.2 z h1; exact HN.out⟩, HR, HB⟩
     have e0 : decide (x < (out.length : Int)) = false := decide_eq_false (yq27 HJ.out)
     have HT : zaa (hasT n0 out = false) := ⟨has_none (n := n0) (out := out) (fun y hy => HJ.out.2.2.2 y yq9)⟩
     have HGG : zaa ((1 ≤ n0.size ∧ n0.size ≤ 1048576) ∧ bt n0 0 ≠ 45) := ⟨by have h := HG.out; unfold goodN at h; exact ⟨⟨h.1.1, by have := h.1.2; omega⟩, h.2⟩⟩
     have HNX := zaa.mk (chS_next HK.out HG.out HT.out H10.out)
     clear hlt
     go_wp2_with (first | ((with_reducible refine zbs (b := .append) (xs := #[.tmp 28, .tmp 30]) rfl ?_); at_builtin; refine Kd.R_append Kd.string (w0 := w) w.heap.size rfl (.tmp 28) (.tmp 30) 24 9 (.string ⟨#[]⟩) 16 rfl Tryz.underlying24 infoStr rfl yq38 yq9 (.slice A5 out.length c5) out n0 [.string n0] (fun _ => True) (fun _ => False) rfl rfl ?aP (fun _ hk => hk.elim) ?aF ?aO ?aB ?aS ?aL ?_; (case aP => exact rfl); (case aB => exact (yq0 HB.out)); (case aF => exact (fun _ _ => trivial)); (case aO => exact (yq7 HR.out)); (case aS => exact (zaq (yq0 HB.out))); (case aL => have := H10.out; omega); intro v_ w_ ho hb hg hat; have n0_ := zaa.mk (hb); have n1_ := zaa.mk (ho); clear HB HR; have HB := n0_; have HR := n1_; clear n0_ n1_ ho hb hg hat) | ((with_reducible refine (snx_calls A0 c0 l n0 _ (Kd.zaS HC.out (yq0 HB.out)) HL.out HGG.out.1 HGG.out.2).mono ?_); rintro e w8 ⟨rfl, hb⟩; have n0_ := zaa.mk (Kd.za3 HR.out hb); have n1_ := zaa.mk (Below.trans HB.out (Below.mono hb (zaq HB.out))); clear HB HR; have HR := n0_; have HB := n1_; clear n0_ n1_ hb) | fail)
     go_roundg k1
     case measure => have := HX.out.2.2.1; have := HX.out.2.2.2; have := H10.out; omega
     case rel => exact ⟨_, out ++ [n0], rfl, ⟨HNX.out.1.trans HX.out.1, HNX.out.2, by rw [List.length_append]; have := H10.out; show out.length + 1 ≤ 10; omega, yq44 HX.out⟩, HR, HB⟩
end Go.Proofs.YtfafjbolmeimmaaGreatDoor.P
namespace Go.Proofs.YtfafjbolmeimmaaGreatDoor.P
open Go.RowKit Go.Proofs.YtfafjbolmeimmaaGreatDoorW.PrintWords Go.Proofs.YtfafjbolmeimmaaGreatDoorW.PrintLast Go.Proofs.YtfafjbolmeimmaaGreatDoorW.PrintMore
set_option linter.unusedVariables false
set_option linter.unusedSimpArgs false
theorem nameB_good {n : ByteArray} (h : nameB n = true) : goodN n := by
 obtain ⟨h1, h2⟩ := Bool.and_eq_true_iff.1 h
 have h1 := of_decide_eq_true h1
 refine ⟨h1, fun e => ?_⟩
 have h3 := List.all_eq_true.1 h2 0 (List.mem_range'.2 ⟨0, yq9, rfl⟩)
 unfold nmAt at h3
 simp [e] at h3
theorem okC_of {l : List LO} (h : lsV l = 0) : okC l := by
 unfold lsV at h
 split at h
 ·cases h
 split at h
 ·cases h
 rename_i hb
 intro x hx
 obtain ⟨j, hj, rfl⟩ := List.getElem_of_mem hx
 have h1 : lsBad l j = false := by
  cases h2 : lsBad l j with
  | false => rfl
  | true => exact absurd (List.any_eq_true.2 ⟨j, List.mem_range.2 hj, h2⟩) hb
 have e : zao l (j : Int) = l[j] := by simp [zao, hj]
 unfold lsBad at h1
 rw [e] at h1
 have h2 : okLB l[j] = true := by
  cases h3 : okLB l[j] with
  | true => rfl
  | false => rw [h3] at h1; simp at h1
 unfold okLB okLoc loc1 at h2
 simp only [Bool.and_eq_true] at h2
 obtain ⟨⟨⟨⟨⟨⟨⟨h, -⟩, -⟩, -⟩, -⟩, -⟩, -⟩, -⟩ := h2
 obtain ⟨⟨⟨⟨⟨-, h⟩, -⟩, -⟩, -⟩, -⟩ := h
 rcases Bool.or_eq_true_iff.1 h with h | h
 ·exact .inl (beq_iff_eq.1 h)
 exact .inr (nameB_good h)
def coV (l : List LO) (n : ByteArray) : List ByteArray := if lsV l = 0 then if nameB n = true then chV l n else [] else []
set_option maxHeartbeats 4000000 in
theorem sco_calls (A0 : Option Addr) (c0 : Nat) (l : List LO) (n : ByteArray) (w : World) (hC : Kd.C k31 w A0 l.length l) (hc : l.length ≤ c0) (hs : lsS l = true) (hn : smallT n = true) :
  Calls Tryz.prog 25 #[.slice A0 l.length c0, .string n] w fun e w' => ∃ v : Value, e = .returned v ∧ Kd.R Kd.string 9 w' w.heap.size (fun _ => True) v (coV l n) ∧ Below w.heap.size w w' := by
 have HC := zaa.mk hC
 have HL := zaa.mk (lsS_len hs)
 have HF : zaa (Calls Tryz.prog 14 #[.slice A0 l.length c0] w fun e w' => e = .returned (.int .i64 (lsV l)) ∧ Below w.heap.size w w') := ⟨spec_LocalesFault.calls A0 c0 l _ w hC hc (by unfold spec_LocalesFault.f; rw [if_pos hs])⟩
 have HM : zaa (CW w 32 #[.string n] (.bool (nameB n))) := ⟨cw_sName n hn⟩
 clear hC hc hs hn
 by_cases h0 : lsV l = 0
 case neg =>
  have HV : zaa (coV l n = []) := ⟨if_neg h0⟩
  have g1 : (lsV l == 0) = false := beq_eq_false_iff_ne.2 h0
  have g2 : (lsV l != 0) = true := by rw [bne, g1]; rfl
  obtain ⟨z, hz⟩ : ∃ z, lsV l = z := ⟨_, rfl⟩
  rw [hz] at HF g1 g2
  clear h0 hz
  go_enter Tryz.func25, Tryz.ntmps25
  go_wp2_with (first | ((with_reducible refine HF.out.mono ?_); rintro e w1 ⟨rfl, hb⟩; have HB := zaa.mk hb; clear hb) | ((with_reducible refine zaU (N := 13) rfl ?_); refine Kd.R_lit Kd.string (w0 := w) w.heap.size 9 rfl (N := 13) rfl (xs := []) (inner := []) (ok := fun _ => True) (okp := fun _ => False) ?hr (Reps.none _ _) (fun k hk => hk.elim) ?hf ?hB ?hs yq21 ?_; (case hr => first | (go_simp; done) | (go_simp; rfl)); (case hf => trivial); (case hB => exact HB.out); (case hs => exact HB.out.size); intro v_ w2 ho hb hg hat; have HR := zaa.mk ho; have HBn := zaa.mk hb; clear HB; have HB := HBn; clear HBn ho hb hg hat) | fail)
  go_ret
  exact ⟨_, rfl, by rw [HV.out]; exact HR.out, HB.out⟩
 have HK := zaa.mk (okC_of h0)
 rw [h0] at HF
 cases hb0 : nameB n with
 | false =>
  have HV : zaa (coV l n = []) := ⟨by unfold coV; rw [if_pos h0, if_neg (by rw [hb0]; simp)]⟩
  rw [hb0] at HM
  clear h0 hb0
  go_enter Tryz.func25, Tryz.ntmps25
  go_wp2_with (first | ((with_reducible refine HF.out.mono ?_); rintro e w1 ⟨rfl, hb⟩; have HB := zaa.mk hb; clear hb) | ((with_reducible refine (CW.go HM.out HB.out).mono ?_); rintro e w3 ⟨rfl, hb⟩; have HBn := zaa.mk (Below.trans HB.out (Below.mono hb (zaq HB.out))); clear HB; have HB := HBn; clear HBn hb) | ((with_reducible refine zaU (N := 13) rfl ?_); refine Kd.R_lit Kd.string (w0 := w) w.heap.size 9 rfl (N := 13) rfl (xs := []) (inner := []) (ok := fun _ => True) (okp := fun _ => False) ?hr (Reps.none _ _) (fun k hk => hk.elim) ?hf ?hB ?hs yq21 ?_; (case hr => first | (go_simp; done) | (go_simp; rfl)); (case hf => trivial); (case hB => exact HB.out); (case hs => exact HB.out.size); intro v_ w2 ho hb hg hat; have HR := zaa.mk ho; have HBn := zaa.mk hb; clear HB; have HB := HBn; clear HBn ho hb hg hat) | fail)
  go_ret
  exact ⟨_, rfl, by rw [HV.out]; exact HR.out, HB.out⟩
 | true =>
  have HV : zaa (coV l n = chV l n) := ⟨by unfold coV; rw [if_pos h0, if_pos hb0]⟩
  have HG := zaa.mk (nameB_good hb0)
  rw [hb0] at HM
  clear h0 hb0
  go_enter Tryz.func25, Tryz.ntmps25
  go_wp2_with (first | ((with_reducible refine HF.out.mono ?_); rintro e w1 ⟨rfl, hb⟩; have HB := zaa.mk hb; clear hb) | ((with_reducible refine (CW.go HM.out HB.out).mono ?_); rintro e w3 ⟨rfl, hb⟩; have HBn := zaa.mk (Below.trans HB.out (Below.mono hb (zaq HB.out))); clear HB; have HB := HBn; clear HBn hb) | ((with_reducible refine (sch_calls A0 c0 l n _ (Kd.zaS HC.out HB.out) HL.out HK.out HG.out).mono ?_); rintro e w4 ⟨v_, rfl, ho, hb⟩; have HR := zaa.mk (Kd.R_lower ho (zaq HB.out)); have HBn := zaa.mk (Below.trans HB.out (Below.mono hb (zaq HB.out))); clear HB; have HB := HBn; clear HBn ho hb) | fail)
  go_ret
  exact ⟨_, rfl, by rw [HV.out]; exact HR.out, HB.out⟩
end Go.Proofs.YtfafjbolmeimmaaGreatDoor.P
