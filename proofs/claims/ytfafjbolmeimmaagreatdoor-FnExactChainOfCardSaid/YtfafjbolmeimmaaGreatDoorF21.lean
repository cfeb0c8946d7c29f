/- Parts of a proof: words of the print tool that this claim uses, or plain lists. -/
import Derived.Test.YtfafjbolmeimmaaGreatDoorAb
import Derived.Test.YtfafjbolmeimmaaGreatDoorF19
import Derived.Test.YtfafjbolmeimmaaGreatDoorXLfA
import Derived.Test.YtfafjbolmeimmaaGreatDoorXLfB
import Derived.Test.YtfafjbolmeimmaaGreatDoorXLfC
import Derived.Test.YtfafjbolmeimmaaGreatDoorXLfE
import Derived.Test.YtfafjbolmeimmaaGreatDoorXLfF
import Derived.Test.YtfafjbolmeimmaaGreatDoorXLfG
import Derived.Test.YtfafjbolmeimmaaGreatDoorF20
import Derived.Test.YtfafjbolmeimmaaGreatDoorF17
import Derived.Laws.Cover1
import Derived.Deep.CutBlock
import Derived.Test.YtfafjbolmeimmaaGreatDoorF7
namespace Go.Proofs.YtfafjbolmeimmaaGreatDoor.P
open Go.RowKit Go.Proofs.YtfafjbolmeimmaaGreatDoorW.PrintWords Go.Proofs.YtfafjbolmeimmaaGreatDoorW.PrintLast Go.Proofs.YtfafjbolmeimmaaGreatDoorW.PrintMore
set_option linter.unusedVariables false
set_option linter.unusedSimpArgs false
def zaB.f (a0_0 : ByteArray) (a0_1 : ByteArray) (a0_2 : ByteArray) (a0_3 : ByteArray) (a0_4 : ByteArray) (l0_5 : List Int) (a0_6 : Int) (l0_7 : List S58) (a0_8 : ByteArray) (a0_9 : ByteArray) (a0_10 : ByteArray) (a0_11 : ByteArray) (l0_12 : List ByteArray) (l0_13 : List ByteArray) (a0_14 : ByteArray) : Option Int := if smallLoc a0_0 a0_1 a0_2 a0_3 a0_4 l0_5 l0_7 a0_8 a0_9 a0_10 a0_11 l0_12 l0_13 a0_14 = true then some (if okLoc a0_0 a0_1 a0_2 a0_3 a0_4 l0_5 a0_6 l0_7 a0_8 a0_9 a0_10 a0_11 l0_12 l0_13 a0_14 = true then 0 else 1) else none
theorem bad_all (p1 p2 p3 p4 p5 p6 p7 p8 : Bool) : (((((((!p1 || !p2) || !p3) || !p4) || !p5) || !p6) || !p7) || !p8) = !(p1 && p2 && p3 && p4 && p5 && p6 && p7 && p8) := by
 cases p1 <;> cases p2 <;> cases p3 <;> cases p4 <;> cases p5 <;> cases p6 <;> cases p7 <;> cases p8 <;> rfl
set_option maxHeartbeats 8000000 in
set_option maxRecDepth 1000000 in
theorem zaB.calls (a0_0 : ByteArray) (a0_1 : ByteArray) (a0_2 : ByteArray) (a0_3 : ByteArray) (a0_4 : ByteArray) (A0_5 : Option Addr) (c0_5 : Nat) (l0_5 : List Int) (a0_6 : Int) (A0_7 : Option Addr) (c0_7 : Nat) (l0_7 : List S58) (a0_8 : ByteArray) (a0_9 : ByteArray) (a0_10 : ByteArray) (a0_11 : ByteArray) (A0_12 : Option Addr) (c0_12 : Nat) (l0_12 : List ByteArray) (A0_13 : Option Addr) (c0_13 : Nat) (l0_13 : List ByteArray) (a0_14 : ByteArray) (r : Int) (w : World) (hr0_5 : Kd.C (Kd.int .i64) w A0_5 l0_5.length l0_5) (hc0_5 : l0_5.length ≤ c0_5) (hr0_7 : Kd.C k58 w A0_7 l0_7.length l0_7) (hc0_7 : l0_7.length ≤ c0_7) (hr0_12 : Kd.C Kd.string w A0_12 l0_12.length l0_12) (hc0_12 : l0_12.length ≤ c0_12) (hr0_13 : Kd.C Kd.string w A0_13 l0_13.length l0_13) (hc0_13 : l0_13.length ≤ c0_13) (hG : GT w) (h : zaB.f a0_0 a0_1 a0_2 a0_3 a0_4 l0_5 a0_6 l0_7 a0_8 a0_9 a0_10 a0_11 l0_12 l0_13 a0_14 = some r) :
  Calls Tryz.prog 11 #[.agg #[.string a0_0, .string a0_1, .string a0_2, .string a0_3, .string a0_4, .slice A0_5 l0_5.length c0_5, .int .i64 a0_6, .slice A0_7 l0_7.length c0_7, .string a0_8, .string a0_9, .string a0_10, .string a0_11, .slice A0_12 l0_12.length c0_12, .slice A0_13 l0_13.length c0_13, .string a0_14]] w fun e w' => e = .returned (.int .i64 r) ∧ Below w.heap.size w w' := by
 unfold zaB.f at h
 split at h
 case isFalse => cases h
 rename_i hs
 have hr := Option.some.inj h
 have SM := zaa.mk hs; have HG := zaa.mk hG
 obtain ⟨⟨s0, s1, s2, s3, s4, s8, s9, s10, s11, s14⟩, t5, t7, q7, t12, q12, t13, q13⟩ := small_parts' hs
 have K5 := zaa.mk hr0_5; have K7 := zaa.mk hr0_7; have K12 := zaa.mk hr0_12; have K13 := zaa.mk hr0_13
 go_enter Tryz.func11, Tryz.ntmps11
 refine wp_seq (lf_0 _ ?_)
 intros
 rename_i w0 L0
 change Code.wp _ _ _ _ _
 refine wp_seq (lf_A SM L0 _ ?_)
 intros
 rename_i w1 B1 L1
 change Code.wp _ _ _ _ _
 refine wp_seq (lf_B SM HG L1 _ ?_)
 intros
 rename_i w2 B2 L2
 change Code.wp _ _ _ _ _
 refine wp_seq (lf_C L2 _ ?_)
 intros
 rename_i w3 B3 L3
 change Code.wp _ _ _ _ _
 refine wp_seq (lf_D ⟨t5⟩ K5 L3 _ ?_)
 intros
 rename_i w4 B4 L4
 change Code.wp _ _ _ _ _
 refine wp_seq (lf_E SM HG K7 L4 _ ⟨fun _ _ n _ _ h => by cases n <;> exact h⟩ ?_)
 intros
 rename_i w5 B5 L5
 change Code.wp _ _ _ _ _
 refine wp_seq (lf_F SM HG L5 _ ?_)
 intros
 rename_i w6 B6 L6
 change Code.wp _ _ _ _ _
 refine wp_seq (lf_G SM HG K12 K13 L6 _ ?_)
 intros
 rename_i w7 B7 L7
 change Code.wp _ _ _ _ _
 refine lf_H ⟨s14⟩ HG ⟨?_⟩ L7
 rw [B7.out, B6.out, B5.out, B4.out, B3.out, B2.out, B1.out, bad_all, ← hr]
 unfold okLoc
 generalize (loc1 a0_0 a0_1 l0_5 a0_6 l0_7 && [a0_2, a0_3, a0_4].all signB && (apartB a0_2 a0_4 && apartB a0_2 a0_3) && l0_5.all szB && plFrom l0_7 0 && [a0_8, a0_9, a0_10, a0_11].all frameB && (labelsB l0_12 13 && labelsB l0_13 7) && (!decide (50 < (a0_14.size : Int)) && okB a0_14)) = x
 cases x <;> rfl
end Go.Proofs.YtfafjbolmeimmaaGreatDoor.P
namespace Go.Proofs.YtfafjbolmeimmaaGreatDoor.P
open Go.RowKit Go.Proofs.YtfafjbolmeimmaaGreatDoorW.PrintWords Go.Proofs.YtfafjbolmeimmaaGreatDoorW.PrintLast Go.Proofs.YtfafjbolmeimmaaGreatDoorW.PrintMore
set_option linter.unusedVariables false
set_option linter.unusedSimpArgs false
def lsi_T : Bool × List (List Nat × List Nat) := (true, [([], []), ([0], [0]), ([1], [1]), ([2, 1], [2]), ([3], [3]), ([4, 3], [3, 4]), ([5, 3, 3], [3, 5]), ([6], [6]), ([6], [6]), ([8, 6], [6, 8]), ([7, 9, 6], [6, 7, 9]), ([10, 6], [6, 10]), ([11, 6], [6, 11]), ([6], [6]), ([13, 6], [6, 13]), ([12, 14, 6], [6, 12, 14]), ([6, 15, 3], [3, 6, 15]), ([3, 16], [3, 16])])
def lsi_B : List Nat := [0, 1, 3, 7, 15, 31, 63, 127, 127, 383, 1023, 2047, 4095, 127, 8319, 32767, 65535, 131071]
theorem lsi_tab : rtab .any (opsOf Tryz.f16 4) = lsi_T := by kernel_rfl
theorem lsi_bits : waitsOk lsi_T.2 lsi_B = true := by kernel_rfl
def impl_LocalesFault.f (l0 : List S31) : Option Int := if lsS l0 = true then some (lsV l0) else none
set_option maxHeartbeats 8000000 in
set_option maxRecDepth 1000000 in
theorem impl_LocalesFault.calls (A0 : Option Addr) (c0 : Nat) (l0 : List S31) (r : Int) (w : World) (hr0 : Kd.C k31 w A0 l0.length l0) (hc0 : l0.length ≤ c0) (hG : GT w) (h : impl_LocalesFault.f l0 = some r) :
  Calls Tryz.prog 16 #[.slice A0 l0.length c0] w fun e w' => e = .returned (.int .i64 r) ∧ Below w.heap.size w w' := by
 unfold impl_LocalesFault.f at h
 split at h
 case isFalse => cases h
 rename_i hS0
 obtain rfl := Option.some.inj h
 clear h
 have HB := zaa.mk (Below.refl w.heap.size w)
 have HG := zaa.mk hG; have HS := zaa.mk hS0; have HR := zaa.mk hr0
 have HN := zaa.mk (lsS_len hS0)
 clear hS0 hr0 hc0 hG
 go_enter Tryz.func16, Tryz.ntmps16
 go_wp2
 go_loopg [7] (l0.length + 1) (fun gk v7 wr => ∃ (x : Int) (i : Nat), v7 = .int .i64 x ∧ zaa (x = (i : Int)) ∧ zaa (i ≤ l0.length ∧ l0.length + 1 ≤ gk + i ∧ ∀ j, j < i → lsBad l0 j = false) ∧ zaa (Below w.heap.size w wr))
 case atStart => exact ⟨0, 0, rfl, ⟨rfl⟩, ⟨Nat.zero_le _, Nat.le_refl _, fun j hj => absurd hj (Nat.not_lt_zero _)⟩, ⟨(yq25 HB.out)⟩⟩
 case round =>
  clear HB
  obtain ⟨x, i, rfl, HXI, HI, HB⟩ := hrel
  cases gk with
  | zero => exact absurd HI.out.2.1 (yq27 HI.out)
  | succ k1 =>
   by_cases hlt : i < l0.length
   case neg =>
    have g1 : decide (x < (l0.length : Int)) = false := decide_eq_false (yq15 HXI.out)
    by_cases c50 : (l0.length : Int) > 50
    ·have HV := zaa.mk (lsV_long c50)
     have g0 : (50 < (l0.length : Int)) = True := eq_true c50
     clear hlt c50
     go_wp2
     go_ret
     exact ⟨by rw [HV.out]; rfl, (yq25 HB.out)⟩
    have HV := zaa.mk (lsV_good c50 (fun j hj => HI.out.2.2 j yq9))
    have g0 : (50 < (l0.length : Int)) = False := eq_false c50
    clear hlt c50
    go_wp2
    go_ret
    exact ⟨by rw [HV.out]; rfl, (yq25 HB.out)⟩
   have g1 : decide (x < (l0.length : Int)) = true := decide_eq_true (yq15 HXI.out)
   have g2 : (0 ≤ x) = True := eq_true (yq15 HXI.out)
   have g3 : (x < (l0.length : Int)) = True := eq_true (yq15 HXI.out)
   have HL := zaa.mk hlt
   obtain ⟨ad, A5, c5, A7, c7, A12, c12, A13, c13, e, hw⟩ := row_at HR.out x (yq15 HXI.out) (yq15 HXI.out)
   have HY0 := zaa.mk (smL_at HS.out hlt)
   have HY : zaa (smLB (zao l0 x) = true) := ⟨by rw [HXI.out]; exact HY0.out⟩
   clear HY0
   obtain ⟨y, hy⟩ : ∃ y, zao l0 x = y := ⟨_, rfl⟩
   have HX : zaa (lsBad l0 i = (!okLB y || (decide (0 < i) && !Op.bytesLess (zao l0 ((i - 1 : Nat) : Int)).f0.toList y.f0.toList))) := ⟨by rw [← hy, HXI.out]; rfl⟩
   rw [hy] at hw HY
   have RW := zaa.mk hw
   cases e
   clear hw hy hlt
   have CL : zaa (∀ w1, Below w.heap.size w w1 → Calls Tryz.prog 11 #[.agg #[.string y.f0, .string y.f1, .string y.f2, .string y.f3, .string y.f4, .slice A5 y.f5.length c5, .int .i64 y.f6, .slice A7 y.f7.length c7, .string y.f8, .string y.f9, .string y.f10, .string y.f11, .slice A12 y.f12.length c12, .slice A13 y.f13.length c13, .string y.f14]] w1 fun e w' => e = .returned (.int .i64 (if okLB y = true then 0 else 1)) ∧ Below w1.heap.size w1 w') := ⟨fun w1 hb => zaB.calls y.f0 y.f1 y.f2 y.f3 y.f4 A5 c5 y.f5 y.f6 A7 c7 y.f7 y.f8 y.f9 y.f10 y.f11 A12 c12 y.f12 A13 c13 y.f13 y.f14 _ w1 (RW.out.step hb).r5 RW.out.s5 (RW.out.step hb).r7 RW.out.s7 (RW.out.step hb).r12 RW.out.s12 (RW.out.step hb).r13 RW.out.s13 (GT_below HG.out hb) (if_pos HY.out)⟩
   obtain ⟨r0, hr0⟩ : ∃ r0 : Int, (if okLB y = true then 0 else 1) = r0 := ⟨_, rfl⟩
   rw [hr0] at CL
   obtain ⟨q0, q1, q2, q3, q4, q5, q6, q7, q8, q9, q10, q11, q12, q13, q14, _, _, _, _, _, _, _, _⟩ := RW.out.step HB.out
   go_upto_region 4 with (first | ((with_reducible refine zaU (N := 4) rfl ?_); refine zba ?hg (N := 4) ?hd (cs := #[.string ⟨#[]⟩, .string ⟨#[]⟩, .string ⟨#[]⟩, .string ⟨#[]⟩, .string ⟨#[]⟩, .slice none 0 0, .int .i64 0, .slice none 0 0, .string ⟨#[]⟩, .string ⟨#[]⟩, .string ⟨#[]⟩, .string ⟨#[]⟩, .slice none 0 0, .slice none 0 0, .string ⟨#[]⟩]) (t := 31) ?hr ?_; (case hd => rfl); (case hg => rfl); (case hr => first | (go_simp; done) | (go_simp; rfl)); intro gc hg wa hbox hb; have M : zaa (BX w wa gc 31 #[.string ⟨#[]⟩, .string ⟨#[]⟩, .string ⟨#[]⟩, .string ⟨#[]⟩, .string ⟨#[]⟩, .slice none 0 0, .int .i64 0, .slice none 0 0, .string ⟨#[]⟩, .string ⟨#[]⟩, .string ⟨#[]⟩, .string ⟨#[]⟩, .slice none 0 0, .slice none 0 0, .string ⟨#[]⟩]) := ⟨⟨zam HB.out hb, hbox, by rw [hg]; exact zaq HB.out⟩⟩; clear hb hg hbox) | ((with_reducible refine gate_store (t := 31) (p := 4) rfl ?_); refine wpList_plain rfl (fun K_ hK_ => wp_store_row 31 (.tmp 4) (.tmp 11) rfl gc #[.string y.f0, .string y.f1, .string y.f2, .string y.f3, .string y.f4, .slice A5 y.f5.length c5, .int .i64 y.f6, .slice A7 y.f7.length c7, .string y.f8, .string y.f9, .string y.f10, .string y.f11, .slice A12 y.f12.length c12, .slice A13 y.f13.length c13, .string y.f14] rfl rfl 31 #[.string ⟨#[]⟩, .string ⟨#[]⟩, .string ⟨#[]⟩, .string ⟨#[]⟩, .string ⟨#[]⟩, .slice none 0 0, .int .i64 0, .slice none 0 0, .string ⟨#[]⟩, .string ⟨#[]⟩, .string ⟨#[]⟩, .string ⟨#[]⟩, .slice none 0 0, .slice none 0 0, .string ⟨#[]⟩] M.out.k (show (Tryz.prog.info? 31).map (·.size) = some 15 by kernel_rfl) rfl (by simp [Value.oneCell']) (hK_ _ _ ?_)); have M1 := zaa.mk (M.out.row #[.string y.f0, .string y.f1, .string y.f2, .string y.f3, .string y.f4, .slice A5 y.f5.length c5, .int .i64 y.f6, .slice A7 y.f7.length c7, .string y.f8, .string y.f9, .string y.f10, .string y.f11, .slice A12 y.f12.length c12, .slice A13 y.f13.length c13, .string y.f14]); clear M; generalize World.setRow _ _ _ = wq at M1 ⊢; have M := M1; clear M1) | fail)
   clear q0 q1 q2 q3 q4 q5 q6 q7 q8 q9 q10 q11 q12 q13 q14
   cases hk : okLB y
   have HV := zaa.mk (lsV_bad HL.out (show lsBad l0 i = true by rw [HX.out, hk]; rfl))
   obtain rfl : r0 = 1 := by rw [← hr0, hk]; rfl
   clear hr0 hk
   rotate_left
   obtain rfl : r0 = 0 := by rw [← hr0, hk]; rfl
   clear hr0
   by_cases hi : i = 0
   have HO := zaa.mk (show lsBad l0 i = false by rw [HX.out, hk, hi]; rfl)
   have g4 : decide (0 < x) = false := decide_eq_false (yq15 HXI.out)
   have g5 : (0 < x) = False := eq_false (yq15 HXI.out)
   clear hk hi
   rotate_left
   obtain ⟨x1, hx1⟩ : ∃ x1 : Int, x1 = x - 1 := ⟨_, rfl⟩
   have e1 : IntKind.i64.wrap (x - 1) = x1 := by rw [zaE, w64 (yq33 HXI.out HL.out HN.out) (yq33 HXI.out HL.out HN.out), hx1]
   have ei : x1 = ((i - 1 : Nat) : Int) := by have := HXI.out; omega
   have g4 : decide (0 < x) = true := decide_eq_true (yq15 HXI.out)
   have g5 : (0 < x) = True := eq_true (yq15 HXI.out)
   have g6 : (0 ≤ x1) = True := eq_true yq9
   have g7 : (x1 < (l0.length : Int)) = True := eq_true (yq15 HL.out)
   obtain ⟨ad2, B5, d5, B7, d7, B12, d12, B13, d13, e2, hw2⟩ := row_at HR.out x1 yq9 (yq15 HL.out)
   cases e2
   obtain ⟨z, hz⟩ : ∃ z, zao l0 x1 = z := ⟨_, rfl⟩
   rw [hz] at hw2
   have PW := zaa.mk hw2.x0
   rw [← ei, hz, hk] at HX
   have h9 : decide (0 < i) = true := decide_eq_true yq9
   clear hw2 hz ei hx1 hk hi
   cases hb0 : Op.bytesLess z.f0.toList y.f0.toList
   have HV := zaa.mk (lsV_bad HL.out (show lsBad l0 i = true by rw [HX.out, hb0, h9]; rfl))
   clear h9
   rotate_left
   have HO := zaa.mk (show lsBad l0 i = false by rw [HX.out, hb0]; simp)
   clear h9
   all_goals
    refine sn_ (n := 18) (S := fun w' => BX w w' gc 31 #[.string y.f0, .string y.f1, .string y.f2, .string y.f3, .string y.f4, .slice A5 y.f5.length c5, .int .i64 y.f6, .slice A7 y.f7.length c7, .string y.f8, .string y.f9, .string y.f10, .string y.f11, .slice A12 y.f12.length c12, .slice A13 y.f13.length c13, .string y.f14]) yq10 rfl yq30 M.out.drew (fun hHeld => ?_)
    refine zbo lsi_tab lsi_bits (fun HT_ HW_ => ?_)
    generalize wq.drew = w3 at hHeld ⊢
    clear M
    repeat (first | (refine pn_ 12 (v := ?_) (a' := ?_) rfl rfl HT_ yq10 (fun _ _ _ h => h) (Or.inl ⟨yq30, ?_⟩) ?_ ?_; rotate_left; (intro w'; go_simp; with_reducible rfl); rotate_left; (simp only [Act.put, Nat.reduceAdd, List.setIfInBounds_toArray, List.set_cons_zero, List.set_cons_succ, zaE, zaH]; rfl)) | (refine pn_ 12 (v := undef) (a' := ?_) rfl rfl HT_ yq10 (fun _ _ _ h => h) (Or.inr ⟨yq30, rfl⟩) ?_ ?_; rotate_left; (simp only [Act.put, Nat.reduceAdd, List.setIfInBounds_toArray, List.set_cons_zero, List.set_cons_succ, zaE, zaH]; rfl)) | (refine tn_ 12 (v := ?_) (a' := ?_) rfl rfl HT_ HW_ yq10 (fun _ _ _ h => h) (Or.inl ⟨yq30, ?_⟩) hHeld ?_ ?_; rotate_left; (intro w' hS; obtain ⟨q0, q1, q2, q3, q4, q5, q6, q7, q8, q9, q10, q11, q12, q13, q14⟩ := hS.at; (try have hp := cell_step hS.b PW.out); go_simp; with_reducible rfl); rotate_left; (simp only [Act.put, Nat.reduceAdd, List.setIfInBounds_toArray, List.set_cons_zero, List.set_cons_succ, zaE, zaH]; rfl)) | (refine on_ 12 rfl rfl HT_ yq10 (fun K hK => ?_); refine goes_ Tryz.func11 yq10 rfl #[.agg #[.string y.f0, .string y.f1, .string y.f2, .string y.f3, .string y.f4, .slice A5 y.f5.length c5, .int .i64 y.f6, .slice A7 y.f7.length c7, .string y.f8, .string y.f9, .string y.f10, .string y.f11, .slice A12 y.f12.length c12, .slice A13 y.f13.length c13, .string y.f14]] yq30 rfl rfl yq14 ?_; (with_reducible refine (CL.out _ hHeld.b).mono ?_); rintro e wn ⟨rfl, hb⟩; refine ⟨_, rfl, ?_⟩; refine hK.out _ _ (hHeld.step hb) (fun hHeld => ?_); clear hK K; refine norm_ (a' := ?_) ?_ ?_; rotate_left; (simp only [Act.put, Nat.reduceAdd, List.setIfInBounds_toArray, List.set_cons_zero, List.set_cons_succ, zaE, zaH]; rfl)))
    refine dn_ HT_ yq10 ?_
    have HB2 := zaa.mk hHeld.b; clear HT_ HW_ hHeld
    go_wp2
   ·go_roundg k1
    case measure => have := HI.out; have := HL.out; omega
    case rel => exact ⟨_, i + 1, rfl, ⟨by rw [HXI.out]; show wrap64 _ = _; rw [w64 (yq19 HL.out HN.out) (yq19 HL.out HN.out)]; omega⟩, ⟨HL.out, by have := HI.out.2.1; omega, fun j hj => by rcases Nat.lt_succ_iff_lt_or_eq.1 hj with h1 | rfl; exact HI.out.2.2 j h1; exact HO.out⟩, HB2⟩
   ·go_ret
    exact ⟨by rw [HV.out]; rfl, HB2.out⟩
   ·go_roundg k1
    case measure => have := HI.out; have := HL.out; omega
    case rel => exact ⟨_, i + 1, rfl, ⟨by rw [HXI.out]; show wrap64 _ = _; rw [w64 (yq19 HL.out HN.out) (yq19 HL.out HN.out)]; omega⟩, ⟨HL.out, by have := HI.out.2.1; omega, fun j hj => by rcases Nat.lt_succ_iff_lt_or_eq.1 hj with h1 | rfl; exact HI.out.2.2 j h1; exact HO.out⟩, HB2⟩
   go_ret
   exact ⟨by rw [HV.out]; rfl, HB2.out⟩
end Go.Proofs.YtfafjbolmeimmaaGreatDoor.P
