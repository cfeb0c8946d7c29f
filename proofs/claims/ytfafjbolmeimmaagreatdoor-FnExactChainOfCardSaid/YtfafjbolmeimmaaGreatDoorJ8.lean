/- Written by a program of this session: plain Lean functions for Go functions, and for each the proof that the call comes to what the function says. -/
import Derived.Test.YtfafjbolmeimmaaGreatDoorAb
import Derived.Test.YtfafjbolmeimmaaGreatDoorF4
import Derived.Test.YtfafjbolmeimmaaGreatDoorJ7
namespace Go.Proofs.YtfafjbolmeimmaaGreatDoor.P
open Go.RowKit Go.Proofs.YtfafjbolmeimmaaGreatDoorW.PrintWords Go.Proofs.YtfafjbolmeimmaaGreatDoorW.PrintLast Go.Proofs.YtfafjbolmeimmaaGreatDoorW.PrintMore
attribute [local go_sem] zbm zbn max_two min_two za9 za8 zbk zbj
set_option linter.unusedVariables false
set_option linter.unusedSimpArgs false
mutual
def zau.j0 : Nat → Int → Bool → Option (Int × Int)
 | 0, _, _ => none
 | k + 1, x0, x14 => if x14 = true then ((spec_l01Cased.f).bind fun t137 => (zau.l0 k x0 t137 0)) else (if x0 ≥ 8192 then (zau.j2 k x0 (decide (x0 < 9728))) else (zau.j2 k x0 false))
def zau.l0 : Nat → Int → List (S142) → Int → Option (Int × Int)
 | 0, _, _, _ => none
 | k + 1, x0, x4, x5 => if x5 < (x4.length : Int) then (if 0 ≤ x5 then (if (Int.tmod x0 256) ≥ ((rd_T142 x4 x5).f0) then (if (Int.tmod x0 256) ≤ ((rd_T142 x4 x5).f1) then (some ((rd_T142 x4 x5).f2, wrap64 (Int.tdiv x0 256))) else (zau.l0 k x0 x4 (wrap64 (x5 + 1)))) else (zau.l0 k x0 x4 (wrap64 (x5 + 1)))) else (none)) else (some (0, 0))
def zau.j2 : Nat → Int → Bool → Option (Int × Int)
 | 0, _, _ => none
 | k + 1, x0, x52 => if x52 = true then (if (Int.tmod x0 512) ≥ 416 then (some (0, 0)) else (if (Int.tmod x0 512) < 208 then (some (4, 1)) else (some (5, 1)))) else ((spec_l01Rows.f).bind fun t143 => (zau.l1 k x0 t143 0))
def zau.l1 : Nat → Int → List (S142) → Int → Option (Int × Int)
 | 0, _, _, _ => none
 | k + 1, x0, x7, x8 => if x8 < (x7.length : Int) then (if 0 ≤ x8 then (if x0 ≥ ((rd_T142 x7 x8).f0) then (if x0 ≤ ((rd_T142 x7 x8).f1) then (some ((rd_T142 x7 x8).f2, (rd_T142 x7 x8).f3)) else (zau.l1 k x0 x7 (wrap64 (x8 + 1)))) else (zau.l1 k x0 x7 (wrap64 (x8 + 1)))) else (none)) else (some (0, 0))
end
def zau.f (k : Nat) (a0 : Int) : Option (Int × Int) := if a0 ≥ 512 then (zau.j0 k a0 (decide (a0 < 1280))) else (zau.j0 k a0 false)
set_option maxHeartbeats 8000000 in
set_option maxRecDepth 100000 in
theorem zau.calls (k : Nat) (a0 : Int) (r1 : Int) (r2 : Int) (w : World) (h : zau.f k a0 = some (r1, r2)) :
  Calls Tryz.prog 98 #[.int .i64 a0] w fun e w' => e = .returned (.tuple #[.int .i64 r1, .int .i64 r2]) ∧ Below w.heap.size w w' := by
 have HB := zaa.mk (Below.refl w.heap.size w)
 have H : (if a0 ≥ 512 then (zau.j0 k a0 (decide (a0 < 1280))) else (zau.j0 k a0 false)) = some (r1, r2) := h
 clear h; have HC2 := zaa.mk H; clear H
 go_enter Tryz.func98, Tryz.ntmps98
 go_upto_region 1 with (fail)
 repeat (go_quiet (fail); go_upto_region 1 with (fail))
 go_cut [14] (fun v14 wc => ∃ (kq : Nat) (x14_1 : Bool), v14 = .bool x14_1 ∧ zaa (zau.j0 kq a0 x14_1 = some (r1, r2)) ∧ zaa (kq ≤ k) ∧ zaa (Below w.heap.size w wc))
 case first =>
  have H := HC2.out; clear HC2
  by_cases c3 : a0 ≥ 512
  ·rw [if_pos c3] at H
   have c3b0 : decide (512 ≤ a0) = true := decide_eq_true c3
   clear c3
   (first | rw [c3b0] | rw [c3b1] | (simp only [zaE, zaH]; rw [c3b0]) | skip)
   have H' := zaa.mk H; clear H
   go_wp2
   repeat (go_quiet (fail); try go_wp2)
   go_meet
   case rel => exact ⟨_, (decide (a0 < 1280)), yq3, H', ⟨yq34⟩, ⟨yq0 HB.out⟩⟩
  rw [if_neg c3] at H
  have c3b0 : decide (512 ≤ a0) = false := decide_eq_false c3
  clear c3
  (first | rw [c3b0] | rw [c3b1] | (simp only [zaE, zaH]; rw [c3b0]) | skip)
  have H' := zaa.mk H; clear H
  go_wp2
  repeat (go_quiet (fail); try go_wp2)
  go_meet
  case rel => exact ⟨_, (false), yq3, H', ⟨yq34⟩, ⟨yq0 HB.out⟩⟩
 case rest =>
  clear HC2
  obtain ⟨kq, x14_1, rfl, HA, HJ1, HB⟩ := hcut
  cases kq with
  | zero => exact absurd HA.out (by simp [zau.j0])
  | succ kj1 =>
   have H := HA.out; clear HA
   simp only [zau.j0] at H
   by_cases c4 : x14_1 = true
   ·subst c4
    replace H : ((spec_l01Cased.f).bind fun t137 => (zau.l0 kj1 a0 t137 0)) = some (r1, r2) := by rw [if_pos rfl] at H; exact H
    replace H := Option.bind_eq_some_iff.mp H
    obtain ⟨t137, A50, H⟩ := H
    replace H : (zau.l0 kj1 a0 t137 0) = some (r1, r2) := H
    have A5 := zaa.mk A50; clear A50; have H' := zaa.mk H; clear H
    go_wp2_with (first | (go_at_call 119; (with_reducible refine (spec_l01Cased.calls  t137 _ A5.out).mono ?_); rintro e w6 ⟨v138, rfl, ho0, hb⟩; have n0_ := zaa.mk (Kd.R_lower ho0 (zaq (yq0 HB.out))); have n1_ := zaa.mk (zam (yq0 HB.out) hb); clear HB; have HO139 := n0_; have HB := n1_; clear n0_ n1_; (try clear hb); (try clear hb2); (try clear hk); (try clear hi); (try clear ho0)))
    repeat (go_quiet (first | (go_at_call 119; (with_reducible refine (spec_l01Cased.calls  t137 _ A5.out).mono ?_); rintro e w6 ⟨v138, rfl, ho0, hb⟩; have n0_ := zaa.mk (Kd.R_lower ho0 (zaq (yq0 HB.out))); have n1_ := zaa.mk (zam (yq0 HB.out) hb); clear HB; have HO139 := n0_; have HB := n1_; clear n0_ n1_; (try clear hb); (try clear hb2); (try clear hk); (try clear hi); (try clear ho0))); try go_wp2_with (first | (go_at_call 119; (with_reducible refine (spec_l01Cased.calls  t137 _ A5.out).mono ?_); rintro e w6 ⟨v138, rfl, ho0, hb⟩; have n0_ := zaa.mk (Kd.R_lower ho0 (zaq (yq0 HB.out))); have n1_ := zaa.mk (zam (yq0 HB.out) hb); clear HB; have HO139 := n0_; have HB := n1_; clear n0_ n1_; (try clear hb); (try clear hb2); (try clear hk); (try clear hi); (try clear ho0))))
    go_loopg [5] kj1 (fun kq v5 w' => ∃ (x5_2 : Int), v5 = .int .i64 x5_2 ∧ zaa (zau.l0 kq a0 t137 x5_2 = some (r1, r2)) ∧ zaa (kq ≤ kj1) ∧ zaa (Kd.R k142 142 w' w.heap.size (fun _ => True) v138 t137) ∧ zaa (Below w.heap.size w w'))
    case atStart => exact ⟨(0), yq3, H', ⟨Nat.le_refl _⟩, ⟨yq7 HO139.out⟩, ⟨yq0 HB.out⟩⟩
    case round =>
     clear H'
     try clear c4
     obtain ⟨x5_2, rfl, HA, HK2, HO_4, HB⟩ := hrel
     cases gk with
     | zero => exact absurd HA.out (by simp [zau.l0])
     | succ k2 =>
      have H := HA.out; clear HA
      simp only [zau.l0] at H
      by_cases c7 : x5_2 < (t137.length : Int)
      ·rw [if_pos c7] at H
       have c7b0 : decide (x5_2 < (t137.length : Int)) = true := decide_eq_true c7
       clear c7
       by_cases c8 : 0 ≤ x5_2
       ·rw [if_pos c8] at H
        have c8b0 : decide (0 ≤ x5_2) = true := decide_eq_true c8
        clear c8
        by_cases c9 : (Int.tmod a0 256) ≥ ((rd_T142 t137 x5_2).f0)
        ·rw [if_pos c9] at H
         have c9b0 : decide (((rd_T142 t137 x5_2).f0) ≤ (Int.tmod a0 256)) = true := decide_eq_true c9
         clear c9
         by_cases c10 : (Int.tmod a0 256) ≤ ((rd_T142 t137 x5_2).f1)
         ·rw [if_pos c10] at H
          have c10b0 : decide ((Int.tmod a0 256) ≤ ((rd_T142 t137 x5_2).f1)) = true := decide_eq_true c10
          clear c10
          simp only [Option.some.injEq, Prod.mk.injEq] at H
          obtain ⟨rfl, rfl⟩ := H
          obtain ⟨Ao11, co11, eo11⟩ := Kd.R_slice HO_4.out
          subst eo11
          have p140 : 0 ≤ (x5_2 : Int) := of_decide_eq_true yq1
          have q140 : x5_2 < (t137.length : Int) := of_decide_eq_true yq1
          obtain ⟨ad140, e140, hx140_0, hx140_1, hx140_2, hx140_3⟩ := at_T142 (Kd.zbl HO_4.out).2.2 x5_2 p140 q140
          cases e140
          replace p140 := eq_true p140
          replace q140 := eq_true q140
          have p141 : 0 ≤ (x5_2 : Int) := of_decide_eq_true yq1
          have q141 : x5_2 < (t137.length : Int) := of_decide_eq_true yq1
          obtain ⟨ad141, e141, hx141_0, hx141_1, hx141_2, hx141_3⟩ := at_T142 (Kd.zbl HO_4.out).2.2 x5_2 p141 q141
          obtain rfl : ad140 = ad141 := (by injection e141)
          replace p141 := eq_true p141
          replace q141 := eq_true q141
          have p142 : 0 ≤ (x5_2 : Int) := of_decide_eq_true yq1
          have q142 : x5_2 < (t137.length : Int) := of_decide_eq_true yq1
          obtain ⟨ad142, e142, hx142_0, hx142_1, hx142_2, hx142_3⟩ := at_T142 (Kd.zbl HO_4.out).2.2 x5_2 p142 q142
          obtain rfl : ad140 = ad142 := (by injection e142)
          replace p142 := eq_true p142
          replace q142 := eq_true q142
          go_wp2
          repeat (go_quiet (fail); try go_wp2)
          go_ret2
          exact ⟨yq4, yq0 HB.out⟩
         rw [if_neg c10] at H
         have c10b0 : decide ((Int.tmod a0 256) ≤ ((rd_T142 t137 x5_2).f1)) = false := decide_eq_false c10
         clear c10; have H' := zaa.mk H; clear H
         obtain ⟨Ao12, co12, eo12⟩ := Kd.R_slice HO_4.out
         subst eo12
         have p140 : 0 ≤ (x5_2 : Int) := of_decide_eq_true yq1
         have q140 : x5_2 < (t137.length : Int) := of_decide_eq_true yq1
         obtain ⟨ad140, e140, hx140_0, hx140_1, hx140_2, hx140_3⟩ := at_T142 (Kd.zbl HO_4.out).2.2 x5_2 p140 q140
         cases e140
         replace p140 := eq_true p140
         replace q140 := eq_true q140
         have p141 : 0 ≤ (x5_2 : Int) := of_decide_eq_true yq1
         have q141 : x5_2 < (t137.length : Int) := of_decide_eq_true yq1
         obtain ⟨ad141, e141, hx141_0, hx141_1, hx141_2, hx141_3⟩ := at_T142 (Kd.zbl HO_4.out).2.2 x5_2 p141 q141
         obtain rfl : ad140 = ad141 := (by injection e141)
         replace p141 := eq_true p141
         replace q141 := eq_true q141
         go_wp2
         repeat (go_quiet (fail); try go_wp2)
         go_roundg k2
         case measure => have := HJ1.out; have := HK2.out; omega
         case rel => exact ⟨(wrap64 (x5_2 + 1)), yq3, H', ⟨yq19 HJ1.out HK2.out⟩, ⟨yq7 HO_4.out⟩, ⟨yq0 HB.out⟩⟩
        rw [if_neg c9] at H
        have c9b0 : decide (((rd_T142 t137 x5_2).f0) ≤ (Int.tmod a0 256)) = false := decide_eq_false c9
        clear c9; have H' := zaa.mk H; clear H
        obtain ⟨Ao13, co13, eo13⟩ := Kd.R_slice HO_4.out
        subst eo13
        have p140 : 0 ≤ (x5_2 : Int) := of_decide_eq_true yq1
        have q140 : x5_2 < (t137.length : Int) := of_decide_eq_true yq1
        obtain ⟨ad140, e140, hx140_0, hx140_1, hx140_2, hx140_3⟩ := at_T142 (Kd.zbl HO_4.out).2.2 x5_2 p140 q140
        cases e140
        replace p140 := eq_true p140
        replace q140 := eq_true q140
        go_wp2
        repeat (go_quiet (fail); try go_wp2)
        go_roundg k2
        case measure => have := HJ1.out; have := HK2.out; omega
        case rel => exact ⟨(wrap64 (x5_2 + 1)), yq3, H', ⟨yq19 HJ1.out HK2.out⟩, ⟨yq7 HO_4.out⟩, ⟨yq0 HB.out⟩⟩
       rw [if_neg c8] at H
       exact absurd H yq21
      rw [if_neg c7] at H
      have c7b0 : decide (x5_2 < (t137.length : Int)) = false := decide_eq_false c7
      clear c7
      simp only [Option.some.injEq, Prod.mk.injEq] at H
      obtain ⟨rfl, rfl⟩ := H
      obtain ⟨Ao14, co14, eo14⟩ := Kd.R_slice HO_4.out
      subst eo14
      go_wp2
      repeat (go_quiet (fail); try go_wp2)
      go_ret2
      exact ⟨yq4, yq0 HB.out⟩
   replace c4 := Bool.eq_false_iff.mpr c4
   subst c4
   replace H : (if a0 ≥ 8192 then (zau.j2 kj1 a0 (decide (a0 < 9728))) else (zau.j2 kj1 a0 false)) = some (r1, r2) := by rw [if_neg (show ¬ (false = true) by decide)] at H; exact H
   have HC15 := zaa.mk H; clear H
   go_upto_region 9 with (fail)
   repeat (go_quiet (fail); go_upto_region 9 with (fail))
   go_cut [52] (fun v52 wc => ∃ (kq : Nat) (x52_14 : Bool), v52 = .bool x52_14 ∧ zaa (zau.j2 kq a0 x52_14 = some (r1, r2)) ∧ zaa (kq ≤ kj1) ∧ zaa (Below w.heap.size w wc))
   case first =>
    have H := HC15.out; clear HC15
    by_cases c16 : a0 ≥ 8192
    ·rw [if_pos c16] at H
     have c16b0 : decide (8192 ≤ a0) = true := decide_eq_true c16
     clear c16
     (first | rw [c16b0] | rw [c16b1] | (simp only [zaE, zaH]; rw [c16b0]) | skip)
     have H' := zaa.mk H; clear H
     go_wp2
     repeat (go_quiet (fail); try go_wp2)
     go_meet
     case rel => exact ⟨_, (decide (a0 < 9728)), yq3, H', ⟨yq24 HJ1.out⟩, ⟨yq0 HB.out⟩⟩
    rw [if_neg c16] at H
    have c16b0 : decide (8192 ≤ a0) = false := decide_eq_false c16
    clear c16
    (first | rw [c16b0] | rw [c16b1] | (simp only [zaE, zaH]; rw [c16b0]) | skip)
    have H' := zaa.mk H; clear H
    go_wp2
    repeat (go_quiet (fail); try go_wp2)
    go_meet
    case rel => exact ⟨_, (false), yq3, H', ⟨yq24 HJ1.out⟩, ⟨yq0 HB.out⟩⟩
   case rest =>
    clear HC15
    try clear c4
    obtain ⟨kq, x52_14, rfl, HA, HJ14, HB⟩ := hcut
    cases kq with
    | zero => exact absurd HA.out (by simp [zau.j2])
    | succ kj14 =>
     have H := HA.out; clear HA
     simp only [zau.j2] at H
     by_cases c17 : x52_14 = true
     ·subst c17
      replace H : (if (Int.tmod a0 512) ≥ 416 then (some (0, 0)) else (if (Int.tmod a0 512) < 208 then (some (4, 1)) else (some (5, 1)))) = some (r1, r2) := by rw [if_pos rfl] at H; exact H
      by_cases c18 : (Int.tmod a0 512) ≥ 416
      ·rw [if_pos c18] at H
       have c18b0 : decide (416 ≤ (Int.tmod a0 512)) = true := decide_eq_true c18
       clear c18
       simp only [Option.some.injEq, Prod.mk.injEq] at H
       obtain ⟨rfl, rfl⟩ := H
       go_wp2
       repeat (go_quiet (fail); try go_wp2)
       go_ret2
       exact ⟨yq4, yq0 HB.out⟩
      rw [if_neg c18] at H
      have c18b0 : decide (416 ≤ (Int.tmod a0 512)) = false := decide_eq_false c18
      clear c18
      by_cases c19 : (Int.tmod a0 512) < 208
      ·rw [if_pos c19] at H
       have c19b0 : decide ((Int.tmod a0 512) < 208) = true := decide_eq_true c19
       clear c19
       simp only [Option.some.injEq, Prod.mk.injEq] at H
       obtain ⟨rfl, rfl⟩ := H
       go_wp2
       repeat (go_quiet (fail); try go_wp2)
       go_ret2
       exact ⟨yq4, yq0 HB.out⟩
      rw [if_neg c19] at H
      have c19b0 : decide ((Int.tmod a0 512) < 208) = false := decide_eq_false c19
      clear c19
      simp only [Option.some.injEq, Prod.mk.injEq] at H
      obtain ⟨rfl, rfl⟩ := H
      go_wp2
      repeat (go_quiet (fail); try go_wp2)
      go_ret2
      exact ⟨yq4, yq0 HB.out⟩
     replace c17 := Bool.eq_false_iff.mpr c17
     subst c17
     replace H : ((spec_l01Rows.f).bind fun t143 => (zau.l1 kj14 a0 t143 0)) = some (r1, r2) := by rw [if_neg (show ¬ (false = true) by decide)] at H; exact H
     replace H := Option.bind_eq_some_iff.mp H
     obtain ⟨t143, A200, H⟩ := H
     replace H : (zau.l1 kj14 a0 t143 0) = some (r1, r2) := H
     have A20 := zaa.mk A200; clear A200; have H' := zaa.mk H; clear H
     go_wp2_with (first | (go_at_call 120; (with_reducible refine (spec_l01Rows.calls  t143 _ A20.out).mono ?_); rintro e w21 ⟨v144, rfl, ho0, hb⟩; have n0_ := zaa.mk (Kd.R_lower ho0 (zaq (yq0 HB.out))); have n1_ := zaa.mk (zam (yq0 HB.out) hb); clear HB; have HO145 := n0_; have HB := n1_; clear n0_ n1_; (try clear hb); (try clear hb2); (try clear hk); (try clear hi); (try clear ho0)))
     repeat (go_quiet (first | (go_at_call 120; (with_reducible refine (spec_l01Rows.calls  t143 _ A20.out).mono ?_); rintro e w21 ⟨v144, rfl, ho0, hb⟩; have n0_ := zaa.mk (Kd.R_lower ho0 (zaq (yq0 HB.out))); have n1_ := zaa.mk (zam (yq0 HB.out) hb); clear HB; have HO145 := n0_; have HB := n1_; clear n0_ n1_; (try clear hb); (try clear hb2); (try clear hk); (try clear hi); (try clear ho0))); try go_wp2_with (first | (go_at_call 120; (with_reducible refine (spec_l01Rows.calls  t143 _ A20.out).mono ?_); rintro e w21 ⟨v144, rfl, ho0, hb⟩; have n0_ := zaa.mk (Kd.R_lower ho0 (zaq (yq0 HB.out))); have n1_ := zaa.mk (zam (yq0 HB.out) hb); clear HB; have HO145 := n0_; have HB := n1_; clear n0_ n1_; (try clear hb); (try clear hb2); (try clear hk); (try clear hi); (try clear ho0))))
     go_loopg [8] kj14 (fun kq v8 w' => ∃ (x8_3 : Int), v8 = .int .i64 x8_3 ∧ zaa (zau.l1 kq a0 t143 x8_3 = some (r1, r2)) ∧ zaa (kq ≤ kj14) ∧ zaa (Kd.R k142 142 w' w.heap.size (fun _ => True) v144 t143) ∧ zaa (Below w.heap.size w w'))
     case atStart => exact ⟨(0), yq3, H', ⟨Nat.le_refl _⟩, ⟨yq7 HO145.out⟩, ⟨yq0 HB.out⟩⟩
     case round =>
      clear H'
      try clear c4
      try clear c17
      obtain ⟨x8_3, rfl, HA, HK3, HO_7, HB⟩ := hrel
      cases gk with
      | zero => exact absurd HA.out (by simp [zau.l1])
      | succ k3 =>
       have H := HA.out; clear HA
       simp only [zau.l1] at H
       by_cases c22 : x8_3 < (t143.length : Int)
       ·rw [if_pos c22] at H
        have c22b0 : decide (x8_3 < (t143.length : Int)) = true := decide_eq_true c22
        clear c22
        by_cases c23 : 0 ≤ x8_3
        ·rw [if_pos c23] at H
         have c23b0 : decide (0 ≤ x8_3) = true := decide_eq_true c23
         clear c23
         by_cases c24 : a0 ≥ ((rd_T142 t143 x8_3).f0)
         ·rw [if_pos c24] at H
          have c24b0 : decide (((rd_T142 t143 x8_3).f0) ≤ a0) = true := decide_eq_true c24
          clear c24
          by_cases c25 : a0 ≤ ((rd_T142 t143 x8_3).f1)
          ·rw [if_pos c25] at H
           have c25b0 : decide (a0 ≤ ((rd_T142 t143 x8_3).f1)) = true := decide_eq_true c25
           clear c25
           simp only [Option.some.injEq, Prod.mk.injEq] at H
           obtain ⟨rfl, rfl⟩ := H
           obtain ⟨Ao26, co26, eo26⟩ := Kd.R_slice HO_7.out
           subst eo26
           have p146 : 0 ≤ (x8_3 : Int) := of_decide_eq_true yq1
           have q146 : x8_3 < (t143.length : Int) := of_decide_eq_true yq1
           obtain ⟨ad146, e146, hx146_0, hx146_1, hx146_2, hx146_3⟩ := at_T142 (Kd.zbl HO_7.out).2.2 x8_3 p146 q146
           cases e146
           replace p146 := eq_true p146
           replace q146 := eq_true q146
           have p147 : 0 ≤ (x8_3 : Int) := of_decide_eq_true yq1
           have q147 : x8_3 < (t143.length : Int) := of_decide_eq_true yq1
           obtain ⟨ad147, e147, hx147_0, hx147_1, hx147_2, hx147_3⟩ := at_T142 (Kd.zbl HO_7.out).2.2 x8_3 p147 q147
           obtain rfl : ad146 = ad147 := (by injection e147)
           replace p147 := eq_true p147
           replace q147 := eq_true q147
           have p148 : 0 ≤ (x8_3 : Int) := of_decide_eq_true yq1
           have q148 : x8_3 < (t143.length : Int) := of_decide_eq_true yq1
           obtain ⟨ad148, e148, hx148_0, hx148_1, hx148_2, hx148_3⟩ := at_T142 (Kd.zbl HO_7.out).2.2 x8_3 p148 q148
           obtain rfl : ad146 = ad148 := (by injection e148)
           replace p148 := eq_true p148
           replace q148 := eq_true q148
           have p149 : 0 ≤ (x8_3 : Int) := of_decide_eq_true yq1
           have q149 : x8_3 < (t143.length : Int) := of_decide_eq_true yq1
           obtain ⟨ad149, e149, hx149_0, hx149_1, hx149_2, hx149_3⟩ := at_T142 (Kd.zbl HO_7.out).2.2 x8_3 p149 q149
           obtain rfl : ad146 = ad149 := (by injection e149)
           replace p149 := eq_true p149
           replace q149 := eq_true q149
           go_wp2
           repeat (go_quiet (fail); try go_wp2)
           go_ret2
           exact ⟨yq4, yq0 HB.out⟩
          rw [if_neg c25] at H
          have c25b0 : decide (a0 ≤ ((rd_T142 t143 x8_3).f1)) = false := decide_eq_false c25
          clear c25; have H' := zaa.mk H; clear H
          obtain ⟨Ao27, co27, eo27⟩ := Kd.R_slice HO_7.out
          subst eo27
          have p146 : 0 ≤ (x8_3 : Int) := of_decide_eq_true yq1
          have q146 : x8_3 < (t143.length : Int) := of_decide_eq_true yq1
          obtain ⟨ad146, e146, hx146_0, hx146_1, hx146_2, hx146_3⟩ := at_T142 (Kd.zbl HO_7.out).2.2 x8_3 p146 q146
          cases e146
          replace p146 := eq_true p146
          replace q146 := eq_true q146
          have p147 : 0 ≤ (x8_3 : Int) := of_decide_eq_true yq1
          have q147 : x8_3 < (t143.length : Int) := of_decide_eq_true yq1
          obtain ⟨ad147, e147, hx147_0, hx147_1, hx147_2, hx147_3⟩ := at_T142 (Kd.zbl HO_7.out).2.2 x8_3 p147 q147
          obtain rfl : ad146 = ad147 := (by injection e147)
          replace p147 := eq_true p147
          replace q147 := eq_true q147
          go_wp2
          repeat (go_quiet (fail); try go_wp2)
          go_roundg k3
          case measure => have := HJ1.out; have := HJ14.out; have := HK3.out; omega
          case rel => exact ⟨(wrap64 (x8_3 + 1)), yq3, H', ⟨yq33 HJ1.out HJ14.out HK3.out⟩, ⟨yq7 HO_7.out⟩, ⟨yq0 HB.out⟩⟩
         rw [if_neg c24] at H
         have c24b0 : decide (((rd_T142 t143 x8_3).f0) ≤ a0) = false := decide_eq_false c24
         clear c24; have H' := zaa.mk H; clear H
         obtain ⟨Ao28, co28, eo28⟩ := Kd.R_slice HO_7.out
         subst eo28
         have p146 : 0 ≤ (x8_3 : Int) := of_decide_eq_true yq1
         have q146 : x8_3 < (t143.length : Int) := of_decide_eq_true yq1
         obtain ⟨ad146, e146, hx146_0, hx146_1, hx146_2, hx146_3⟩ := at_T142 (Kd.zbl HO_7.out).2.2 x8_3 p146 q146
         cases e146
         replace p146 := eq_true p146
         replace q146 := eq_true q146
         go_wp2
         repeat (go_quiet (fail); try go_wp2)
         go_roundg k3
         case measure => have := HJ1.out; have := HJ14.out; have := HK3.out; omega
         case rel => exact ⟨(wrap64 (x8_3 + 1)), yq3, H', ⟨yq33 HJ1.out HJ14.out HK3.out⟩, ⟨yq7 HO_7.out⟩, ⟨yq0 HB.out⟩⟩
        rw [if_neg c23] at H
        exact absurd H yq21
       rw [if_neg c22] at H
       have c22b0 : decide (x8_3 < (t143.length : Int)) = false := decide_eq_false c22
       clear c22
       simp only [Option.some.injEq, Prod.mk.injEq] at H
       obtain ⟨rfl, rfl⟩ := H
       obtain ⟨Ao29, co29, eo29⟩ := Kd.R_slice HO_7.out
       subst eo29
       go_wp2
       repeat (go_quiet (fail); try go_wp2)
       go_ret2
       exact ⟨yq4, yq0 HB.out⟩
def spec_l01Cat.f (k : Nat) (a0 : Int) : Option (Int) := (zau.f k a0).bind fun bt150 => (some bt150.1)
set_option maxHeartbeats 8000000 in
set_option maxRecDepth 100000 in
theorem spec_l01Cat.calls (k : Nat) (a0 : Int) (r : Int) (w : World) (h : spec_l01Cat.f k a0 = some r) :
  Calls Tryz.prog 69 #[.int .i64 a0] w fun e w' => e = .returned (.int .i64 r) ∧ Below w.heap.size w w' := by
 have HB := zaa.mk (Below.refl w.heap.size w)
 have H : ((zau.f k a0).bind fun bt150 => (some bt150.1)) = some r := h
 clear h; replace H := Option.bind_eq_some_iff.mp H
 obtain ⟨⟨t150, t151⟩, A20, H⟩ := H
 replace H : (some t150) = some r := H
 have A2 := zaa.mk A20; clear A20; obtain rfl := Option.some.inj H
 go_enter Tryz.func69, Tryz.ntmps69
 go_wp2_with (first | ((with_reducible refine zaD (f := 98) rfl ?_); refine zbr (some 7) rfl rfl Tryz.func98 yq10 rfl #[.int .i64 a0] rfl yq2 ?_; (with_reducible refine (zau.calls k a0 t150 t151 _ A2.out).mono ?_); rintro e w3 ⟨rfl, hb⟩; refine ⟨_, rfl, ?_⟩; have n0_ := zaa.mk (zam (yq0 HB.out) hb); clear HB; have HB := n0_; clear n0_; (try clear hb); (try clear hb2); (try clear hk); (try clear hi)))
 go_ret
 exact ⟨yq4, yq0 HB.out⟩
end Go.Proofs.YtfafjbolmeimmaaGreatDoor.P
