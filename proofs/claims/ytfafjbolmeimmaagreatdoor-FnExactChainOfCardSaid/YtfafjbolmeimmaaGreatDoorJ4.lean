/- Written by a program of this session: plain Lean functions for Go functions, and for each the proof that the call comes to what the function says. -/
import Derived.Test.YtfafjbolmeimmaaGreatDoorAb
import Derived.Test.YtfafjbolmeimmaaGreatDoorF4
import Derived.Test.YtfafjbolmeimmaaGreatDoorXZl
namespace Go.Proofs.YtfafjbolmeimmaaGreatDoor.P
open Go.RowKit Go.Proofs.YtfafjbolmeimmaaGreatDoorW.PrintWords Go.Proofs.YtfafjbolmeimmaaGreatDoorW.PrintLast Go.Proofs.YtfafjbolmeimmaaGreatDoorW.PrintMore
attribute [local go_sem] zbm zbn max_two min_two za9 za8 zbk zbj
set_option linter.unusedVariables false
set_option linter.unusedSimpArgs false
def za4.l0 : Nat → List (S26) → Int → Int → Option (Int)
 | 0, _, _, _ => none
 | k + 1, x0, x1, x5 => if x5 < (x0.length : Int) then (if 0 ≤ x5 then ((laws_szLocale.f k ((zaA x0 x5).f0) ((zaA x0 x5).f1) ((zaA x0 x5).f2) ((zaA x0 x5).f3) ((zaA x0 x5).f4) ((zaA x0 x5).f5) ((zaA x0 x5).f6) ((zaA x0 x5).f7) ((zaA x0 x5).f8) ((zaA x0 x5).f9) ((zaA x0 x5).f10) ((zaA x0 x5).f11) ((zaA x0 x5).f12) ((zaA x0 x5).f13) ((zaA x0 x5).f14) x1).bind fun t106 => (if t106 < 0 then (some (-1)) else (za4.l0 k x0 t106 (wrap64 (x5 + 1))))) else (none)) else (some x1)
def za4.f (k : Nat) (l0 : List (S26)) (a1 : Int) : Option (Int) := if (wrap64 (a1 - (l0.length : Int))) < 0 then (some (-1)) else (za4.l0 k l0 (wrap64 (a1 - (l0.length : Int))) 0)
set_option maxHeartbeats 8000000 in
set_option maxRecDepth 100000 in
theorem za4.calls (k : Nat) (A0 : Option Addr) (c0 : Nat) (l0 : List (S26)) (a1 : Int) (r : Int) (w : World) (hr0 : Kd.C k26 w A0 l0.length l0) (hc0 : l0.length ≤ c0) (h : za4.f k l0 a1 = some r) :
  Calls Tryz.prog 13 #[.slice A0 l0.length c0, .int .i64 a1] w fun e w' => e = .returned (.int .i64 r) ∧ Below w.heap.size w w' := by
 have hu26 := Tryz.underlying26
 have HR0 := zaa.mk hr0; have HC0 := zaa.mk hc0; clear hr0 hc0
 have HB := zaa.mk (Below.refl w.heap.size w)
 have H : (if (wrap64 (a1 - (l0.length : Int))) < 0 then (some (-1)) else (za4.l0 k l0 (wrap64 (a1 - (l0.length : Int))) 0)) = some r := h
 clear h
 by_cases c3 : (wrap64 (a1 - (l0.length : Int))) < 0
 ·rw [if_pos c3] at H
  have c3b0 : decide ((wrap64 (a1 - (l0.length : Int))) < 0) = true := decide_eq_true c3
  clear c3; obtain rfl := Option.some.inj H
  go_enter Tryz.func13, Tryz.ntmps13
  go_wp2
  go_ret
  exact ⟨yq4, yq0 HB.out⟩
 rw [if_neg c3] at H
 have c3b0 : decide ((wrap64 (a1 - (l0.length : Int))) < 0) = false := decide_eq_false c3
 clear c3; have H' := zaa.mk H; clear H
 go_enter Tryz.func13, Tryz.ntmps13
 go_wp2
 go_loopg [1, 5] k (fun kq v1 v5 w' => ∃ (x1_1 : Int) (x5_1 : Int), v1 = .int .i64 x1_1 ∧ v5 = .int .i64 x5_1 ∧ zaa (za4.l0 kq l0 x1_1 x5_1 = some r) ∧ zaa (kq ≤ k) ∧ zaa (Below w.heap.size w w'))
 case atStart => exact ⟨(wrap64 (a1 - (l0.length : Int))), (0), yq3, yq3, H', ⟨Nat.le_refl _⟩, ⟨yq0 HB.out⟩⟩
 case round =>
  clear H'
  try clear c3b0
  obtain ⟨x1_1, x5_1, rfl, rfl, HA, HK1, HB⟩ := hrel
  cases gk with
  | zero => exact absurd HA.out (by simp [za4.l0])
  | succ k1 =>
   have H := HA.out; clear HA
   simp only [za4.l0] at H
   by_cases c4 : x5_1 < (l0.length : Int)
   ·rw [if_pos c4] at H
    have c4b0 : decide (x5_1 < (l0.length : Int)) = true := decide_eq_true c4
    clear c4
    by_cases c5 : 0 ≤ x5_1
    ·rw [if_pos c5] at H
     have c5b0 : decide (0 ≤ x5_1) = true := decide_eq_true c5
     clear c5; replace H := Option.bind_eq_some_iff.mp H
     obtain ⟨t106, A60, H⟩ := H
     replace H : (if t106 < 0 then (some (-1)) else (za4.l0 k1 l0 t106 (wrap64 (x5_1 + 1)))) = some r := H
     have A6 := zaa.mk A60; clear A60
     by_cases c7 : t106 < 0
     ·rw [if_pos c7] at H
      have c7b0 : decide (t106 < 0) = true := decide_eq_true c7
      clear c7; obtain rfl := Option.some.inj H
      have p105 : 0 ≤ (x5_1 : Int) := of_decide_eq_true yq1
      have q105 : x5_1 < (l0.length : Int) := of_decide_eq_true yq1
      obtain ⟨ad105, A105_5, c105_5, A105_7, c105_7, A105_12, c105_12, A105_13, c105_13, e105, hx105_0, hx105_1, hx105_2, hx105_3, hx105_4, hx105_5, hx105_6, hx105_7, hx105_8, hx105_9, hx105_10, hx105_11, hx105_12, hx105_13, hx105_14, hl105_5, hi105_5, hl105_7, hi105_7, hl105_12, hi105_12, hl105_13, hi105_13⟩ := at_T26 HR0.out x5_1 p105 q105
      cases e105
      replace hx105_0 := (HB.out.cell (World.block_lt_of_cell? w _ hx105_0)).trans hx105_0
      replace hx105_1 := (HB.out.cell (World.block_lt_of_cell? w _ hx105_1)).trans hx105_1
      replace hx105_2 := (HB.out.cell (World.block_lt_of_cell? w _ hx105_2)).trans hx105_2
      replace hx105_3 := (HB.out.cell (World.block_lt_of_cell? w _ hx105_3)).trans hx105_3
      replace hx105_4 := (HB.out.cell (World.block_lt_of_cell? w _ hx105_4)).trans hx105_4
      replace hx105_5 := (HB.out.cell (World.block_lt_of_cell? w _ hx105_5)).trans hx105_5
      replace hx105_6 := (HB.out.cell (World.block_lt_of_cell? w _ hx105_6)).trans hx105_6
      replace hx105_7 := (HB.out.cell (World.block_lt_of_cell? w _ hx105_7)).trans hx105_7
      replace hx105_8 := (HB.out.cell (World.block_lt_of_cell? w _ hx105_8)).trans hx105_8
      replace hx105_9 := (HB.out.cell (World.block_lt_of_cell? w _ hx105_9)).trans hx105_9
      replace hx105_10 := (HB.out.cell (World.block_lt_of_cell? w _ hx105_10)).trans hx105_10
      replace hx105_11 := (HB.out.cell (World.block_lt_of_cell? w _ hx105_11)).trans hx105_11
      replace hx105_12 := (HB.out.cell (World.block_lt_of_cell? w _ hx105_12)).trans hx105_12
      replace hx105_13 := (HB.out.cell (World.block_lt_of_cell? w _ hx105_13)).trans hx105_13
      replace hx105_14 := (HB.out.cell (World.block_lt_of_cell? w _ hx105_14)).trans hx105_14
      have HR105_5 := zaa.mk hi105_5; have HC105_5 := zaa.mk hl105_5; clear hi105_5 hl105_5; have HR105_7 := zaa.mk hi105_7; have HC105_7 := zaa.mk hl105_7; clear hi105_7 hl105_7; have HR105_12 := zaa.mk hi105_12; have HC105_12 := zaa.mk hl105_12; clear hi105_12 hl105_12; have HR105_13 := zaa.mk hi105_13; have HC105_13 := zaa.mk hl105_13; clear hi105_13 hl105_13
      replace p105 := eq_true p105
      replace q105 := eq_true q105
      go_wp2_with (first | ((with_reducible refine zaD (f := 8) rfl ?_); refine zbr (some 23) rfl rfl Tryz.func8 yq10 rfl #[.agg #[.string ((zaA l0 x5_1).f0), .string ((zaA l0 x5_1).f1), .string ((zaA l0 x5_1).f2), .string ((zaA l0 x5_1).f3), .string ((zaA l0 x5_1).f4), .slice A105_5 ((zaA l0 x5_1).f5).length c105_5, .int .i64 ((zaA l0 x5_1).f6), .slice A105_7 ((zaA l0 x5_1).f7).length c105_7, .string ((zaA l0 x5_1).f8), .string ((zaA l0 x5_1).f9), .string ((zaA l0 x5_1).f10), .string ((zaA l0 x5_1).f11), .slice A105_12 ((zaA l0 x5_1).f12).length c105_12, .slice A105_13 ((zaA l0 x5_1).f13).length c105_13, .string ((zaA l0 x5_1).f14)], .int .i64 x1_1] rfl yq2 ?_; (with_reducible refine (laws_szLocale.calls k1 ((zaA l0 x5_1).f0) ((zaA l0 x5_1).f1) ((zaA l0 x5_1).f2) ((zaA l0 x5_1).f3) ((zaA l0 x5_1).f4) _ _ ((zaA l0 x5_1).f5) ((zaA l0 x5_1).f6) _ _ ((zaA l0 x5_1).f7) ((zaA l0 x5_1).f8) ((zaA l0 x5_1).f9) ((zaA l0 x5_1).f10) ((zaA l0 x5_1).f11) _ _ ((zaA l0 x5_1).f12) _ _ ((zaA l0 x5_1).f13) ((zaA l0 x5_1).f14) x1_1 t106 _ ?side1 ?side2 ?side3 ?side4 ?side5 ?side6 ?side7 ?side8 A6.out).mono ?_); (case side1 => repeat (first | exact (Kd.zaS HR105_5.out HB.out) | (with_reducible refine Kd.C_alloc ?_ _) | (with_reducible refine Kd.C_drewN ?_ _) | (with_reducible refine Kd.C_drew ?_))); (case side2 => exact HC105_5.out); (case side3 => repeat (first | exact (Kd.zaS HR105_7.out HB.out) | (with_reducible refine Kd.C_alloc ?_ _) | (with_reducible refine Kd.C_drewN ?_ _) | (with_reducible refine Kd.C_drew ?_))); (case side4 => exact HC105_7.out); (case side5 => repeat (first | exact (Kd.zaS HR105_12.out HB.out) | (with_reducible refine Kd.C_alloc ?_ _) | (with_reducible refine Kd.C_drewN ?_ _) | (with_reducible refine Kd.C_drew ?_))); (case side6 => exact HC105_12.out); (case side7 => repeat (first | exact (Kd.zaS HR105_13.out HB.out) | (with_reducible refine Kd.C_alloc ?_ _) | (with_reducible refine Kd.C_drewN ?_ _) | (with_reducible refine Kd.C_drew ?_))); (case side8 => exact HC105_13.out); rintro e w8 ⟨rfl, hb⟩; refine ⟨_, rfl, ?_⟩; have n0_ := zaa.mk (zam (yq0 HB.out) hb); clear HB; have HB := n0_; clear n0_; (try clear hb); (try clear hb2); (try clear hk); (try clear hi)))
      go_ret
      exact ⟨yq4, yq0 HB.out⟩
     rw [if_neg c7] at H
     have c7b0 : decide (t106 < 0) = false := decide_eq_false c7
     clear c7; have H' := zaa.mk H; clear H
     have p105 : 0 ≤ (x5_1 : Int) := of_decide_eq_true yq1
     have q105 : x5_1 < (l0.length : Int) := of_decide_eq_true yq1
     obtain ⟨ad105, A105_5, c105_5, A105_7, c105_7, A105_12, c105_12, A105_13, c105_13, e105, hx105_0, hx105_1, hx105_2, hx105_3, hx105_4, hx105_5, hx105_6, hx105_7, hx105_8, hx105_9, hx105_10, hx105_11, hx105_12, hx105_13, hx105_14, hl105_5, hi105_5, hl105_7, hi105_7, hl105_12, hi105_12, hl105_13, hi105_13⟩ := at_T26 HR0.out x5_1 p105 q105
     cases e105
     replace hx105_0 := (HB.out.cell (World.block_lt_of_cell? w _ hx105_0)).trans hx105_0
     replace hx105_1 := (HB.out.cell (World.block_lt_of_cell? w _ hx105_1)).trans hx105_1
     replace hx105_2 := (HB.out.cell (World.block_lt_of_cell? w _ hx105_2)).trans hx105_2
     replace hx105_3 := (HB.out.cell (World.block_lt_of_cell? w _ hx105_3)).trans hx105_3
     replace hx105_4 := (HB.out.cell (World.block_lt_of_cell? w _ hx105_4)).trans hx105_4
     replace hx105_5 := (HB.out.cell (World.block_lt_of_cell? w _ hx105_5)).trans hx105_5
     replace hx105_6 := (HB.out.cell (World.block_lt_of_cell? w _ hx105_6)).trans hx105_6
     replace hx105_7 := (HB.out.cell (World.block_lt_of_cell? w _ hx105_7)).trans hx105_7
     replace hx105_8 := (HB.out.cell (World.block_lt_of_cell? w _ hx105_8)).trans hx105_8
     replace hx105_9 := (HB.out.cell (World.block_lt_of_cell? w _ hx105_9)).trans hx105_9
     replace hx105_10 := (HB.out.cell (World.block_lt_of_cell? w _ hx105_10)).trans hx105_10
     replace hx105_11 := (HB.out.cell (World.block_lt_of_cell? w _ hx105_11)).trans hx105_11
     replace hx105_12 := (HB.out.cell (World.block_lt_of_cell? w _ hx105_12)).trans hx105_12
     replace hx105_13 := (HB.out.cell (World.block_lt_of_cell? w _ hx105_13)).trans hx105_13
     replace hx105_14 := (HB.out.cell (World.block_lt_of_cell? w _ hx105_14)).trans hx105_14
     have HR105_5 := zaa.mk hi105_5; have HC105_5 := zaa.mk hl105_5; clear hi105_5 hl105_5; have HR105_7 := zaa.mk hi105_7; have HC105_7 := zaa.mk hl105_7; clear hi105_7 hl105_7; have HR105_12 := zaa.mk hi105_12; have HC105_12 := zaa.mk hl105_12; clear hi105_12 hl105_12; have HR105_13 := zaa.mk hi105_13; have HC105_13 := zaa.mk hl105_13; clear hi105_13 hl105_13
     replace p105 := eq_true p105
     replace q105 := eq_true q105
     go_wp2_with (first | ((with_reducible refine zaD (f := 8) rfl ?_); refine zbr (some 23) rfl rfl Tryz.func8 yq10 rfl #[.agg #[.string ((zaA l0 x5_1).f0), .string ((zaA l0 x5_1).f1), .string ((zaA l0 x5_1).f2), .string ((zaA l0 x5_1).f3), .string ((zaA l0 x5_1).f4), .slice A105_5 ((zaA l0 x5_1).f5).length c105_5, .int .i64 ((zaA l0 x5_1).f6), .slice A105_7 ((zaA l0 x5_1).f7).length c105_7, .string ((zaA l0 x5_1).f8), .string ((zaA l0 x5_1).f9), .string ((zaA l0 x5_1).f10), .string ((zaA l0 x5_1).f11), .slice A105_12 ((zaA l0 x5_1).f12).length c105_12, .slice A105_13 ((zaA l0 x5_1).f13).length c105_13, .string ((zaA l0 x5_1).f14)], .int .i64 x1_1] rfl yq2 ?_; (with_reducible refine (laws_szLocale.calls k1 ((zaA l0 x5_1).f0) ((zaA l0 x5_1).f1) ((zaA l0 x5_1).f2) ((zaA l0 x5_1).f3) ((zaA l0 x5_1).f4) _ _ ((zaA l0 x5_1).f5) ((zaA l0 x5_1).f6) _ _ ((zaA l0 x5_1).f7) ((zaA l0 x5_1).f8) ((zaA l0 x5_1).f9) ((zaA l0 x5_1).f10) ((zaA l0 x5_1).f11) _ _ ((zaA l0 x5_1).f12) _ _ ((zaA l0 x5_1).f13) ((zaA l0 x5_1).f14) x1_1 t106 _ ?side1 ?side2 ?side3 ?side4 ?side5 ?side6 ?side7 ?side8 A6.out).mono ?_); (case side1 => repeat (first | exact (Kd.zaS HR105_5.out HB.out) | (with_reducible refine Kd.C_alloc ?_ _) | (with_reducible refine Kd.C_drewN ?_ _) | (with_reducible refine Kd.C_drew ?_))); (case side2 => exact HC105_5.out); (case side3 => repeat (first | exact (Kd.zaS HR105_7.out HB.out) | (with_reducible refine Kd.C_alloc ?_ _) | (with_reducible refine Kd.C_drewN ?_ _) | (with_reducible refine Kd.C_drew ?_))); (case side4 => exact HC105_7.out); (case side5 => repeat (first | exact (Kd.zaS HR105_12.out HB.out) | (with_reducible refine Kd.C_alloc ?_ _) | (with_reducible refine Kd.C_drewN ?_ _) | (with_reducible refine Kd.C_drew ?_))); (case side6 => exact HC105_12.out); (case side7 => repeat (first | exact (Kd.zaS HR105_13.out HB.out) | (with_reducible refine Kd.C_alloc ?_ _) | (with_reducible refine Kd.C_drewN ?_ _) | (with_reducible refine Kd.C_drew ?_))); (case side8 => exact HC105_13.out); rintro e w9 ⟨rfl, hb⟩; refine ⟨_, rfl, ?_⟩; have n0_ := zaa.mk (zam (yq0 HB.out) hb); clear HB; have HB := n0_; clear n0_; (try clear hb); (try clear hb2); (try clear hk); (try clear hi)))
     go_roundg k1
     case measure => have := HK1.out; omega
     case rel => exact ⟨(t106), (wrap64 (x5_1 + 1)), yq3, yq3, H', ⟨yq15 HK1.out⟩, ⟨yq0 HB.out⟩⟩
    rw [if_neg c5] at H
    exact absurd H yq21
   rw [if_neg c4] at H
   have c4b0 : decide (x5_1 < (l0.length : Int)) = false := decide_eq_false c4
   clear c4; obtain rfl := Option.some.inj H
   go_wp2
   go_ret
   exact ⟨yq4, yq0 HB.out⟩
mutual
def zaC.j0 : Nat → ByteArray → Bool → Option (Bool)
 | 0, _, _ => none
 | k + 1, x0, x22 => if x22 = true then (some false) else (zaC.l0 k x0 1)
def zaC.l0 : Nat → ByteArray → Int → Option (Bool)
 | 0, _, _ => none
 | k + 1, x0, x3 => if x3 < (x0.size : Int) then (if 0 ≤ x3 then (if (bt x0 x3) < 97 then (if (bt x0 x3) < 48 then (if (bt x0 x3) = 45 then (zaC.l0 k x0 (wrap64 (x3 + 1))) else (some false)) else (if (bt x0 x3) > 57 then (if (bt x0 x3) = 45 then (zaC.l0 k x0 (wrap64 (x3 + 1))) else (some false)) else (zaC.l0 k x0 (wrap64 (x3 + 1))))) else (if (bt x0 x3) > 122 then (if (bt x0 x3) < 48 then (if (bt x0 x3) = 45 then (zaC.l0 k x0 (wrap64 (x3 + 1))) else (some false)) else (if (bt x0 x3) > 57 then (if (bt x0 x3) = 45 then (zaC.l0 k x0 (wrap64 (x3 + 1))) else (some false)) else (zaC.l0 k x0 (wrap64 (x3 + 1))))) else (zaC.l0 k x0 (wrap64 (x3 + 1))))) else (none)) else (some true)
end
def zaC.f (k : Nat) (a0 : ByteArray) : Option (Bool) := if (a0.size : Int) < 1 then (zaC.j0 k a0 true) else (if (a0.size : Int) > 20 then (zaC.j0 k a0 true) else (if 0 < (a0.size : Int) then (if (bt a0 0) < 97 then (zaC.j0 k a0 true) else (zaC.j0 k a0 (decide ((bt a0 0) > 122)))) else (none)))
set_option maxHeartbeats 8000000 in
set_option maxRecDepth 100000 in
theorem zaC.calls (k : Nat) (a0 : ByteArray) (r : Bool) (w : World) (h : zaC.f k a0 = some r) :
  Calls Tryz.prog 32 #[.string a0] w fun e w' => e = .returned (.bool r) ∧ zas w w' := by
 have H : (if (a0.size : Int) < 1 then (zaC.j0 k a0 true) else (if (a0.size : Int) > 20 then (zaC.j0 k a0 true) else (if 0 < (a0.size : Int) then (if (bt a0 0) < 97 then (zaC.j0 k a0 true) else (zaC.j0 k a0 (decide ((bt a0 0) > 122)))) else (none)))) = some r := h
 clear h; have HC2 := zaa.mk H; clear H
 go_enter Tryz.func32, Tryz.ntmps32
 go_upto_region 1 with (fail)
 go_cut [22] (fun v22 wc => ∃ (kq : Nat) (x22_1 : Bool), v22 = .bool x22_1 ∧ zaa (zaC.j0 kq a0 x22_1 = some r) ∧ zaa (kq ≤ k) ∧ zas w wc)
 case first =>
  have H := HC2.out; clear HC2
  by_cases c3 : (a0.size : Int) < 1
  ·rw [if_pos c3] at H
   have c3b0 : decide ((a0.size : Int) < 1) = true := decide_eq_true c3
   have c3b1 : decide (a0.size < 1) = true := decide_eq_true yq9
   clear c3
   (first | rw [c3b0] | rw [c3b1] | (simp only [zaE, zaH]; rw [c3b0]) | skip)
   have H' := zaa.mk H; clear H
   go_wp2
   go_meet
   case rel => exact ⟨_, (true), yq3, H', ⟨yq34⟩, yq11⟩
  rw [if_neg c3] at H
  have c3b0 : decide ((a0.size : Int) < 1) = false := decide_eq_false c3
  have c3b1 : decide (a0.size < 1) = false := decide_eq_false yq9
  clear c3
  (first | rw [c3b0] | rw [c3b1] | (simp only [zaE, zaH]; rw [c3b0]) | skip)
  by_cases c4 : (a0.size : Int) > 20
  ·rw [if_pos c4] at H
   have c4b0 : decide (20 < (a0.size : Int)) = true := decide_eq_true c4
   have c4b1 : decide (20 < a0.size) = true := decide_eq_true yq9
   clear c4; have H' := zaa.mk H; clear H
   go_wp2
   go_meet
   case rel => exact ⟨_, (true), yq3, H', ⟨yq34⟩, yq11⟩
  rw [if_neg c4] at H
  have c4b0 : decide (20 < (a0.size : Int)) = false := decide_eq_false c4
  have c4b1 : decide (20 < a0.size) = false := decide_eq_false yq9
  clear c4
  by_cases c5 : 0 < (a0.size : Int)
  ·rw [if_pos c5] at H
   have c5b0 : decide (0 < (a0.size : Int)) = true := decide_eq_true c5
   have c5b1 : decide (0 < a0.size) = true := decide_eq_true yq9
   clear c5
   by_cases c7 : (bt a0 0) < 97
   ·rw [if_pos c7] at H
    have c7b0 : decide ((bt a0 0) < 97) = true := decide_eq_true c7
    clear c7; have H' := zaa.mk H; clear H
    have p6 : 0 ≤ (0 : Int) := yq9
    have q6 : 0 < a0.size := (by have : (0 : Int) < (a0.size : Int) := of_decide_eq_true yq1; omega)
    have hx6 : ∀ h : 0 < a0.size, ((a0[0]'h).toNat : Int) = bt a0 0 := bt_at a0 0
    clear p6
    have qi6 : (0 < (a0.size : Int)) = True := eq_true (of_decide_eq_true yq1)
    replace q6 := eq_true q6
    go_wp2
    go_meet
    case rel => exact ⟨_, (true), yq3, H', ⟨yq34⟩, yq11⟩
   rw [if_neg c7] at H
   have c7b0 : decide ((bt a0 0) < 97) = false := decide_eq_false c7
   clear c7; have H' := zaa.mk H; clear H
   have p6 : 0 ≤ (0 : Int) := yq9
   have q6 : 0 < a0.size := (by have : (0 : Int) < (a0.size : Int) := of_decide_eq_true yq1; omega)
   have hx6 : ∀ h : 0 < a0.size, ((a0[0]'h).toNat : Int) = bt a0 0 := bt_at a0 0
   clear p6
   have qi6 : (0 < (a0.size : Int)) = True := eq_true (of_decide_eq_true yq1)
   replace q6 := eq_true q6
   have p8 : 0 ≤ (0 : Int) := yq9
   have q8 : 0 < a0.size := (by have : (0 : Int) < (a0.size : Int) := of_decide_eq_true yq1; omega)
   have hx8 : ∀ h : 0 < a0.size, ((a0[0]'h).toNat : Int) = bt a0 0 := bt_at a0 0
   clear p8
   have qi8 : (0 < (a0.size : Int)) = True := eq_true (of_decide_eq_true yq1)
   replace q8 := eq_true q8
   go_wp2
   go_meet
   case rel => exact ⟨_, (decide ((bt a0 0) > 122)), yq3, H', ⟨yq34⟩, yq11⟩
  rw [if_neg c5] at H
  exact absurd H yq21
 case rest =>
  clear HC2
  obtain ⟨kq, x22_1, rfl, HA, HJ1, ⟨mc1, rfl⟩⟩ := hcut
  cases kq with
  | zero => exact absurd HA.out (by simp [zaC.j0])
  | succ kj1 =>
   have H := HA.out; clear HA
   simp only [zaC.j0] at H
   by_cases c9 : x22_1 = true
   ·subst c9
    replace H : (some false) = some r := by rw [if_pos rfl] at H; exact H
    obtain rfl := Option.some.inj H
    go_wp2
    go_ret
    exact ⟨yq3, yq11⟩
   replace c9 := Bool.eq_false_iff.mpr c9
   subst c9
   replace H : (zaC.l0 kj1 a0 1) = some r := by rw [if_neg (show ¬ (false = true) by decide)] at H; exact H
   have H' := zaa.mk H; clear H
   go_wp2
   go_loopg [3] kj1 (fun kq v3 w' => ∃ (x3_2 : Int), v3 = .int .i64 x3_2 ∧ zaa (zaC.l0 kq a0 x3_2 = some r) ∧ zaa (kq ≤ kj1) ∧ zas w w')
   case atStart => exact ⟨(1), yq3, H', ⟨Nat.le_refl _⟩, yq11⟩
   case round =>
    clear H'
    try clear c9
    obtain ⟨x3_2, rfl, HA, HK2, ⟨m2, rfl⟩⟩ := hrel
    cases gk with
    | zero => exact absurd HA.out (by simp [zaC.l0])
    | succ k2 =>
     have H := HA.out; clear HA
     simp only [zaC.l0] at H
     by_cases c10 : x3_2 < (a0.size : Int)
     ·rw [if_pos c10] at H
      have c10b0 : decide (x3_2 < (a0.size : Int)) = true := decide_eq_true c10
      clear c10
      by_cases c11 : 0 ≤ x3_2
      ·rw [if_pos c11] at H
       have c11b0 : decide (0 ≤ x3_2) = true := decide_eq_true c11
       clear c11
       by_cases c13 : (bt a0 x3_2) < 97
       ·rw [if_pos c13] at H
        have c13b0 : decide ((bt a0 x3_2) < 97) = true := decide_eq_true c13
        clear c13
        by_cases c14 : (bt a0 x3_2) < 48
        ·rw [if_pos c14] at H
         have c14b0 : decide ((bt a0 x3_2) < 48) = true := decide_eq_true c14
         clear c14
         by_cases c15 : (bt a0 x3_2) = 45
         ·rw [if_pos c15] at H
          have c15b0 : ((bt a0 x3_2) == 45) = true := beq_iff_eq.mpr c15
          have c15b1 : ((bt a0 x3_2) != 45) = false := bne_eq_false_iff_eq.mpr c15
          clear c15; have H' := zaa.mk H; clear H
          have p12 : 0 ≤ (x3_2 : Int) := of_decide_eq_true yq1
          have q12 : x3_2 < (a0.size : Int) := of_decide_eq_true yq1
          have hx12 := bt_at a0 x3_2
          replace p12 := eq_true p12
          replace q12 := eq_true q12
          go_wp2
          go_roundg k2
          case measure => have := HJ1.out; have := HK2.out; omega
          case rel => exact ⟨(wrap64 (x3_2 + 1)), yq3, H', ⟨yq19 HJ1.out HK2.out⟩, yq11⟩
         rw [if_neg c15] at H
         have c15b0 : ((bt a0 x3_2) == 45) = false := beq_eq_false_iff_ne.mpr c15
         have c15b1 : ((bt a0 x3_2) != 45) = true := bne_iff_ne.mpr c15
         obtain rfl := Option.some.inj H
         have p12 : 0 ≤ (x3_2 : Int) := of_decide_eq_true yq1
         have q12 : x3_2 < (a0.size : Int) := of_decide_eq_true yq1
         have hx12 := bt_at a0 x3_2
         replace p12 := eq_true p12
         replace q12 := eq_true q12
         go_wp2
         go_ret
         exact ⟨yq3, yq11⟩
        rw [if_neg c14] at H
        have c14b0 : decide ((bt a0 x3_2) < 48) = false := decide_eq_false c14
        clear c14
        by_cases c16 : (bt a0 x3_2) > 57
        ·rw [if_pos c16] at H
         have c16b0 : decide (57 < (bt a0 x3_2)) = true := decide_eq_true c16
         clear c16
         by_cases c17 : (bt a0 x3_2) = 45
         ·rw [if_pos c17] at H
          have c17b0 : ((bt a0 x3_2) == 45) = true := beq_iff_eq.mpr c17
          have c17b1 : ((bt a0 x3_2) != 45) = false := bne_eq_false_iff_eq.mpr c17
          clear c17; have H' := zaa.mk H; clear H
          have p12 : 0 ≤ (x3_2 : Int) := of_decide_eq_true yq1
          have q12 : x3_2 < (a0.size : Int) := of_decide_eq_true yq1
          have hx12 := bt_at a0 x3_2
          replace p12 := eq_true p12
          replace q12 := eq_true q12
          go_wp2
          go_roundg k2
          case measure => have := HJ1.out; have := HK2.out; omega
          case rel => exact ⟨(wrap64 (x3_2 + 1)), yq3, H', ⟨yq19 HJ1.out HK2.out⟩, yq11⟩
         rw [if_neg c17] at H
         have c17b0 : ((bt a0 x3_2) == 45) = false := beq_eq_false_iff_ne.mpr c17
         have c17b1 : ((bt a0 x3_2) != 45) = true := bne_iff_ne.mpr c17
         obtain rfl := Option.some.inj H
         have p12 : 0 ≤ (x3_2 : Int) := of_decide_eq_true yq1
         have q12 : x3_2 < (a0.size : Int) := of_decide_eq_true yq1
         have hx12 := bt_at a0 x3_2
         replace p12 := eq_true p12
         replace q12 := eq_true q12
         go_wp2
         go_ret
         exact ⟨yq3, yq11⟩
        rw [if_neg c16] at H
        have c16b0 : decide (57 < (bt a0 x3_2)) = false := decide_eq_false c16
        clear c16; have H' := zaa.mk H; clear H
        have p12 : 0 ≤ (x3_2 : Int) := of_decide_eq_true yq1
        have q12 : x3_2 < (a0.size : Int) := of_decide_eq_true yq1
        have hx12 := bt_at a0 x3_2
        replace p12 := eq_true p12
        replace q12 := eq_true q12
        go_wp2
        go_roundg k2
        case measure => have := HJ1.out; have := HK2.out; omega
        case rel => exact ⟨(wrap64 (x3_2 + 1)), yq3, H', ⟨yq19 HJ1.out HK2.out⟩, yq11⟩
       rw [if_neg c13] at H
       have c13b0 : decide ((bt a0 x3_2) < 97) = false := decide_eq_false c13
       clear c13
       by_cases c18 : (bt a0 x3_2) > 122
       ·rw [if_pos c18] at H
        have c18b0 : decide (122 < (bt a0 x3_2)) = true := decide_eq_true c18
        clear c18
        by_cases c19 : (bt a0 x3_2) < 48
        ·rw [if_pos c19] at H
         have c19b0 : decide ((bt a0 x3_2) < 48) = true := decide_eq_true c19
         clear c19
         by_cases c20 : (bt a0 x3_2) = 45
         ·rw [if_pos c20] at H
          have c20b0 : ((bt a0 x3_2) == 45) = true := beq_iff_eq.mpr c20
          have c20b1 : ((bt a0 x3_2) != 45) = false := bne_eq_false_iff_eq.mpr c20
          clear c20; have H' := zaa.mk H; clear H
          have p12 : 0 ≤ (x3_2 : Int) := of_decide_eq_true yq1
          have q12 : x3_2 < (a0.size : Int) := of_decide_eq_true yq1
          have hx12 := bt_at a0 x3_2
          replace p12 := eq_true p12
          replace q12 := eq_true q12
          go_wp2
          go_roundg k2
          case measure => have := HJ1.out; have := HK2.out; omega
          case rel => exact ⟨(wrap64 (x3_2 + 1)), yq3, H', ⟨yq19 HJ1.out HK2.out⟩, yq11⟩
         rw [if_neg c20] at H
         have c20b0 : ((bt a0 x3_2) == 45) = false := beq_eq_false_iff_ne.mpr c20
         have c20b1 : ((bt a0 x3_2) != 45) = true := bne_iff_ne.mpr c20
         obtain rfl := Option.some.inj H
         have p12 : 0 ≤ (x3_2 : Int) := of_decide_eq_true yq1
         have q12 : x3_2 < (a0.size : Int) := of_decide_eq_true yq1
         have hx12 := bt_at a0 x3_2
         replace p12 := eq_true p12
         replace q12 := eq_true q12
         go_wp2
         go_ret
         exact ⟨yq3, yq11⟩
        rw [if_neg c19] at H
        have c19b0 : decide ((bt a0 x3_2) < 48) = false := decide_eq_false c19
        clear c19
        by_cases c21 : (bt a0 x3_2) > 57
        ·rw [if_pos c21] at H
         have c21b0 : decide (57 < (bt a0 x3_2)) = true := decide_eq_true c21
         clear c21
         by_cases c22 : (bt a0 x3_2) = 45
         ·rw [if_pos c22] at H
          have c22b0 : ((bt a0 x3_2) == 45) = true := beq_iff_eq.mpr c22
          have c22b1 : ((bt a0 x3_2) != 45) = false := bne_eq_false_iff_eq.mpr c22
          clear c22; have H' := zaa.mk H; clear H
          have p12 : 0 ≤ (x3_2 : Int) := of_decide_eq_true yq1
          have q12 : x3_2 < (a0.size : Int) := of_decide_eq_true yq1
          have hx12 := bt_at a0 x3_2
          replace p12 := eq_true p12
          replace q12 := eq_true q12
          go_wp2
          go_roundg k2
          case measure => have := HJ1.out; have := HK2.out; omega
          case rel => exact ⟨(wrap64 (x3_2 + 1)), yq3, H', ⟨yq19 HJ1.out HK2.out⟩, yq11⟩
         rw [if_neg c22] at H
         have c22b0 : ((bt a0 x3_2) == 45) = false := beq_eq_false_iff_ne.mpr c22
         have c22b1 : ((bt a0 x3_2) != 45) = true := bne_iff_ne.mpr c22
         obtain rfl := Option.some.inj H
         have p12 : 0 ≤ (x3_2 : Int) := of_decide_eq_true yq1
         have q12 : x3_2 < (a0.size : Int) := of_decide_eq_true yq1
         have hx12 := bt_at a0 x3_2
         replace p12 := eq_true p12
         replace q12 := eq_true q12
         go_wp2
         go_ret
         exact ⟨yq3, yq11⟩
        rw [if_neg c21] at H
        have c21b0 : decide (57 < (bt a0 x3_2)) = false := decide_eq_false c21
        clear c21; have H' := zaa.mk H; clear H
        have p12 : 0 ≤ (x3_2 : Int) := of_decide_eq_true yq1
        have q12 : x3_2 < (a0.size : Int) := of_decide_eq_true yq1
        have hx12 := bt_at a0 x3_2
        replace p12 := eq_true p12
        replace q12 := eq_true q12
        go_wp2
        go_roundg k2
        case measure => have := HJ1.out; have := HK2.out; omega
        case rel => exact ⟨(wrap64 (x3_2 + 1)), yq3, H', ⟨yq19 HJ1.out HK2.out⟩, yq11⟩
       rw [if_neg c18] at H
       have c18b0 : decide (122 < (bt a0 x3_2)) = false := decide_eq_false c18
       clear c18; have H' := zaa.mk H; clear H
       have p12 : 0 ≤ (x3_2 : Int) := of_decide_eq_true yq1
       have q12 : x3_2 < (a0.size : Int) := of_decide_eq_true yq1
       have hx12 := bt_at a0 x3_2
       replace p12 := eq_true p12
       replace q12 := eq_true q12
       go_wp2
       go_roundg k2
       case measure => have := HJ1.out; have := HK2.out; omega
       case rel => exact ⟨(wrap64 (x3_2 + 1)), yq3, H', ⟨yq19 HJ1.out HK2.out⟩, yq11⟩
      rw [if_neg c11] at H
      exact absurd H yq21
     rw [if_neg c10] at H
     have c10b0 : decide (x3_2 < (a0.size : Int)) = false := decide_eq_false c10
     clear c10; obtain rfl := Option.some.inj H
     go_wp2
     go_ret
     exact ⟨yq3, yq11⟩
end Go.Proofs.YtfafjbolmeimmaaGreatDoor.P
