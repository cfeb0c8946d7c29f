/- Written by a program of this session: plain Lean functions for Go functions, and for each the proof that the call comes to what the function says. -/
import Derived.Test.YtfafjbolmeimmaaGreatDoorAb
import Derived.Test.YtfafjbolmeimmaaGreatDoorF4
import Derived.Test.YtfafjbolmeimmaaGreatDoorF12
import Derived.Test.YtfafjbolmeimmaaGreatDoorF17
namespace Go.Proofs.YtfafjbolmeimmaaGreatDoor.P
open Go.RowKit Go.Proofs.YtfafjbolmeimmaaGreatDoorW.PrintWords Go.Proofs.YtfafjbolmeimmaaGreatDoorW.PrintLast Go.Proofs.YtfafjbolmeimmaaGreatDoorW.PrintMore
attribute [local go_sem] zbw zbx max_two min_two zbe zbd zbu zbv
set_option linter.unusedVariables false
set_option linter.unusedSimpArgs false
def spec_l17Ready.f (a0_0 : ByteArray) (a0_1 : ByteArray) (a0_2 : ByteArray) (a0_3 : ByteArray) (a0_4 : ByteArray) (l0_5 : List Int) (a0_6 : Int) (l0_7 : List (S58)) (a0_8 : ByteArray) (a0_9 : ByteArray) (a0_10 : ByteArray) (a0_11 : ByteArray) (l0_12 : List ByteArray) (l0_13 : List ByteArray) (a0_14 : ByteArray) : Option (Bool) := (zaF.f a0_0 a0_1 a0_2 a0_3 a0_4 l0_5 a0_6 l0_7 a0_8 a0_9 a0_10 a0_11 l0_12 l0_13 a0_14).bind fun t355 => (if t355 = 0 then (some (decide (a0_6 ≥ 0))) else (some false))
set_option maxHeartbeats 8000000 in
set_option maxRecDepth 100000 in
theorem spec_l17Ready.calls (a0_0 : ByteArray) (a0_1 : ByteArray) (a0_2 : ByteArray) (a0_3 : ByteArray) (a0_4 : ByteArray) (A0_5 : Option Addr) (c0_5 : Nat) (l0_5 : List Int) (a0_6 : Int) (A0_7 : Option Addr) (c0_7 : Nat) (l0_7 : List (S58)) (a0_8 : ByteArray) (a0_9 : ByteArray) (a0_10 : ByteArray) (a0_11 : ByteArray) (A0_12 : Option Addr) (c0_12 : Nat) (l0_12 : List ByteArray) (A0_13 : Option Addr) (c0_13 : Nat) (l0_13 : List ByteArray) (a0_14 : ByteArray) (r : Bool) (w : World) (hr0_5 : Kd.C (Kd.int .i64) w A0_5 l0_5.length l0_5) (hc0_5 : l0_5.length ≤ c0_5) (hr0_7 : Kd.C k58 w A0_7 l0_7.length l0_7) (hc0_7 : l0_7.length ≤ c0_7) (hr0_12 : Kd.C Kd.string w A0_12 l0_12.length l0_12) (hc0_12 : l0_12.length ≤ c0_12) (hr0_13 : Kd.C Kd.string w A0_13 l0_13.length l0_13) (hc0_13 : l0_13.length ≤ c0_13) (h : spec_l17Ready.f a0_0 a0_1 a0_2 a0_3 a0_4 l0_5 a0_6 l0_7 a0_8 a0_9 a0_10 a0_11 l0_12 l0_13 a0_14 = some r) :
  Calls Tryz.prog 52 #[.agg #[.string a0_0, .string a0_1, .string a0_2, .string a0_3, .string a0_4, .slice A0_5 l0_5.length c0_5, .int .i64 a0_6, .slice A0_7 l0_7.length c0_7, .string a0_8, .string a0_9, .string a0_10, .string a0_11, .slice A0_12 l0_12.length c0_12, .slice A0_13 l0_13.length c0_13, .string a0_14]] w fun e w' => e = .returned (.bool r) ∧ Below w.heap.size w w' := by
 have hu31 := Tryz.underlying31
 have HR0_5 := zaa.mk hr0_5; have HC0_5 := zaa.mk hc0_5; clear hr0_5 hc0_5; have HR0_7 := zaa.mk hr0_7; have HC0_7 := zaa.mk hc0_7; clear hr0_7 hc0_7; have HR0_12 := zaa.mk hr0_12; have HC0_12 := zaa.mk hc0_12; clear hr0_12 hc0_12; have HR0_13 := zaa.mk hr0_13; have HC0_13 := zaa.mk hc0_13; clear hr0_13 hc0_13
 have HB := zaa.mk (Below.refl w.heap.size w)
 have H : ((zaF.f a0_0 a0_1 a0_2 a0_3 a0_4 l0_5 a0_6 l0_7 a0_8 a0_9 a0_10 a0_11 l0_12 l0_13 a0_14).bind fun t355 => (if t355 = 0 then (some (decide (a0_6 ≥ 0))) else (some false))) = some r := h
 clear h; replace H := Option.bind_eq_some_iff.mp H
 obtain ⟨t355, A20, H⟩ := H
 replace H : (if t355 = 0 then (some (decide (a0_6 ≥ 0))) else (some false)) = some r := H
 have A2 := zaa.mk A20; clear A20
 by_cases c3 : t355 = 0
 ·rw [if_pos c3] at H
  have c3b0 : (t355 == 0) = true := beq_iff_eq.mpr c3
  have c3b1 : (t355 != 0) = false := bne_eq_false_iff_eq.mpr c3
  clear c3; obtain rfl := Option.some.inj H
  go_enter Tryz.func52, Tryz.ntmps52
  go_wp2_with (first | ((with_reducible refine zaO (N := 1) rfl ?_); refine zaT ?hg (N := 1) ?hd (cs := #[.string a0_0, .string a0_1, .string a0_2, .string a0_3, .string a0_4, .slice A0_5 l0_5.length c0_5, .int .i64 a0_6, .slice A0_7 l0_7.length c0_7, .string a0_8, .string a0_9, .string a0_10, .string a0_11, .slice A0_12 l0_12.length c0_12, .slice A0_13 l0_13.length c0_13, .string a0_14]) (t := 31) ?hr ?_; (case hd => rfl); (case hg => rfl); (case hr => first | (go_simp; done) | (go_simp; rfl)); intro gb354 hg w4 hbox hb; have n0_ := zaa.mk (zao (yq0 HB.out) hb); have n1_ := zaa.mk (hbox); have n2_ := zaa.mk ((by rw [hg]; exact (zar (yq0 HB.out)) : w.heap.size ≤ gb354)); have n3_ := zaa.mk ((by rw [hg]; exact (zar (yq0 HB.out)) : w.heap.size ≤ gb354)); clear HB; have HB := n0_; have zbg := n1_; have GW354 := n2_; have GE354 := n3_; clear n0_ n1_ n2_ n3_ hb hbox hg; have hcz5_0 : w4.cell? ⟨gb354, 0, none⟩ = some (.string a0_0) := (zad zbg.out 0).trans rfl; have hcz5_1 : w4.cell? ⟨gb354, 1, none⟩ = some (.string a0_1) := (zad zbg.out 1).trans rfl; have hcz5_2 : w4.cell? ⟨gb354, 2, none⟩ = some (.string a0_2) := (zad zbg.out 2).trans rfl; have hcz5_3 : w4.cell? ⟨gb354, 3, none⟩ = some (.string a0_3) := (zad zbg.out 3).trans rfl; have hcz5_4 : w4.cell? ⟨gb354, 4, none⟩ = some (.string a0_4) := (zad zbg.out 4).trans rfl; have hcz5_5 : w4.cell? ⟨gb354, 5, none⟩ = some (.slice A0_5 l0_5.length c0_5) := (zad zbg.out 5).trans rfl; have hcz5_6 : w4.cell? ⟨gb354, 6, none⟩ = some (.int .i64 a0_6) := (zad zbg.out 6).trans rfl; have hcz5_7 : w4.cell? ⟨gb354, 7, none⟩ = some (.slice A0_7 l0_7.length c0_7) := (zad zbg.out 7).trans rfl; have hcz5_8 : w4.cell? ⟨gb354, 8, none⟩ = some (.string a0_8) := (zad zbg.out 8).trans rfl; have hcz5_9 : w4.cell? ⟨gb354, 9, none⟩ = some (.string a0_9) := (zad zbg.out 9).trans rfl; have hcz5_10 : w4.cell? ⟨gb354, 10, none⟩ = some (.string a0_10) := (zad zbg.out 10).trans rfl; have hcz5_11 : w4.cell? ⟨gb354, 11, none⟩ = some (.string a0_11) := (zad zbg.out 11).trans rfl; have hcz5_12 : w4.cell? ⟨gb354, 12, none⟩ = some (.slice A0_12 l0_12.length c0_12) := (zad zbg.out 12).trans rfl; have hcz5_13 : w4.cell? ⟨gb354, 13, none⟩ = some (.slice A0_13 l0_13.length c0_13) := (zad zbg.out 13).trans rfl; have hcz5_14 : w4.cell? ⟨gb354, 14, none⟩ = some (.string a0_14) := (zad zbg.out 14).trans rfl; have hfz5_0 := zac zbg.out 0; have hfz5_1 := zac zbg.out 1; have hfz5_2 := zac zbg.out 2; have hfz5_3 := zac zbg.out 3; have hfz5_4 := zac zbg.out 4; have hfz5_5 := zac zbg.out 5; have hfz5_6 := zac zbg.out 6; have hfz5_7 := zac zbg.out 7; have hfz5_8 := zac zbg.out 8; have hfz5_9 := zac zbg.out 9; have hfz5_10 := zac zbg.out 10; have hfz5_11 := zac zbg.out 11; have hfz5_12 := zac zbg.out 12; have hfz5_13 := zac zbg.out 13; have hfz5_14 := zac zbg.out 14) | ((with_reducible refine zaz (f := 9) rfl ?_); refine zbh (some 4) rfl rfl Tryz.func9 yq9 rfl #[.agg #[.string a0_0, .string a0_1, .string a0_2, .string a0_3, .string a0_4, .slice A0_5 l0_5.length c0_5, .int .i64 a0_6, .slice A0_7 l0_7.length c0_7, .string a0_8, .string a0_9, .string a0_10, .string a0_11, .slice A0_12 l0_12.length c0_12, .slice A0_13 l0_13.length c0_13, .string a0_14]] rfl yq2 ?_; (with_reducible refine (zaF.calls a0_0 a0_1 a0_2 a0_3 a0_4 _ _ l0_5 a0_6 _ _ l0_7 a0_8 a0_9 a0_10 a0_11 _ _ l0_12 _ _ l0_13 a0_14 t355 _ ?side1 ?side2 ?side3 ?side4 ?side5 ?side6 ?side7 ?side8 A2.out).mono ?_); (case side1 => repeat (first | exact (Kd.za3 HR0_5.out HB.out) | (with_reducible refine Kd.C_alloc ?_ _) | (with_reducible refine Kd.C_drewN ?_ _) | (with_reducible refine Kd.C_drew ?_))); (case side2 => exact HC0_5.out); (case side3 => repeat (first | exact (Kd.za3 HR0_7.out HB.out) | (with_reducible refine Kd.C_alloc ?_ _) | (with_reducible refine Kd.C_drewN ?_ _) | (with_reducible refine Kd.C_drew ?_))); (case side4 => exact HC0_7.out); (case side5 => repeat (first | exact (Kd.za3 HR0_12.out HB.out) | (with_reducible refine Kd.C_alloc ?_ _) | (with_reducible refine Kd.C_drewN ?_ _) | (with_reducible refine Kd.C_drew ?_))); (case side6 => exact HC0_12.out); (case side7 => repeat (first | exact (Kd.za3 HR0_13.out HB.out) | (with_reducible refine Kd.C_alloc ?_ _) | (with_reducible refine Kd.C_drewN ?_ _) | (with_reducible refine Kd.C_drew ?_))); (case side8 => exact HC0_13.out); rintro e w6 ⟨rfl, hb⟩; refine ⟨_, rfl, ?_⟩; have n0_ := zaa.mk (zaP (g := gb354) (o := .cells #[.string a0_0, .string a0_1, .string a0_2, .string a0_3, .string a0_4, .slice A0_5 l0_5.length c0_5, .int .i64 a0_6, .slice A0_7 l0_7.length c0_7, .string a0_8, .string a0_9, .string a0_10, .string a0_11, .slice A0_12 l0_12.length c0_12, .slice A0_13 l0_13.length c0_13, .string a0_14] 31 (0, 0)) (yq3 zbg.out) hb); have n1_ := zaa.mk (zao (yq5 HB.out GE354.out) hb); clear zbg HB; have zbg := n0_; have HB := n1_; clear n0_ n1_; (try clear hb); (try clear hb2); (try clear hk); (try clear hi); have hcz7_0 : w6.cell? ⟨gb354, 0, none⟩ = some (.string a0_0) := (zad zbg.out 0).trans rfl; have hcz7_1 : w6.cell? ⟨gb354, 1, none⟩ = some (.string a0_1) := (zad zbg.out 1).trans rfl; have hcz7_2 : w6.cell? ⟨gb354, 2, none⟩ = some (.string a0_2) := (zad zbg.out 2).trans rfl; have hcz7_3 : w6.cell? ⟨gb354, 3, none⟩ = some (.string a0_3) := (zad zbg.out 3).trans rfl; have hcz7_4 : w6.cell? ⟨gb354, 4, none⟩ = some (.string a0_4) := (zad zbg.out 4).trans rfl; have hcz7_5 : w6.cell? ⟨gb354, 5, none⟩ = some (.slice A0_5 l0_5.length c0_5) := (zad zbg.out 5).trans rfl; have hcz7_6 : w6.cell? ⟨gb354, 6, none⟩ = some (.int .i64 a0_6) := (zad zbg.out 6).trans rfl; have hcz7_7 : w6.cell? ⟨gb354, 7, none⟩ = some (.slice A0_7 l0_7.length c0_7) := (zad zbg.out 7).trans rfl; have hcz7_8 : w6.cell? ⟨gb354, 8, none⟩ = some (.string a0_8) := (zad zbg.out 8).trans rfl; have hcz7_9 : w6.cell? ⟨gb354, 9, none⟩ = some (.string a0_9) := (zad zbg.out 9).trans rfl; have hcz7_10 : w6.cell? ⟨gb354, 10, none⟩ = some (.string a0_10) := (zad zbg.out 10).trans rfl; have hcz7_11 : w6.cell? ⟨gb354, 11, none⟩ = some (.string a0_11) := (zad zbg.out 11).trans rfl; have hcz7_12 : w6.cell? ⟨gb354, 12, none⟩ = some (.slice A0_12 l0_12.length c0_12) := (zad zbg.out 12).trans rfl; have hcz7_13 : w6.cell? ⟨gb354, 13, none⟩ = some (.slice A0_13 l0_13.length c0_13) := (zad zbg.out 13).trans rfl; have hcz7_14 : w6.cell? ⟨gb354, 14, none⟩ = some (.string a0_14) := (zad zbg.out 14).trans rfl; have hfz7_0 := zac zbg.out 0; have hfz7_1 := zac zbg.out 1; have hfz7_2 := zac zbg.out 2; have hfz7_3 := zac zbg.out 3; have hfz7_4 := zac zbg.out 4; have hfz7_5 := zac zbg.out 5; have hfz7_6 := zac zbg.out 6; have hfz7_7 := zac zbg.out 7; have hfz7_8 := zac zbg.out 8; have hfz7_9 := zac zbg.out 9; have hfz7_10 := zac zbg.out 10; have hfz7_11 := zac zbg.out 11; have hfz7_12 := zac zbg.out 12; have hfz7_13 := zac zbg.out 13; have hfz7_14 := zac zbg.out 14))
  go_ret
  exact ⟨yq6, yq5 HB.out GE354.out⟩
 rw [if_neg c3] at H
 have c3b0 : (t355 == 0) = false := beq_eq_false_iff_ne.mpr c3
 have c3b1 : (t355 != 0) = true := bne_iff_ne.mpr c3
 obtain rfl := Option.some.inj H
 go_enter Tryz.func52, Tryz.ntmps52
 go_wp2_with (first | ((with_reducible refine zaO (N := 1) rfl ?_); refine zaT ?hg (N := 1) ?hd (cs := #[.string a0_0, .string a0_1, .string a0_2, .string a0_3, .string a0_4, .slice A0_5 l0_5.length c0_5, .int .i64 a0_6, .slice A0_7 l0_7.length c0_7, .string a0_8, .string a0_9, .string a0_10, .string a0_11, .slice A0_12 l0_12.length c0_12, .slice A0_13 l0_13.length c0_13, .string a0_14]) (t := 31) ?hr ?_; (case hd => rfl); (case hg => rfl); (case hr => first | (go_simp; done) | (go_simp; rfl)); intro gb354 hg w8 hbox hb; have n0_ := zaa.mk (zao (yq0 HB.out) hb); have n1_ := zaa.mk (hbox); have n2_ := zaa.mk ((by rw [hg]; exact (zar (yq0 HB.out)) : w.heap.size ≤ gb354)); have n3_ := zaa.mk ((by rw [hg]; exact (zar (yq0 HB.out)) : w.heap.size ≤ gb354)); clear HB; have HB := n0_; have zbg := n1_; have GW354 := n2_; have GE354 := n3_; clear n0_ n1_ n2_ n3_ hb hbox hg; have hcz9_0 : w8.cell? ⟨gb354, 0, none⟩ = some (.string a0_0) := (zad zbg.out 0).trans rfl; have hcz9_1 : w8.cell? ⟨gb354, 1, none⟩ = some (.string a0_1) := (zad zbg.out 1).trans rfl; have hcz9_2 : w8.cell? ⟨gb354, 2, none⟩ = some (.string a0_2) := (zad zbg.out 2).trans rfl; have hcz9_3 : w8.cell? ⟨gb354, 3, none⟩ = some (.string a0_3) := (zad zbg.out 3).trans rfl; have hcz9_4 : w8.cell? ⟨gb354, 4, none⟩ = some (.string a0_4) := (zad zbg.out 4).trans rfl; have hcz9_5 : w8.cell? ⟨gb354, 5, none⟩ = some (.slice A0_5 l0_5.length c0_5) := (zad zbg.out 5).trans rfl; have hcz9_6 : w8.cell? ⟨gb354, 6, none⟩ = some (.int .i64 a0_6) := (zad zbg.out 6).trans rfl; have hcz9_7 : w8.cell? ⟨gb354, 7, none⟩ = some (.slice A0_7 l0_7.length c0_7) := (zad zbg.out 7).trans rfl; have hcz9_8 : w8.cell? ⟨gb354, 8, none⟩ = some (.string a0_8) := (zad zbg.out 8).trans rfl; have hcz9_9 : w8.cell? ⟨gb354, 9, none⟩ = some (.string a0_9) := (zad zbg.out 9).trans rfl; have hcz9_10 : w8.cell? ⟨gb354, 10, none⟩ = some (.string a0_10) := (zad zbg.out 10).trans rfl; have hcz9_11 : w8.cell? ⟨gb354, 11, none⟩ = some (.string a0_11) := (zad zbg.out 11).trans rfl; have hcz9_12 : w8.cell? ⟨gb354, 12, none⟩ = some (.slice A0_12 l0_12.length c0_12) := (zad zbg.out 12).trans rfl; have hcz9_13 : w8.cell? ⟨gb354, 13, none⟩ = some (.slice A0_13 l0_13.length c0_13) := (zad zbg.out 13).trans rfl; have hcz9_14 : w8.cell? ⟨gb354, 14, none⟩ = some (.string a0_14) := (zad zbg.out 14).trans rfl; have hfz9_0 := zac zbg.out 0; have hfz9_1 := zac zbg.out 1; have hfz9_2 := zac zbg.out 2; have hfz9_3 := zac zbg.out 3; have hfz9_4 := zac zbg.out 4; have hfz9_5 := zac zbg.out 5; have hfz9_6 := zac zbg.out 6; have hfz9_7 := zac zbg.out 7; have hfz9_8 := zac zbg.out 8; have hfz9_9 := zac zbg.out 9; have hfz9_10 := zac zbg.out 10; have hfz9_11 := zac zbg.out 11; have hfz9_12 := zac zbg.out 12; have hfz9_13 := zac zbg.out 13; have hfz9_14 := zac zbg.out 14) | ((with_reducible refine zaz (f := 9) rfl ?_); refine zbh (some 4) rfl rfl Tryz.func9 yq9 rfl #[.agg #[.string a0_0, .string a0_1, .string a0_2, .string a0_3, .string a0_4, .slice A0_5 l0_5.length c0_5, .int .i64 a0_6, .slice A0_7 l0_7.length c0_7, .string a0_8, .string a0_9, .string a0_10, .string a0_11, .slice A0_12 l0_12.length c0_12, .slice A0_13 l0_13.length c0_13, .string a0_14]] rfl yq2 ?_; (with_reducible refine (zaF.calls a0_0 a0_1 a0_2 a0_3 a0_4 _ _ l0_5 a0_6 _ _ l0_7 a0_8 a0_9 a0_10 a0_11 _ _ l0_12 _ _ l0_13 a0_14 t355 _ ?side1 ?side2 ?side3 ?side4 ?side5 ?side6 ?side7 ?side8 A2.out).mono ?_); (case side1 => repeat (first | exact (Kd.za3 HR0_5.out HB.out) | (with_reducible refine Kd.C_alloc ?_ _) | (with_reducible refine Kd.C_drewN ?_ _) | (with_reducible refine Kd.C_drew ?_))); (case side2 => exact HC0_5.out); (case side3 => repeat (first | exact (Kd.za3 HR0_7.out HB.out) | (with_reducible refine Kd.C_alloc ?_ _) | (with_reducible refine Kd.C_drewN ?_ _) | (with_reducible refine Kd.C_drew ?_))); (case side4 => exact HC0_7.out); (case side5 => repeat (first | exact (Kd.za3 HR0_12.out HB.out) | (with_reducible refine Kd.C_alloc ?_ _) | (with_reducible refine Kd.C_drewN ?_ _) | (with_reducible refine Kd.C_drew ?_))); (case side6 => exact HC0_12.out); (case side7 => repeat (first | exact (Kd.za3 HR0_13.out HB.out) | (with_reducible refine Kd.C_alloc ?_ _) | (with_reducible refine Kd.C_drewN ?_ _) | (with_reducible refine Kd.C_drew ?_))); (case side8 => exact HC0_13.out); rintro e w10 ⟨rfl, hb⟩; refine ⟨_, rfl, ?_⟩; have n0_ := zaa.mk (zaP (g := gb354) (o := .cells #[.string a0_0, .string a0_1, .string a0_2, .string a0_3, .string a0_4, .slice A0_5 l0_5.length c0_5, .int .i64 a0_6, .slice A0_7 l0_7.length c0_7, .string a0_8, .string a0_9, .string a0_10, .string a0_11, .slice A0_12 l0_12.length c0_12, .slice A0_13 l0_13.length c0_13, .string a0_14] 31 (0, 0)) (yq3 zbg.out) hb); have n1_ := zaa.mk (zao (yq5 HB.out GE354.out) hb); clear zbg HB; have zbg := n0_; have HB := n1_; clear n0_ n1_; (try clear hb); (try clear hb2); (try clear hk); (try clear hi)))
 go_ret
 exact ⟨yq6, yq5 HB.out GE354.out⟩
def spec_l01Small.f (a0 : ByteArray) : Option (ByteArray) := if (a0.size : Int) > 65536 then (some (⟨#[]⟩ : ByteArray)) else (some a0)
set_option maxHeartbeats 8000000 in
set_option maxRecDepth 100000 in
theorem spec_l01Small.calls (a0 : ByteArray) (r : ByteArray) (w : World) (h : spec_l01Small.f a0 = some r) :
  Calls Tryz.prog 53 #[.string a0] w fun e w' => e = .returned (.string r) ∧ zas w w' := by
 have H : (if (a0.size : Int) > 65536 then (some (⟨#[]⟩ : ByteArray)) else (some a0)) = some r := h
 clear h
 by_cases c2 : (a0.size : Int) > 65536
 ·rw [if_pos c2] at H
  have c2b0 : decide (65536 < (a0.size : Int)) = true := decide_eq_true c2
  have c2b1 : decide (65536 < a0.size) = true := decide_eq_true yq12
  clear c2; obtain rfl := Option.some.inj H
  go_enter Tryz.func53, Tryz.ntmps53
  go_wp2
  go_ret
  exact ⟨yq4, yq10⟩
 rw [if_neg c2] at H
 have c2b0 : decide (65536 < (a0.size : Int)) = false := decide_eq_false c2
 have c2b1 : decide (65536 < a0.size) = false := decide_eq_false yq12
 clear c2; obtain rfl := Option.some.inj H
 go_enter Tryz.func53, Tryz.ntmps53
 go_wp2
 go_ret
 exact ⟨yq4, yq10⟩
def za0.f (k : Nat) (a0 : ByteArray) (a1 : ByteArray) (a2 : ByteArray) : Option (ByteArray) := (zaA.f k a0 (⟨#[123, 48, 125]⟩ : ByteArray)).bind fun t356 => ((zaA.f k a0 (⟨#[123, 49, 125]⟩ : ByteArray)).bind fun t357 => (if t356 < 0 then (some (⟨#[]⟩ : ByteArray)) else (if t357 < 0 then (some (⟨#[]⟩ : ByteArray)) else (if 0 ≤ t356 then (if t356 ≤ (a0.size : Int) then (if (a0.extract 0 (t356 : Int).toNat).size + a1.size ≤ 9223372036854775807 then (if 0 ≤ (wrap64 (t356 + 3)) then (if (wrap64 (t356 + 3)) ≤ t357 then (if t357 ≤ (a0.size : Int) then (if ((a0.extract 0 (t356 : Int).toNat) ++ a1).size + (a0.extract ((wrap64 (t356 + 3)) : Int).toNat (t357 : Int).toNat).size ≤ 9223372036854775807 then (if (((a0.extract 0 (t356 : Int).toNat) ++ a1) ++ (a0.extract ((wrap64 (t356 + 3)) : Int).toNat (t357 : Int).toNat)).size + a2.size ≤ 9223372036854775807 then (if 0 ≤ (wrap64 (t357 + 3)) then (if (wrap64 (t357 + 3)) ≤ (a0.size : Int) then (if ((((a0.extract 0 (t356 : Int).toNat) ++ a1) ++ (a0.extract ((wrap64 (t356 + 3)) : Int).toNat (t357 : Int).toNat)) ++ a2).size + (a0.extract ((wrap64 (t357 + 3)) : Int).toNat a0.size).size ≤ 9223372036854775807 then (some (((((a0.extract 0 (t356 : Int).toNat) ++ a1) ++ (a0.extract ((wrap64 (t356 + 3)) : Int).toNat (t357 : Int).toNat)) ++ a2) ++ (a0.extract ((wrap64 (t357 + 3)) : Int).toNat a0.size))) else (none)) else (none)) else (none)) else (none)) else (none)) else (none)) else (none)) else (none)) else (none)) else (none)) else (none)))))
set_option maxHeartbeats 8000000 in
set_option maxRecDepth 100000 in
theorem za0.calls (k : Nat) (a0 : ByteArray) (a1 : ByteArray) (a2 : ByteArray) (r : ByteArray) (w : World) (h : za0.f k a0 a1 a2 = some r) :
  Calls Tryz.prog 86 #[.string a0, .string a1, .string a2] w fun e w' => e = .returned (.string r) ∧ zas w w' := by
 have H : ((zaA.f k a0 (⟨#[123, 48, 125]⟩ : ByteArray)).bind fun t356 => ((zaA.f k a0 (⟨#[123, 49, 125]⟩ : ByteArray)).bind fun t357 => (if t356 < 0 then (some (⟨#[]⟩ : ByteArray)) else (if t357 < 0 then (some (⟨#[]⟩ : ByteArray)) else (if 0 ≤ t356 then (if t356 ≤ (a0.size : Int) then (if (a0.extract 0 (t356 : Int).toNat).size + a1.size ≤ 9223372036854775807 then (if 0 ≤ (wrap64 (t356 + 3)) then (if (wrap64 (t356 + 3)) ≤ t357 then (if t357 ≤ (a0.size : Int) then (if ((a0.extract 0 (t356 : Int).toNat) ++ a1).size + (a0.extract ((wrap64 (t356 + 3)) : Int).toNat (t357 : Int).toNat).size ≤ 9223372036854775807 then (if (((a0.extract 0 (t356 : Int).toNat) ++ a1) ++ (a0.extract ((wrap64 (t356 + 3)) : Int).toNat (t357 : Int).toNat)).size + a2.size ≤ 9223372036854775807 then (if 0 ≤ (wrap64 (t357 + 3)) then (if (wrap64 (t357 + 3)) ≤ (a0.size : Int) then (if ((((a0.extract 0 (t356 : Int).toNat) ++ a1) ++ (a0.extract ((wrap64 (t356 + 3)) : Int).toNat (t357 : Int).toNat)) ++ a2).size + (a0.extract ((wrap64 (t357 + 3)) : Int).toNat a0.size).size ≤ 9223372036854775807 then (some (((((a0.extract 0 (t356 : Int).toNat) ++ a1) ++ (a0.extract ((wrap64 (t356 + 3)) : Int).toNat (t357 : Int).toNat)) ++ a2) ++ (a0.extract ((wrap64 (t357 + 3)) : Int).toNat a0.size))) else (none)) else (none)) else (none)) else (none)) else (none)) else (none)) else (none)) else (none)) else (none)) else (none)) else (none)))))) = some r := h
 clear h; replace H := Option.bind_eq_some_iff.mp H
 obtain ⟨t356, A40, H⟩ := H
 replace H : ((zaA.f k a0 (⟨#[123, 49, 125]⟩ : ByteArray)).bind fun t357 => (if t356 < 0 then (some (⟨#[]⟩ : ByteArray)) else (if t357 < 0 then (some (⟨#[]⟩ : ByteArray)) else (if 0 ≤ t356 then (if t356 ≤ (a0.size : Int) then (if (a0.extract 0 (t356 : Int).toNat).size + a1.size ≤ 9223372036854775807 then (if 0 ≤ (wrap64 (t356 + 3)) then (if (wrap64 (t356 + 3)) ≤ t357 then (if t357 ≤ (a0.size : Int) then (if ((a0.extract 0 (t356 : Int).toNat) ++ a1).size + (a0.extract ((wrap64 (t356 + 3)) : Int).toNat (t357 : Int).toNat).size ≤ 9223372036854775807 then (if (((a0.extract 0 (t356 : Int).toNat) ++ a1) ++ (a0.extract ((wrap64 (t356 + 3)) : Int).toNat (t357 : Int).toNat)).size + a2.size ≤ 9223372036854775807 then (if 0 ≤ (wrap64 (t357 + 3)) then (if (wrap64 (t357 + 3)) ≤ (a0.size : Int) then (if ((((a0.extract 0 (t356 : Int).toNat) ++ a1) ++ (a0.extract ((wrap64 (t356 + 3)) : Int).toNat (t357 : Int).toNat)) ++ a2).size + (a0.extract ((wrap64 (t357 + 3)) : Int).toNat a0.size).size ≤ 9223372036854775807 then (some (((((a0.extract 0 (t356 : Int).toNat) ++ a1) ++ (a0.extract ((wrap64 (t356 + 3)) : Int).toNat (t357 : Int).toNat)) ++ a2) ++ (a0.extract ((wrap64 (t357 + 3)) : Int).toNat a0.size))) else (none)) else (none)) else (none)) else (none)) else (none)) else (none)) else (none)) else (none)) else (none)) else (none)) else (none))))) = some r := H
 have A4 := zaa.mk A40; clear A40; replace H := Option.bind_eq_some_iff.mp H
 obtain ⟨t357, A50, H⟩ := H
 replace H : (if t356 < 0 then (some (⟨#[]⟩ : ByteArray)) else (if t357 < 0 then (some (⟨#[]⟩ : ByteArray)) else (if 0 ≤ t356 then (if t356 ≤ (a0.size : Int) then (if (a0.extract 0 (t356 : Int).toNat).size + a1.size ≤ 9223372036854775807 then (if 0 ≤ (wrap64 (t356 + 3)) then (if (wrap64 (t356 + 3)) ≤ t357 then (if t357 ≤ (a0.size : Int) then (if ((a0.extract 0 (t356 : Int).toNat) ++ a1).size + (a0.extract ((wrap64 (t356 + 3)) : Int).toNat (t357 : Int).toNat).size ≤ 9223372036854775807 then (if (((a0.extract 0 (t356 : Int).toNat) ++ a1) ++ (a0.extract ((wrap64 (t356 + 3)) : Int).toNat (t357 : Int).toNat)).size + a2.size ≤ 9223372036854775807 then (if 0 ≤ (wrap64 (t357 + 3)) then (if (wrap64 (t357 + 3)) ≤ (a0.size : Int) then (if ((((a0.extract 0 (t356 : Int).toNat) ++ a1) ++ (a0.extract ((wrap64 (t356 + 3)) : Int).toNat (t357 : Int).toNat)) ++ a2).size + (a0.extract ((wrap64 (t357 + 3)) : Int).toNat a0.size).size ≤ 9223372036854775807 then (some (((((a0.extract 0 (t356 : Int).toNat) ++ a1) ++ (a0.extract ((wrap64 (t356 + 3)) : Int).toNat (t357 : Int).toNat)) ++ a2) ++ (a0.extract ((wrap64 (t357 + 3)) : Int).toNat a0.size))) else (none)) else (none)) else (none)) else (none)) else (none)) else (none)) else (none)) else (none)) else (none)) else (none)) else (none)))) = some r := H
 have A5 := zaa.mk A50; clear A50
 by_cases c6 : t356 < 0
 ·rw [if_pos c6] at H
  have c6b0 : decide (t356 < 0) = true := decide_eq_true c6
  clear c6; obtain rfl := Option.some.inj H
  go_enter Tryz.func86, Tryz.ntmps86
  go_wp2_with (first | (go_at_call 73; (with_reducible refine (zaA.calls k a0 (⟨#[123, 48, 125]⟩ : ByteArray) t356 _ A4.out).mono ?_); rintro e w' ⟨rfl, ⟨nd, rfl⟩⟩; (try first | exact ⟨rfl, _, World.drewN_drewN _ _ _⟩ | exact ⟨rfl, _, Eq.trans (World.drewN_drewN _ _ _) (congrArg (World.drewN _) (Nat.add_assoc _ _ _))⟩)) | (go_at_call 73; (with_reducible refine (zaA.calls k a0 (⟨#[123, 49, 125]⟩ : ByteArray) t357 _ A5.out).mono ?_); rintro e w' ⟨rfl, ⟨nd, rfl⟩⟩; (try first | exact ⟨rfl, _, World.drewN_drewN _ _ _⟩ | exact ⟨rfl, _, Eq.trans (World.drewN_drewN _ _ _) (congrArg (World.drewN _) (Nat.add_assoc _ _ _))⟩)))
  repeat (go_quiet (first | (go_at_call 73; (with_reducible refine (zaA.calls k a0 (⟨#[123, 48, 125]⟩ : ByteArray) t356 _ A4.out).mono ?_); rintro e w' ⟨rfl, ⟨nd, rfl⟩⟩; (try first | exact ⟨rfl, _, World.drewN_drewN _ _ _⟩ | exact ⟨rfl, _, Eq.trans (World.drewN_drewN _ _ _) (congrArg (World.drewN _) (Nat.add_assoc _ _ _))⟩)) | (go_at_call 73; (with_reducible refine (zaA.calls k a0 (⟨#[123, 49, 125]⟩ : ByteArray) t357 _ A5.out).mono ?_); rintro e w' ⟨rfl, ⟨nd, rfl⟩⟩; (try first | exact ⟨rfl, _, World.drewN_drewN _ _ _⟩ | exact ⟨rfl, _, Eq.trans (World.drewN_drewN _ _ _) (congrArg (World.drewN _) (Nat.add_assoc _ _ _))⟩))); try go_wp2_with (first | (go_at_call 73; (with_reducible refine (zaA.calls k a0 (⟨#[123, 48, 125]⟩ : ByteArray) t356 _ A4.out).mono ?_); rintro e w' ⟨rfl, ⟨nd, rfl⟩⟩; (try first | exact ⟨rfl, _, World.drewN_drewN _ _ _⟩ | exact ⟨rfl, _, Eq.trans (World.drewN_drewN _ _ _) (congrArg (World.drewN _) (Nat.add_assoc _ _ _))⟩)) | (go_at_call 73; (with_reducible refine (zaA.calls k a0 (⟨#[123, 49, 125]⟩ : ByteArray) t357 _ A5.out).mono ?_); rintro e w' ⟨rfl, ⟨nd, rfl⟩⟩; (try first | exact ⟨rfl, _, World.drewN_drewN _ _ _⟩ | exact ⟨rfl, _, Eq.trans (World.drewN_drewN _ _ _) (congrArg (World.drewN _) (Nat.add_assoc _ _ _))⟩))))
  go_ret
  exact ⟨yq4, yq10⟩
 rw [if_neg c6] at H
 have c6b0 : decide (t356 < 0) = false := decide_eq_false c6
 clear c6
 by_cases c7 : t357 < 0
 ·rw [if_pos c7] at H
  have c7b0 : decide (t357 < 0) = true := decide_eq_true c7
  clear c7; obtain rfl := Option.some.inj H
  go_enter Tryz.func86, Tryz.ntmps86
  go_wp2_with (first | (go_at_call 73; (with_reducible refine (zaA.calls k a0 (⟨#[123, 48, 125]⟩ : ByteArray) t356 _ A4.out).mono ?_); rintro e w' ⟨rfl, ⟨nd, rfl⟩⟩; (try first | exact ⟨rfl, _, World.drewN_drewN _ _ _⟩ | exact ⟨rfl, _, Eq.trans (World.drewN_drewN _ _ _) (congrArg (World.drewN _) (Nat.add_assoc _ _ _))⟩)) | (go_at_call 73; (with_reducible refine (zaA.calls k a0 (⟨#[123, 49, 125]⟩ : ByteArray) t357 _ A5.out).mono ?_); rintro e w' ⟨rfl, ⟨nd, rfl⟩⟩; (try first | exact ⟨rfl, _, World.drewN_drewN _ _ _⟩ | exact ⟨rfl, _, Eq.trans (World.drewN_drewN _ _ _) (congrArg (World.drewN _) (Nat.add_assoc _ _ _))⟩)))
  repeat (go_quiet (first | (go_at_call 73; (with_reducible refine (zaA.calls k a0 (⟨#[123, 48, 125]⟩ : ByteArray) t356 _ A4.out).mono ?_); rintro e w' ⟨rfl, ⟨nd, rfl⟩⟩; (try first | exact ⟨rfl, _, World.drewN_drewN _ _ _⟩ | exact ⟨rfl, _, Eq.trans (World.drewN_drewN _ _ _) (congrArg (World.drewN _) (Nat.add_assoc _ _ _))⟩)) | (go_at_call 73; (with_reducible refine (zaA.calls k a0 (⟨#[123, 49, 125]⟩ : ByteArray) t357 _ A5.out).mono ?_); rintro e w' ⟨rfl, ⟨nd, rfl⟩⟩; (try first | exact ⟨rfl, _, World.drewN_drewN _ _ _⟩ | exact ⟨rfl, _, Eq.trans (World.drewN_drewN _ _ _) (congrArg (World.drewN _) (Nat.add_assoc _ _ _))⟩))); try go_wp2_with (first | (go_at_call 73; (with_reducible refine (zaA.calls k a0 (⟨#[123, 48, 125]⟩ : ByteArray) t356 _ A4.out).mono ?_); rintro e w' ⟨rfl, ⟨nd, rfl⟩⟩; (try first | exact ⟨rfl, _, World.drewN_drewN _ _ _⟩ | exact ⟨rfl, _, Eq.trans (World.drewN_drewN _ _ _) (congrArg (World.drewN _) (Nat.add_assoc _ _ _))⟩)) | (go_at_call 73; (with_reducible refine (zaA.calls k a0 (⟨#[123, 49, 125]⟩ : ByteArray) t357 _ A5.out).mono ?_); rintro e w' ⟨rfl, ⟨nd, rfl⟩⟩; (try first | exact ⟨rfl, _, World.drewN_drewN _ _ _⟩ | exact ⟨rfl, _, Eq.trans (World.drewN_drewN _ _ _) (congrArg (World.drewN _) (Nat.add_assoc _ _ _))⟩))))
  go_ret
  exact ⟨yq4, yq10⟩
 rw [if_neg c7] at H
 have c7b0 : decide (t357 < 0) = false := decide_eq_false c7
 clear c7
 by_cases c8 : 0 ≤ t356
 ·rw [if_pos c8] at H
  have c8b0 := eq_true c8
  have c8b1 : decide (0 ≤ t356) = true := decide_eq_true c8
  clear c8
  by_cases c9 : t356 ≤ (a0.size : Int)
  ·rw [if_pos c9] at H
   have c9b0 := eq_true c9
   have c9b1 : decide (t356 ≤ (a0.size : Int)) = true := decide_eq_true c9
   clear c9
   by_cases c10 : (a0.extract 0 (t356 : Int).toNat).size + a1.size ≤ 9223372036854775807
   ·rw [if_pos c10] at H
    have c10b0 := eq_true c10
    have c10b1 : decide ((a0.extract 0 (t356 : Int).toNat).size + a1.size ≤ 9223372036854775807) = true := decide_eq_true c10
    try have c10b2 : (9223372036854775807 < (a0.extract 0 (t356 : Int).toNat).size + a1.size) = False := eq_false (Nat.not_lt.2 c10)
    obtain ⟨ji11, hji11⟩ : ∃ j_ : Int, (wrap64 (t356 + 3)) = j_ := ⟨_, rfl⟩
    replace H : (if 0 ≤ (ji11) then (if (ji11) ≤ t357 then (if t357 ≤ (a0.size : Int) then (if ((a0.extract 0 (t356 : Int).toNat) ++ a1).size + (a0.extract ((ji11) : Int).toNat (t357 : Int).toNat).size ≤ 9223372036854775807 then (if (((a0.extract 0 (t356 : Int).toNat) ++ a1) ++ (a0.extract ((ji11) : Int).toNat (t357 : Int).toNat)).size + a2.size ≤ 9223372036854775807 then (if 0 ≤ (wrap64 (t357 + 3)) then (if (wrap64 (t357 + 3)) ≤ (a0.size : Int) then (if ((((a0.extract 0 (t356 : Int).toNat) ++ a1) ++ (a0.extract ((ji11) : Int).toNat (t357 : Int).toNat)) ++ a2).size + (a0.extract ((wrap64 (t357 + 3)) : Int).toNat a0.size).size ≤ 9223372036854775807 then (some (((((a0.extract 0 (t356 : Int).toNat) ++ a1) ++ (a0.extract ((ji11) : Int).toNat (t357 : Int).toNat)) ++ a2) ++ (a0.extract ((wrap64 (t357 + 3)) : Int).toNat a0.size))) else (none)) else (none)) else (none)) else (none)) else (none)) else (none)) else (none)) else (none)) = some r := by first | (rw [hji11] at H; exact H) | (simp only [hji11] at H ⊢; exact H)
    (try rw [hji11] at A4)
    (try rw [hji11] at A5)
    have hji11w : (IntKind.i64.wrap (t356 + 3)) = ji11 := (zaI _).trans hji11
    by_cases c12 : 0 ≤ (ji11)
    ·rw [if_pos c12] at H
     have c12b0 := eq_true c12
     have c12b1 : decide (0 ≤ (ji11)) = true := decide_eq_true c12
     clear c12
     by_cases c13 : (ji11) ≤ t357
     ·rw [if_pos c13] at H
      have c13b0 := eq_true c13
      have c13b1 : decide ((ji11) ≤ t357) = true := decide_eq_true c13
      clear c13
      by_cases c14 : t357 ≤ (a0.size : Int)
      ·rw [if_pos c14] at H
       have c14b0 := eq_true c14
       have c14b1 : decide (t357 ≤ (a0.size : Int)) = true := decide_eq_true c14
       clear c14
       by_cases c15 : ((a0.extract 0 (t356 : Int).toNat) ++ a1).size + (a0.extract ((ji11) : Int).toNat (t357 : Int).toNat).size ≤ 9223372036854775807
       ·rw [if_pos c15] at H
        have c15b0 := eq_true c15
        have c15b1 : decide (((a0.extract 0 (t356 : Int).toNat) ++ a1).size + (a0.extract ((ji11) : Int).toNat (t357 : Int).toNat).size ≤ 9223372036854775807) = true := decide_eq_true c15
        try have c15b2 : (9223372036854775807 < ((a0.extract 0 (t356 : Int).toNat) ++ a1).size + (a0.extract ((ji11) : Int).toNat (t357 : Int).toNat).size) = False := eq_false (Nat.not_lt.2 c15)
        by_cases c16 : (((a0.extract 0 (t356 : Int).toNat) ++ a1) ++ (a0.extract ((ji11) : Int).toNat (t357 : Int).toNat)).size + a2.size ≤ 9223372036854775807
        ·rw [if_pos c16] at H
         have c16b0 := eq_true c16
         have c16b1 : decide ((((a0.extract 0 (t356 : Int).toNat) ++ a1) ++ (a0.extract ((ji11) : Int).toNat (t357 : Int).toNat)).size + a2.size ≤ 9223372036854775807) = true := decide_eq_true c16
         try have c16b2 : (9223372036854775807 < (((a0.extract 0 (t356 : Int).toNat) ++ a1) ++ (a0.extract ((ji11) : Int).toNat (t357 : Int).toNat)).size + a2.size) = False := eq_false (Nat.not_lt.2 c16)
         obtain ⟨ji17, hji17⟩ : ∃ j_ : Int, (wrap64 (t357 + 3)) = j_ := ⟨_, rfl⟩
         replace H : (if 0 ≤ (ji17) then (if (ji17) ≤ (a0.size : Int) then (if ((((a0.extract 0 (t356 : Int).toNat) ++ a1) ++ (a0.extract ((ji11) : Int).toNat (t357 : Int).toNat)) ++ a2).size + (a0.extract ((ji17) : Int).toNat a0.size).size ≤ 9223372036854775807 then (some (((((a0.extract 0 (t356 : Int).toNat) ++ a1) ++ (a0.extract ((ji11) : Int).toNat (t357 : Int).toNat)) ++ a2) ++ (a0.extract ((ji17) : Int).toNat a0.size))) else (none)) else (none)) else (none)) = some r := by first | (rw [hji17] at H; exact H) | (simp only [hji17] at H ⊢; exact H)
         (try rw [hji17] at A4)
         (try rw [hji17] at A5)
         have hji17w : (IntKind.i64.wrap (t357 + 3)) = ji17 := (zaI _).trans hji17
         by_cases c18 : 0 ≤ (ji17)
         ·rw [if_pos c18] at H
          have c18b0 := eq_true c18
          have c18b1 : decide (0 ≤ (ji17)) = true := decide_eq_true c18
          clear c18
          by_cases c19 : (ji17) ≤ (a0.size : Int)
          ·rw [if_pos c19] at H
           have c19b0 := eq_true c19
           have c19b1 : decide ((ji17) ≤ (a0.size : Int)) = true := decide_eq_true c19
           clear c19
           by_cases c20 : ((((a0.extract 0 (t356 : Int).toNat) ++ a1) ++ (a0.extract ((ji11) : Int).toNat (t357 : Int).toNat)) ++ a2).size + (a0.extract ((ji17) : Int).toNat a0.size).size ≤ 9223372036854775807
           ·rw [if_pos c20] at H
            have c20b0 := eq_true c20
            have c20b1 : decide (((((a0.extract 0 (t356 : Int).toNat) ++ a1) ++ (a0.extract ((ji11) : Int).toNat (t357 : Int).toNat)) ++ a2).size + (a0.extract ((ji17) : Int).toNat a0.size).size ≤ 9223372036854775807) = true := decide_eq_true c20
            try have c20b2 : (9223372036854775807 < ((((a0.extract 0 (t356 : Int).toNat) ++ a1) ++ (a0.extract ((ji11) : Int).toNat (t357 : Int).toNat)) ++ a2).size + (a0.extract ((ji17) : Int).toNat a0.size).size) = False := eq_false (Nat.not_lt.2 c20)
            obtain rfl := Option.some.inj H
            go_enter Tryz.func86, Tryz.ntmps86
            go_wp2_with (first | (go_at_call 73; (with_reducible refine (zaA.calls k a0 (⟨#[123, 48, 125]⟩ : ByteArray) t356 _ A4.out).mono ?_); rintro e w' ⟨rfl, ⟨nd, rfl⟩⟩; (try first | exact ⟨rfl, _, World.drewN_drewN _ _ _⟩ | exact ⟨rfl, _, Eq.trans (World.drewN_drewN _ _ _) (congrArg (World.drewN _) (Nat.add_assoc _ _ _))⟩)) | (go_at_call 73; (with_reducible refine (zaA.calls k a0 (⟨#[123, 49, 125]⟩ : ByteArray) t357 _ A5.out).mono ?_); rintro e w' ⟨rfl, ⟨nd, rfl⟩⟩; (try first | exact ⟨rfl, _, World.drewN_drewN _ _ _⟩ | exact ⟨rfl, _, Eq.trans (World.drewN_drewN _ _ _) (congrArg (World.drewN _) (Nat.add_assoc _ _ _))⟩)))
            repeat (go_quiet (first | (go_at_call 73; (with_reducible refine (zaA.calls k a0 (⟨#[123, 48, 125]⟩ : ByteArray) t356 _ A4.out).mono ?_); rintro e w' ⟨rfl, ⟨nd, rfl⟩⟩; (try first | exact ⟨rfl, _, World.drewN_drewN _ _ _⟩ | exact ⟨rfl, _, Eq.trans (World.drewN_drewN _ _ _) (congrArg (World.drewN _) (Nat.add_assoc _ _ _))⟩)) | (go_at_call 73; (with_reducible refine (zaA.calls k a0 (⟨#[123, 49, 125]⟩ : ByteArray) t357 _ A5.out).mono ?_); rintro e w' ⟨rfl, ⟨nd, rfl⟩⟩; (try first | exact ⟨rfl, _, World.drewN_drewN _ _ _⟩ | exact ⟨rfl, _, Eq.trans (World.drewN_drewN _ _ _) (congrArg (World.drewN _) (Nat.add_assoc _ _ _))⟩))); try go_wp2_with (first | (go_at_call 73; (with_reducible refine (zaA.calls k a0 (⟨#[123, 48, 125]⟩ : ByteArray) t356 _ A4.out).mono ?_); rintro e w' ⟨rfl, ⟨nd, rfl⟩⟩; (try first | exact ⟨rfl, _, World.drewN_drewN _ _ _⟩ | exact ⟨rfl, _, Eq.trans (World.drewN_drewN _ _ _) (congrArg (World.drewN _) (Nat.add_assoc _ _ _))⟩)) | (go_at_call 73; (with_reducible refine (zaA.calls k a0 (⟨#[123, 49, 125]⟩ : ByteArray) t357 _ A5.out).mono ?_); rintro e w' ⟨rfl, ⟨nd, rfl⟩⟩; (try first | exact ⟨rfl, _, World.drewN_drewN _ _ _⟩ | exact ⟨rfl, _, Eq.trans (World.drewN_drewN _ _ _) (congrArg (World.drewN _) (Nat.add_assoc _ _ _))⟩))))
            go_ret
            exact ⟨by first | rfl | (simp; done) | (simp only [← hji11, ← hji17] <;> (first | rfl | simp)) | (simp [*]; done), yq10⟩
           rw [if_neg c20] at H
           exact absurd H yq26
          rw [if_neg c19] at H
          exact absurd H yq26
         rw [if_neg c18] at H
         exact absurd H yq26
        rw [if_neg c16] at H
        exact absurd H yq26
       rw [if_neg c15] at H
       exact absurd H yq26
      rw [if_neg c14] at H
      exact absurd H yq26
     rw [if_neg c13] at H
     exact absurd H yq26
    rw [if_neg c12] at H
    exact absurd H yq26
   rw [if_neg c10] at H
   exact absurd H yq26
  rw [if_neg c9] at H
  exact absurd H yq26
 rw [if_neg c8] at H
 exact absurd H yq26
def zbq.l0 : Nat → List ByteArray → Int → ByteArray → Int → ByteArray → ByteArray → ByteArray → ByteArray → ByteArray → List Int → Int → List (S58) → ByteArray → ByteArray → ByteArray → ByteArray → List ByteArray → List ByteArray → ByteArray → Option (ByteArray)
 | 0, _, _, _, _, _, _, _, _, _, _, _, _, _, _, _, _, _, _, _ => none
 | k + 1, x1, x5, x6, x7, x359000, x359001, x359002, x359003, x359004, x359005, x359006, x359007, x359008, x359009, x359010, x359011, x359012, x359013, x359014 => if (wrap64 (x7 + 1)) < x5 then (if 0 ≤ x7 then (if x7 < (x1.length : Int) then ((za0.f k x359010 x6 (rdOf ByteArray.empty x1 x7)).bind fun t367 => (zbq.l0 k x1 x5 t367 (wrap64 (x7 + 1)) x359000 x359001 x359002 x359003 x359004 x359005 x359006 x359007 x359008 x359009 x359010 x359011 x359012 x359013 x359014)) else (none)) else (none)) else (if 0 ≤ (wrap64 (x5 - 1)) then (if (wrap64 (x5 - 1)) < (x1.length : Int) then ((za0.f k x359011 x6 (rdOf ByteArray.empty x1 (wrap64 (x5 - 1)))).bind fun t369 => (some t369)) else (none)) else (none))
def zbq.f (k : Nat) (a0_0 : ByteArray) (a0_1 : ByteArray) (a0_2 : ByteArray) (a0_3 : ByteArray) (a0_4 : ByteArray) (l0_5 : List Int) (a0_6 : Int) (l0_7 : List (S58)) (a0_8 : ByteArray) (a0_9 : ByteArray) (a0_10 : ByteArray) (a0_11 : ByteArray) (l0_12 : List ByteArray) (l0_13 : List ByteArray) (a0_14 : ByteArray) (l1 : List ByteArray) : Option (ByteArray) := if (l1.length : Int) = 0 then (some (⟨#[]⟩ : ByteArray)) else (if (l1.length : Int) = 1 then (if 0 < (l1.length : Int) then (some (rdOf ByteArray.empty l1 0)) else (none)) else (if (l1.length : Int) = 2 then (if 0 < (l1.length : Int) then (if 1 < (l1.length : Int) then ((za0.f k a0_8 (rdOf ByteArray.empty l1 0) (rdOf ByteArray.empty l1 1)).bind fun t362 => (some t362)) else (none)) else (none)) else (if 0 < (l1.length : Int) then (if 1 < (l1.length : Int) then ((za0.f k a0_9 (rdOf ByteArray.empty l1 0) (rdOf ByteArray.empty l1 1)).bind fun t365 => (zbq.l0 k l1 (l1.length : Int) t365 2 a0_0 a0_1 a0_2 a0_3 a0_4 l0_5 a0_6 l0_7 a0_8 a0_9 a0_10 a0_11 l0_12 l0_13 a0_14)) else (none)) else (none))))
set_option maxHeartbeats 8000000 in
set_option maxRecDepth 100000 in
theorem zbq.calls (k : Nat) (a0_0 : ByteArray) (a0_1 : ByteArray) (a0_2 : ByteArray) (a0_3 : ByteArray) (a0_4 : ByteArray) (A0_5 : Option Addr) (c0_5 : Nat) (l0_5 : List Int) (a0_6 : Int) (A0_7 : Option Addr) (c0_7 : Nat) (l0_7 : List (S58)) (a0_8 : ByteArray) (a0_9 : ByteArray) (a0_10 : ByteArray) (a0_11 : ByteArray) (A0_12 : Option Addr) (c0_12 : Nat) (l0_12 : List ByteArray) (A0_13 : Option Addr) (c0_13 : Nat) (l0_13 : List ByteArray) (a0_14 : ByteArray) (A1 : Option Addr) (c1 : Nat) (l1 : List ByteArray) (r : ByteArray) (w : World) (hr0_5 : Kd.C (Kd.int .i64) w A0_5 l0_5.length l0_5) (hc0_5 : l0_5.length ≤ c0_5) (hr0_7 : Kd.C k58 w A0_7 l0_7.length l0_7) (hc0_7 : l0_7.length ≤ c0_7) (hr0_12 : Kd.C Kd.string w A0_12 l0_12.length l0_12) (hc0_12 : l0_12.length ≤ c0_12) (hr0_13 : Kd.C Kd.string w A0_13 l0_13.length l0_13) (hc0_13 : l0_13.length ≤ c0_13) (hr1 : Kd.C Kd.string w A1 l1.length l1) (hc1 : l1.length ≤ c1) (h : zbq.f k a0_0 a0_1 a0_2 a0_3 a0_4 l0_5 a0_6 l0_7 a0_8 a0_9 a0_10 a0_11 l0_12 l0_13 a0_14 l1 = some r) :
  Calls Tryz.prog 54 #[.agg #[.string a0_0, .string a0_1, .string a0_2, .string a0_3, .string a0_4, .slice A0_5 l0_5.length c0_5, .int .i64 a0_6, .slice A0_7 l0_7.length c0_7, .string a0_8, .string a0_9, .string a0_10, .string a0_11, .slice A0_12 l0_12.length c0_12, .slice A0_13 l0_13.length c0_13, .string a0_14], .slice A1 l1.length c1] w fun e w' => e = .returned (.string r) ∧ Below w.heap.size w w' := by
 have hu31 := Tryz.underlying31
 have HR0_5 := zaa.mk hr0_5; have HC0_5 := zaa.mk hc0_5; clear hr0_5 hc0_5; have HR0_7 := zaa.mk hr0_7; have HC0_7 := zaa.mk hc0_7; clear hr0_7 hc0_7; have HR0_12 := zaa.mk hr0_12; have HC0_12 := zaa.mk hc0_12; clear hr0_12 hc0_12; have HR0_13 := zaa.mk hr0_13; have HC0_13 := zaa.mk hc0_13; clear hr0_13 hc0_13; have HR1 := zaa.mk hr1; have HC1 := zaa.mk hc1; clear hr1 hc1
 have HB := zaa.mk (Below.refl w.heap.size w)
 have H : (if (l1.length : Int) = 0 then (some (⟨#[]⟩ : ByteArray)) else (if (l1.length : Int) = 1 then (if 0 < (l1.length : Int) then (some (rdOf ByteArray.empty l1 0)) else (none)) else (if (l1.length : Int) = 2 then (if 0 < (l1.length : Int) then (if 1 < (l1.length : Int) then ((za0.f k a0_8 (rdOf ByteArray.empty l1 0) (rdOf ByteArray.empty l1 1)).bind fun t362 => (some t362)) else (none)) else (none)) else (if 0 < (l1.length : Int) then (if 1 < (l1.length : Int) then ((za0.f k a0_9 (rdOf ByteArray.empty l1 0) (rdOf ByteArray.empty l1 1)).bind fun t365 => (zbq.l0 k l1 (l1.length : Int) t365 2 a0_0 a0_1 a0_2 a0_3 a0_4 l0_5 a0_6 l0_7 a0_8 a0_9 a0_10 a0_11 l0_12 l0_13 a0_14)) else (none)) else (none))))) = some r := h
 clear h
 by_cases c3 : (l1.length : Int) = 0
 ·rw [if_pos c3] at H
  have c3b0 : ((l1.length : Int) == 0) = true := beq_iff_eq.mpr c3
  have c3b1 : ((l1.length : Int) != 0) = false := bne_eq_false_iff_eq.mpr c3
  clear c3; obtain rfl := Option.some.inj H
  go_enter Tryz.func54, Tryz.ntmps54
  go_wp2_with (first | ((with_reducible refine zaO (N := 2) rfl ?_); refine zaT ?hg (N := 2) ?hd (cs := #[.string a0_0, .string a0_1, .string a0_2, .string a0_3, .string a0_4, .slice A0_5 l0_5.length c0_5, .int .i64 a0_6, .slice A0_7 l0_7.length c0_7, .string a0_8, .string a0_9, .string a0_10, .string a0_11, .slice A0_12 l0_12.length c0_12, .slice A0_13 l0_13.length c0_13, .string a0_14]) (t := 31) ?hr ?_; (case hd => rfl); (case hg => rfl); (case hr => first | (go_simp; done) | (go_simp; rfl)); intro zaU hg w4 hbox hb; have n0_ := zaa.mk (zao (yq0 HB.out) hb); have n1_ := zaa.mk (hbox); have n2_ := zaa.mk ((by rw [hg]; exact (zar (yq0 HB.out)) : w.heap.size ≤ zaU)); have n3_ := zaa.mk ((by rw [hg]; exact (zar (yq0 HB.out)) : w.heap.size ≤ zaU)); clear HB; have HB := n0_; have zaC := n1_; have GW358 := n2_; have GE358 := n3_; clear n0_ n1_ n2_ n3_ hb hbox hg))
  repeat (go_quiet (first | ((with_reducible refine zaO (N := 2) rfl ?_); refine zaT ?hg (N := 2) ?hd (cs := #[.string a0_0, .string a0_1, .string a0_2, .string a0_3, .string a0_4, .slice A0_5 l0_5.length c0_5, .int .i64 a0_6, .slice A0_7 l0_7.length c0_7, .string a0_8, .string a0_9, .string a0_10, .string a0_11, .slice A0_12 l0_12.length c0_12, .slice A0_13 l0_13.length c0_13, .string a0_14]) (t := 31) ?hr ?_; (case hd => rfl); (case hg => rfl); (case hr => first | (go_simp; done) | (go_simp; rfl)); intro zaU hg w4 hbox hb; have n0_ := zaa.mk (zao (yq0 HB.out) hb); have n1_ := zaa.mk (hbox); have n2_ := zaa.mk ((by rw [hg]; exact (zar (yq0 HB.out)) : w.heap.size ≤ zaU)); have n3_ := zaa.mk ((by rw [hg]; exact (zar (yq0 HB.out)) : w.heap.size ≤ zaU)); clear HB; have HB := n0_; have zaC := n1_; have GW358 := n2_; have GE358 := n3_; clear n0_ n1_ n2_ n3_ hb hbox hg)); try go_wp2_with (first | ((with_reducible refine zaO (N := 2) rfl ?_); refine zaT ?hg (N := 2) ?hd (cs := #[.string a0_0, .string a0_1, .string a0_2, .string a0_3, .string a0_4, .slice A0_5 l0_5.length c0_5, .int .i64 a0_6, .slice A0_7 l0_7.length c0_7, .string a0_8, .string a0_9, .string a0_10, .string a0_11, .slice A0_12 l0_12.length c0_12, .slice A0_13 l0_13.length c0_13, .string a0_14]) (t := 31) ?hr ?_; (case hd => rfl); (case hg => rfl); (case hr => first | (go_simp; done) | (go_simp; rfl)); intro zaU hg w4 hbox hb; have n0_ := zaa.mk (zao (yq0 HB.out) hb); have n1_ := zaa.mk (hbox); have n2_ := zaa.mk ((by rw [hg]; exact (zar (yq0 HB.out)) : w.heap.size ≤ zaU)); have n3_ := zaa.mk ((by rw [hg]; exact (zar (yq0 HB.out)) : w.heap.size ≤ zaU)); clear HB; have HB := n0_; have zaC := n1_; have GW358 := n2_; have GE358 := n3_; clear n0_ n1_ n2_ n3_ hb hbox hg)))
  go_ret
  exact ⟨yq6, yq5 HB.out GE358.out⟩
 rw [if_neg c3] at H
 have c3b0 : ((l1.length : Int) == 0) = false := beq_eq_false_iff_ne.mpr c3
 have c3b1 : ((l1.length : Int) != 0) = true := bne_iff_ne.mpr c3
 have c3b2 : ¬ (l1 = []) := fun h_ => c3 (by rw [h_]; rfl)
 by_cases c5 : (l1.length : Int) = 1
 ·rw [if_pos c5] at H
  have c5b0 : ((l1.length : Int) == 1) = true := beq_iff_eq.mpr c5
  have c5b1 : ((l1.length : Int) != 1) = false := bne_eq_false_iff_eq.mpr c5
  clear c5
  by_cases c6 : 0 < (l1.length : Int)
  ·rw [if_pos c6] at H
   have c6b0 : decide (0 < (l1.length : Int)) = true := decide_eq_true c6
   have c6b1 : decide (0 < l1.length) = true := decide_eq_true yq12
   clear c6; obtain rfl := Option.some.inj H
   go_enter Tryz.func54, Tryz.ntmps54
   go_wp2_with (first | ((with_reducible refine zaO (N := 2) rfl ?_); refine zaT ?hg (N := 2) ?hd (cs := #[.string a0_0, .string a0_1, .string a0_2, .string a0_3, .string a0_4, .slice A0_5 l0_5.length c0_5, .int .i64 a0_6, .slice A0_7 l0_7.length c0_7, .string a0_8, .string a0_9, .string a0_10, .string a0_11, .slice A0_12 l0_12.length c0_12, .slice A0_13 l0_13.length c0_13, .string a0_14]) (t := 31) ?hr ?_; (case hd => rfl); (case hg => rfl); (case hr => first | (go_simp; done) | (go_simp; rfl)); intro zaU hg w7 hbox hb; have n0_ := zaa.mk (zao (yq0 HB.out) hb); have n1_ := zaa.mk (hbox); have n2_ := zaa.mk ((by rw [hg]; exact (zar (yq0 HB.out)) : w.heap.size ≤ zaU)); have n3_ := zaa.mk ((by rw [hg]; exact (zar (yq0 HB.out)) : w.heap.size ≤ zaU)); clear HB; have HB := n0_; have zaC := n1_; have GW358 := n2_; have GE358 := n3_; clear n0_ n1_ n2_ n3_ hb hbox hg; have p359 : 0 ≤ (0 : Int) := yq12; have q359 : 0 < (l1.length : Int) := of_decide_eq_true yq1; obtain ⟨ad359, e359, hx359_0⟩ := Kd.za1 HR1.out 0 p359 q359; cases e359; have qi359 : (0 < l1.length) = True := eq_true yq12; (try rw [show ((0 : Int)).toNat = 0 from rfl] at hx359_0); (try rw [Addr.add_zero'] at hx359_0); replace hx359_0 := (HB.out.cell (World.block_lt_of_cell? w _ hx359_0)).trans hx359_0; replace p359 := eq_true p359; replace q359 := eq_true q359))
   repeat (go_quiet (first | ((with_reducible refine zaO (N := 2) rfl ?_); refine zaT ?hg (N := 2) ?hd (cs := #[.string a0_0, .string a0_1, .string a0_2, .string a0_3, .string a0_4, .slice A0_5 l0_5.length c0_5, .int .i64 a0_6, .slice A0_7 l0_7.length c0_7, .string a0_8, .string a0_9, .string a0_10, .string a0_11, .slice A0_12 l0_12.length c0_12, .slice A0_13 l0_13.length c0_13, .string a0_14]) (t := 31) ?hr ?_; (case hd => rfl); (case hg => rfl); (case hr => first | (go_simp; done) | (go_simp; rfl)); intro zaU hg w7 hbox hb; have n0_ := zaa.mk (zao (yq0 HB.out) hb); have n1_ := zaa.mk (hbox); have n2_ := zaa.mk ((by rw [hg]; exact (zar (yq0 HB.out)) : w.heap.size ≤ zaU)); have n3_ := zaa.mk ((by rw [hg]; exact (zar (yq0 HB.out)) : w.heap.size ≤ zaU)); clear HB; have HB := n0_; have zaC := n1_; have GW358 := n2_; have GE358 := n3_; clear n0_ n1_ n2_ n3_ hb hbox hg; have p359 : 0 ≤ (0 : Int) := yq12; have q359 : 0 < (l1.length : Int) := of_decide_eq_true yq1; obtain ⟨ad359, e359, hx359_0⟩ := Kd.za1 HR1.out 0 p359 q359; cases e359; have qi359 : (0 < l1.length) = True := eq_true yq12; (try rw [show ((0 : Int)).toNat = 0 from rfl] at hx359_0); (try rw [Addr.add_zero'] at hx359_0); replace hx359_0 := (HB.out.cell (World.block_lt_of_cell? w _ hx359_0)).trans hx359_0; replace p359 := eq_true p359; replace q359 := eq_true q359)); try go_wp2_with (first | ((with_reducible refine zaO (N := 2) rfl ?_); refine zaT ?hg (N := 2) ?hd (cs := #[.string a0_0, .string a0_1, .string a0_2, .string a0_3, .string a0_4, .slice A0_5 l0_5.length c0_5, .int .i64 a0_6, .slice A0_7 l0_7.length c0_7, .string a0_8, .string a0_9, .string a0_10, .string a0_11, .slice A0_12 l0_12.length c0_12, .slice A0_13 l0_13.length c0_13, .string a0_14]) (t := 31) ?hr ?_; (case hd => rfl); (case hg => rfl); (case hr => first | (go_simp; done) | (go_simp; rfl)); intro zaU hg w7 hbox hb; have n0_ := zaa.mk (zao (yq0 HB.out) hb); have n1_ := zaa.mk (hbox); have n2_ := zaa.mk ((by rw [hg]; exact (zar (yq0 HB.out)) : w.heap.size ≤ zaU)); have n3_ := zaa.mk ((by rw [hg]; exact (zar (yq0 HB.out)) : w.heap.size ≤ zaU)); clear HB; have HB := n0_; have zaC := n1_; have GW358 := n2_; have GE358 := n3_; clear n0_ n1_ n2_ n3_ hb hbox hg; have p359 : 0 ≤ (0 : Int) := yq12; have q359 : 0 < (l1.length : Int) := of_decide_eq_true yq1; obtain ⟨ad359, e359, hx359_0⟩ := Kd.za1 HR1.out 0 p359 q359; cases e359; have qi359 : (0 < l1.length) = True := eq_true yq12; (try rw [show ((0 : Int)).toNat = 0 from rfl] at hx359_0); (try rw [Addr.add_zero'] at hx359_0); replace hx359_0 := (HB.out.cell (World.block_lt_of_cell? w _ hx359_0)).trans hx359_0; replace p359 := eq_true p359; replace q359 := eq_true q359)))
   go_ret
   exact ⟨yq6, yq5 HB.out GE358.out⟩
  rw [if_neg c6] at H
  exact absurd H yq26
 rw [if_neg c5] at H
 have c5b0 : ((l1.length : Int) == 1) = false := beq_eq_false_iff_ne.mpr c5
 have c5b1 : ((l1.length : Int) != 1) = true := bne_iff_ne.mpr c5
 by_cases c8 : (l1.length : Int) = 2
 ·rw [if_pos c8] at H
  have c8b0 : ((l1.length : Int) == 2) = true := beq_iff_eq.mpr c8
  have c8b1 : ((l1.length : Int) != 2) = false := bne_eq_false_iff_eq.mpr c8
  clear c8
  by_cases c9 : 0 < (l1.length : Int)
  ·rw [if_pos c9] at H
   have c9b0 : decide (0 < (l1.length : Int)) = true := decide_eq_true c9
   have c9b1 : decide (0 < l1.length) = true := decide_eq_true yq12
   clear c9
   by_cases c10 : 1 < (l1.length : Int)
   ·rw [if_pos c10] at H
    have c10b0 : decide (1 < (l1.length : Int)) = true := decide_eq_true c10
    have c10b1 : decide (1 < l1.length) = true := decide_eq_true yq12
    clear c10; replace H := Option.bind_eq_some_iff.mp H
    obtain ⟨t362, A110, H⟩ := H
    replace H : (some t362) = some r := H
    have A11 := zaa.mk A110; clear A110; obtain rfl := Option.some.inj H
    go_enter Tryz.func54, Tryz.ntmps54
    go_wp2_with (first | ((with_reducible refine zaO (N := 2) rfl ?_); refine zaT ?hg (N := 2) ?hd (cs := #[.string a0_0, .string a0_1, .string a0_2, .string a0_3, .string a0_4, .slice A0_5 l0_5.length c0_5, .int .i64 a0_6, .slice A0_7 l0_7.length c0_7, .string a0_8, .string a0_9, .string a0_10, .string a0_11, .slice A0_12 l0_12.length c0_12, .slice A0_13 l0_13.length c0_13, .string a0_14]) (t := 31) ?hr ?_; (case hd => rfl); (case hg => rfl); (case hr => first | (go_simp; done) | (go_simp; rfl)); intro zaU hg w12 hbox hb; have n0_ := zaa.mk (zao (yq0 HB.out) hb); have n1_ := zaa.mk (hbox); have n2_ := zaa.mk ((by rw [hg]; exact (zar (yq0 HB.out)) : w.heap.size ≤ zaU)); have n3_ := zaa.mk ((by rw [hg]; exact (zar (yq0 HB.out)) : w.heap.size ≤ zaU)); clear HB; have HB := n0_; have zaC := n1_; have GW358 := n2_; have GE358 := n3_; clear n0_ n1_ n2_ n3_ hb hbox hg; have hcz13_0 : w12.cell? ⟨zaU, 0, none⟩ = some (.string a0_0) := (zad zaC.out 0).trans rfl; have hcz13_1 : w12.cell? ⟨zaU, 1, none⟩ = some (.string a0_1) := (zad zaC.out 1).trans rfl; have hcz13_2 : w12.cell? ⟨zaU, 2, none⟩ = some (.string a0_2) := (zad zaC.out 2).trans rfl; have hcz13_3 : w12.cell? ⟨zaU, 3, none⟩ = some (.string a0_3) := (zad zaC.out 3).trans rfl; have hcz13_4 : w12.cell? ⟨zaU, 4, none⟩ = some (.string a0_4) := (zad zaC.out 4).trans rfl; have hcz13_5 : w12.cell? ⟨zaU, 5, none⟩ = some (.slice A0_5 l0_5.length c0_5) := (zad zaC.out 5).trans rfl; have hcz13_6 : w12.cell? ⟨zaU, 6, none⟩ = some (.int .i64 a0_6) := (zad zaC.out 6).trans rfl; have hcz13_7 : w12.cell? ⟨zaU, 7, none⟩ = some (.slice A0_7 l0_7.length c0_7) := (zad zaC.out 7).trans rfl; have hcz13_8 : w12.cell? ⟨zaU, 8, none⟩ = some (.string a0_8) := (zad zaC.out 8).trans rfl; have hcz13_9 : w12.cell? ⟨zaU, 9, none⟩ = some (.string a0_9) := (zad zaC.out 9).trans rfl; have hcz13_10 : w12.cell? ⟨zaU, 10, none⟩ = some (.string a0_10) := (zad zaC.out 10).trans rfl; have hcz13_11 : w12.cell? ⟨zaU, 11, none⟩ = some (.string a0_11) := (zad zaC.out 11).trans rfl; have hcz13_12 : w12.cell? ⟨zaU, 12, none⟩ = some (.slice A0_12 l0_12.length c0_12) := (zad zaC.out 12).trans rfl; have hcz13_13 : w12.cell? ⟨zaU, 13, none⟩ = some (.slice A0_13 l0_13.length c0_13) := (zad zaC.out 13).trans rfl; have hcz13_14 : w12.cell? ⟨zaU, 14, none⟩ = some (.string a0_14) := (zad zaC.out 14).trans rfl; have hfz13_0 := zac zaC.out 0; have hfz13_1 := zac zaC.out 1; have hfz13_2 := zac zaC.out 2; have hfz13_3 := zac zaC.out 3; have hfz13_4 := zac zaC.out 4; have hfz13_5 := zac zaC.out 5; have hfz13_6 := zac zaC.out 6; have hfz13_7 := zac zaC.out 7; have hfz13_8 := zac zaC.out 8; have hfz13_9 := zac zaC.out 9; have hfz13_10 := zac zaC.out 10; have hfz13_11 := zac zaC.out 11; have hfz13_12 := zac zaC.out 12; have hfz13_13 := zac zaC.out 13; have hfz13_14 := zac zaC.out 14; have p360 : 0 ≤ (0 : Int) := yq12; have q360 : 0 < (l1.length : Int) := of_decide_eq_true yq1; obtain ⟨ad360, e360, hx360_0⟩ := Kd.za1 HR1.out 0 p360 q360; cases e360; have qi360 : (0 < l1.length) = True := eq_true yq12; (try rw [show ((0 : Int)).toNat = 0 from rfl] at hx360_0); (try rw [Addr.add_zero'] at hx360_0); replace hx360_0 := (HB.out.cell (World.block_lt_of_cell? w _ hx360_0)).trans hx360_0; replace p360 := eq_true p360; replace q360 := eq_true q360; have p361 : 0 ≤ (1 : Int) := yq12; have q361 : 1 < (l1.length : Int) := of_decide_eq_true yq1; obtain ⟨ad361, e361, hx361_0⟩ := Kd.za1 HR1.out 1 p361 q361; obtain rfl : ad360 = ad361 := (by injection e361); (try simp only [show (1 : Int).toNat = 1 from rfl, Nat.reduceMul, Nat.reduceEqDiff, Go.Addr.add, ↓reduceIte] at hx361_0); have qi361 : (1 < l1.length) = True := eq_true yq12; (try rw [show ((1 : Int)).toNat = 1 from rfl] at hx361_0); replace hx361_0 := (HB.out.cell (World.block_lt_of_cell? w _ hx361_0)).trans hx361_0; replace p361 := eq_true p361; replace q361 := eq_true q361) | (go_at_call 86; (with_reducible refine (za0.calls k a0_8 (rdOf ByteArray.empty l1 0) (rdOf ByteArray.empty l1 1) t362 _ A11.out).mono ?_); rintro e w' ⟨rfl, ⟨nd, rfl⟩⟩; (try first | exact ⟨rfl, _, World.drewN_drewN _ _ _⟩ | exact ⟨rfl, _, Eq.trans (World.drewN_drewN _ _ _) (congrArg (World.drewN _) (Nat.add_assoc _ _ _))⟩)))
    repeat (go_quiet (first | ((with_reducible refine zaO (N := 2) rfl ?_); refine zaT ?hg (N := 2) ?hd (cs := #[.string a0_0, .string a0_1, .string a0_2, .string a0_3, .string a0_4, .slice A0_5 l0_5.length c0_5, .int .i64 a0_6, .slice A0_7 l0_7.length c0_7, .string a0_8, .string a0_9, .string a0_10, .string a0_11, .slice A0_12 l0_12.length c0_12, .slice A0_13 l0_13.length c0_13, .string a0_14]) (t := 31) ?hr ?_; (case hd => rfl); (case hg => rfl); (case hr => first | (go_simp; done) | (go_simp; rfl)); intro zaU hg w12 hbox hb; have n0_ := zaa.mk (zao (yq0 HB.out) hb); have n1_ := zaa.mk (hbox); have n2_ := zaa.mk ((by rw [hg]; exact (zar (yq0 HB.out)) : w.heap.size ≤ zaU)); have n3_ := zaa.mk ((by rw [hg]; exact (zar (yq0 HB.out)) : w.heap.size ≤ zaU)); clear HB; have HB := n0_; have zaC := n1_; have GW358 := n2_; have GE358 := n3_; clear n0_ n1_ n2_ n3_ hb hbox hg; have hcz13_0 : w12.cell? ⟨zaU, 0, none⟩ = some (.string a0_0) := (zad zaC.out 0).trans rfl; have hcz13_1 : w12.cell? ⟨zaU, 1, none⟩ = some (.string a0_1) := (zad zaC.out 1).trans rfl; have hcz13_2 : w12.cell? ⟨zaU, 2, none⟩ = some (.string a0_2) := (zad zaC.out 2).trans rfl; have hcz13_3 : w12.cell? ⟨zaU, 3, none⟩ = some (.string a0_3) := (zad zaC.out 3).trans rfl; have hcz13_4 : w12.cell? ⟨zaU, 4, none⟩ = some (.string a0_4) := (zad zaC.out 4).trans rfl; have hcz13_5 : w12.cell? ⟨zaU, 5, none⟩ = some (.slice A0_5 l0_5.length c0_5) := (zad zaC.out 5).trans rfl; have hcz13_6 : w12.cell? ⟨zaU, 6, none⟩ = some (.int .i64 a0_6) := (zad zaC.out 6).trans rfl; have hcz13_7 : w12.cell? ⟨zaU, 7, none⟩ = some (.slice A0_7 l0_7.length c0_7) := (zad zaC.out 7).trans rfl; have hcz13_8 : w12.cell? ⟨zaU, 8, none⟩ = some (.string a0_8) := (zad zaC.out 8).trans rfl; have hcz13_9 : w12.cell? ⟨zaU, 9, none⟩ = some (.string a0_9) := (zad zaC.out 9).trans rfl; have hcz13_10 : w12.cell? ⟨zaU, 10, none⟩ = some (.string a0_10) := (zad zaC.out 10).trans rfl; have hcz13_11 : w12.cell? ⟨zaU, 11, none⟩ = some (.string a0_11) := (zad zaC.out 11).trans rfl; have hcz13_12 : w12.cell? ⟨zaU, 12, none⟩ = some (.slice A0_12 l0_12.length c0_12) := (zad zaC.out 12).trans rfl; have hcz13_13 : w12.cell? ⟨zaU, 13, none⟩ = some (.slice A0_13 l0_13.length c0_13) := (zad zaC.out 13).trans rfl; have hcz13_14 : w12.cell? ⟨zaU, 14, none⟩ = some (.string a0_14) := (zad zaC.out 14).trans rfl; have hfz13_0 := zac zaC.out 0; have hfz13_1 := zac zaC.out 1; have hfz13_2 := zac zaC.out 2; have hfz13_3 := zac zaC.out 3; have hfz13_4 := zac zaC.out 4; have hfz13_5 := zac zaC.out 5; have hfz13_6 := zac zaC.out 6; have hfz13_7 := zac zaC.out 7; have hfz13_8 := zac zaC.out 8; have hfz13_9 := zac zaC.out 9; have hfz13_10 := zac zaC.out 10; have hfz13_11 := zac zaC.out 11; have hfz13_12 := zac zaC.out 12; have hfz13_13 := zac zaC.out 13; have hfz13_14 := zac zaC.out 14; have p360 : 0 ≤ (0 : Int) := yq12; have q360 : 0 < (l1.length : Int) := of_decide_eq_true yq1; obtain ⟨ad360, e360, hx360_0⟩ := Kd.za1 HR1.out 0 p360 q360; cases e360; have qi360 : (0 < l1.length) = True := eq_true yq12; (try rw [show ((0 : Int)).toNat = 0 from rfl] at hx360_0); (try rw [Addr.add_zero'] at hx360_0); replace hx360_0 := (HB.out.cell (World.block_lt_of_cell? w _ hx360_0)).trans hx360_0; replace p360 := eq_true p360; replace q360 := eq_true q360; have p361 : 0 ≤ (1 : Int) := yq12; have q361 : 1 < (l1.length : Int) := of_decide_eq_true yq1; obtain ⟨ad361, e361, hx361_0⟩ := Kd.za1 HR1.out 1 p361 q361; obtain rfl : ad360 = ad361 := (by injection e361); (try simp only [show (1 : Int).toNat = 1 from rfl, Nat.reduceMul, Nat.reduceEqDiff, Go.Addr.add, ↓reduceIte] at hx361_0); have qi361 : (1 < l1.length) = True := eq_true yq12; (try rw [show ((1 : Int)).toNat = 1 from rfl] at hx361_0); replace hx361_0 := (HB.out.cell (World.block_lt_of_cell? w _ hx361_0)).trans hx361_0; replace p361 := eq_true p361; replace q361 := eq_true q361) | (go_at_call 86; (with_reducible refine (za0.calls k a0_8 (rdOf ByteArray.empty l1 0) (rdOf ByteArray.empty l1 1) t362 _ A11.out).mono ?_); rintro e w' ⟨rfl, ⟨nd, rfl⟩⟩; (try first | exact ⟨rfl, _, World.drewN_drewN _ _ _⟩ | exact ⟨rfl, _, Eq.trans (World.drewN_drewN _ _ _) (congrArg (World.drewN _) (Nat.add_assoc _ _ _))⟩))); try go_wp2_with (first | ((with_reducible refine zaO (N := 2) rfl ?_); refine zaT ?hg (N := 2) ?hd (cs := #[.string a0_0, .string a0_1, .string a0_2, .string a0_3, .string a0_4, .slice A0_5 l0_5.length c0_5, .int .i64 a0_6, .slice A0_7 l0_7.length c0_7, .string a0_8, .string a0_9, .string a0_10, .string a0_11, .slice A0_12 l0_12.length c0_12, .slice A0_13 l0_13.length c0_13, .string a0_14]) (t := 31) ?hr ?_; (case hd => rfl); (case hg => rfl); (case hr => first | (go_simp; done) | (go_simp; rfl)); intro zaU hg w12 hbox hb; have n0_ := zaa.mk (zao (yq0 HB.out) hb); have n1_ := zaa.mk (hbox); have n2_ := zaa.mk ((by rw [hg]; exact (zar (yq0 HB.out)) : w.heap.size ≤ zaU)); have n3_ := zaa.mk ((by rw [hg]; exact (zar (yq0 HB.out)) : w.heap.size ≤ zaU)); clear HB; have HB := n0_; have zaC := n1_; have GW358 := n2_; have GE358 := n3_; clear n0_ n1_ n2_ n3_ hb hbox hg; have hcz13_0 : w12.cell? ⟨zaU, 0, none⟩ = some (.string a0_0) := (zad zaC.out 0).trans rfl; have hcz13_1 : w12.cell? ⟨zaU, 1, none⟩ = some (.string a0_1) := (zad zaC.out 1).trans rfl; have hcz13_2 : w12.cell? ⟨zaU, 2, none⟩ = some (.string a0_2) := (zad zaC.out 2).trans rfl; have hcz13_3 : w12.cell? ⟨zaU, 3, none⟩ = some (.string a0_3) := (zad zaC.out 3).trans rfl; have hcz13_4 : w12.cell? ⟨zaU, 4, none⟩ = some (.string a0_4) := (zad zaC.out 4).trans rfl; have hcz13_5 : w12.cell? ⟨zaU, 5, none⟩ = some (.slice A0_5 l0_5.length c0_5) := (zad zaC.out 5).trans rfl; have hcz13_6 : w12.cell? ⟨zaU, 6, none⟩ = some (.int .i64 a0_6) := (zad zaC.out 6).trans rfl; have hcz13_7 : w12.cell? ⟨zaU, 7, none⟩ = some (.slice A0_7 l0_7.length c0_7) := (zad zaC.out 7).trans rfl; have hcz13_8 : w12.cell? ⟨zaU, 8, none⟩ = some (.string a0_8) := (zad zaC.out 8).trans rfl; have hcz13_9 : w12.cell? ⟨zaU, 9, none⟩ = some (.string a0_9) := (zad zaC.out 9).trans rfl; have hcz13_10 : w12.cell? ⟨zaU, 10, none⟩ = some (.string a0_10) := (zad zaC.out 10).trans rfl; have hcz13_11 : w12.cell? ⟨zaU, 11, none⟩ = some (.string a0_11) := (zad zaC.out 11).trans rfl; have hcz13_12 : w12.cell? ⟨zaU, 12, none⟩ = some (.slice A0_12 l0_12.length c0_12) := (zad zaC.out 12).trans rfl; have hcz13_13 : w12.cell? ⟨zaU, 13, none⟩ = some (.slice A0_13 l0_13.length c0_13) := (zad zaC.out 13).trans rfl; have hcz13_14 : w12.cell? ⟨zaU, 14, none⟩ = some (.string a0_14) := (zad zaC.out 14).trans rfl; have hfz13_0 := zac zaC.out 0; have hfz13_1 := zac zaC.out 1; have hfz13_2 := zac zaC.out 2; have hfz13_3 := zac zaC.out 3; have hfz13_4 := zac zaC.out 4; have hfz13_5 := zac zaC.out 5; have hfz13_6 := zac zaC.out 6; have hfz13_7 := zac zaC.out 7; have hfz13_8 := zac zaC.out 8; have hfz13_9 := zac zaC.out 9; have hfz13_10 := zac zaC.out 10; have hfz13_11 := zac zaC.out 11; have hfz13_12 := zac zaC.out 12; have hfz13_13 := zac zaC.out 13; have hfz13_14 := zac zaC.out 14; have p360 : 0 ≤ (0 : Int) := yq12; have q360 : 0 < (l1.length : Int) := of_decide_eq_true yq1; obtain ⟨ad360, e360, hx360_0⟩ := Kd.za1 HR1.out 0 p360 q360; cases e360; have qi360 : (0 < l1.length) = True := eq_true yq12; (try rw [show ((0 : Int)).toNat = 0 from rfl] at hx360_0); (try rw [Addr.add_zero'] at hx360_0); replace hx360_0 := (HB.out.cell (World.block_lt_of_cell? w _ hx360_0)).trans hx360_0; replace p360 := eq_true p360; replace q360 := eq_true q360; have p361 : 0 ≤ (1 : Int) := yq12; have q361 : 1 < (l1.length : Int) := of_decide_eq_true yq1; obtain ⟨ad361, e361, hx361_0⟩ := Kd.za1 HR1.out 1 p361 q361; obtain rfl : ad360 = ad361 := (by injection e361); (try simp only [show (1 : Int).toNat = 1 from rfl, Nat.reduceMul, Nat.reduceEqDiff, Go.Addr.add, ↓reduceIte] at hx361_0); have qi361 : (1 < l1.length) = True := eq_true yq12; (try rw [show ((1 : Int)).toNat = 1 from rfl] at hx361_0); replace hx361_0 := (HB.out.cell (World.block_lt_of_cell? w _ hx361_0)).trans hx361_0; replace p361 := eq_true p361; replace q361 := eq_true q361) | (go_at_call 86; (with_reducible refine (za0.calls k a0_8 (rdOf ByteArray.empty l1 0) (rdOf ByteArray.empty l1 1) t362 _ A11.out).mono ?_); rintro e w' ⟨rfl, ⟨nd, rfl⟩⟩; (try first | exact ⟨rfl, _, World.drewN_drewN _ _ _⟩ | exact ⟨rfl, _, Eq.trans (World.drewN_drewN _ _ _) (congrArg (World.drewN _) (Nat.add_assoc _ _ _))⟩))))
    go_ret
    exact ⟨yq6, yq5 HB.out GE358.out⟩
   rw [if_neg c10] at H
   exact absurd H yq26
  rw [if_neg c9] at H
  exact absurd H yq26
 rw [if_neg c8] at H
 have c8b0 : ((l1.length : Int) == 2) = false := beq_eq_false_iff_ne.mpr c8
 have c8b1 : ((l1.length : Int) != 2) = true := bne_iff_ne.mpr c8
 by_cases c14 : 0 < (l1.length : Int)
 ·rw [if_pos c14] at H
  have c14b0 : decide (0 < (l1.length : Int)) = true := decide_eq_true c14
  have c14b1 : decide (0 < l1.length) = true := decide_eq_true yq12
  clear c14
  by_cases c15 : 1 < (l1.length : Int)
  ·rw [if_pos c15] at H
   have c15b0 : decide (1 < (l1.length : Int)) = true := decide_eq_true c15
   have c15b1 : decide (1 < l1.length) = true := decide_eq_true yq12
   clear c15; replace H := Option.bind_eq_some_iff.mp H
   obtain ⟨t365, A160, H⟩ := H
   replace H : (zbq.l0 k l1 (l1.length : Int) t365 2 a0_0 a0_1 a0_2 a0_3 a0_4 l0_5 a0_6 l0_7 a0_8 a0_9 a0_10 a0_11 l0_12 l0_13 a0_14) = some r := H
   have A16 := zaa.mk A160; clear A160; have H' := zaa.mk H; clear H
   go_enter Tryz.func54, Tryz.ntmps54
   go_wp2_with (first | ((with_reducible refine zaO (N := 2) rfl ?_); refine zaT ?hg (N := 2) ?hd (cs := #[.string a0_0, .string a0_1, .string a0_2, .string a0_3, .string a0_4, .slice A0_5 l0_5.length c0_5, .int .i64 a0_6, .slice A0_7 l0_7.length c0_7, .string a0_8, .string a0_9, .string a0_10, .string a0_11, .slice A0_12 l0_12.length c0_12, .slice A0_13 l0_13.length c0_13, .string a0_14]) (t := 31) ?hr ?_; (case hd => rfl); (case hg => rfl); (case hr => first | (go_simp; done) | (go_simp; rfl)); intro zaU hg w17 hbox hb; have n0_ := zaa.mk (zao (yq0 HB.out) hb); have n1_ := zaa.mk (hbox); have n2_ := zaa.mk ((by rw [hg]; exact (zar (yq0 HB.out)) : w.heap.size ≤ zaU)); have n3_ := zaa.mk ((by rw [hg]; exact (zar (yq0 HB.out)) : w.heap.size ≤ zaU)); clear HB; have HB := n0_; have zaC := n1_; have GW358 := n2_; have GE358 := n3_; clear n0_ n1_ n2_ n3_ hb hbox hg; have hcz18_0 : w17.cell? ⟨zaU, 0, none⟩ = some (.string a0_0) := (zad zaC.out 0).trans rfl; have hcz18_1 : w17.cell? ⟨zaU, 1, none⟩ = some (.string a0_1) := (zad zaC.out 1).trans rfl; have hcz18_2 : w17.cell? ⟨zaU, 2, none⟩ = some (.string a0_2) := (zad zaC.out 2).trans rfl; have hcz18_3 : w17.cell? ⟨zaU, 3, none⟩ = some (.string a0_3) := (zad zaC.out 3).trans rfl; have hcz18_4 : w17.cell? ⟨zaU, 4, none⟩ = some (.string a0_4) := (zad zaC.out 4).trans rfl; have hcz18_5 : w17.cell? ⟨zaU, 5, none⟩ = some (.slice A0_5 l0_5.length c0_5) := (zad zaC.out 5).trans rfl; have hcz18_6 : w17.cell? ⟨zaU, 6, none⟩ = some (.int .i64 a0_6) := (zad zaC.out 6).trans rfl; have hcz18_7 : w17.cell? ⟨zaU, 7, none⟩ = some (.slice A0_7 l0_7.length c0_7) := (zad zaC.out 7).trans rfl; have hcz18_8 : w17.cell? ⟨zaU, 8, none⟩ = some (.string a0_8) := (zad zaC.out 8).trans rfl; have hcz18_9 : w17.cell? ⟨zaU, 9, none⟩ = some (.string a0_9) := (zad zaC.out 9).trans rfl; have hcz18_10 : w17.cell? ⟨zaU, 10, none⟩ = some (.string a0_10) := (zad zaC.out 10).trans rfl; have hcz18_11 : w17.cell? ⟨zaU, 11, none⟩ = some (.string a0_11) := (zad zaC.out 11).trans rfl; have hcz18_12 : w17.cell? ⟨zaU, 12, none⟩ = some (.slice A0_12 l0_12.length c0_12) := (zad zaC.out 12).trans rfl; have hcz18_13 : w17.cell? ⟨zaU, 13, none⟩ = some (.slice A0_13 l0_13.length c0_13) := (zad zaC.out 13).trans rfl; have hcz18_14 : w17.cell? ⟨zaU, 14, none⟩ = some (.string a0_14) := (zad zaC.out 14).trans rfl; have hfz18_0 := zac zaC.out 0; have hfz18_1 := zac zaC.out 1; have hfz18_2 := zac zaC.out 2; have hfz18_3 := zac zaC.out 3; have hfz18_4 := zac zaC.out 4; have hfz18_5 := zac zaC.out 5; have hfz18_6 := zac zaC.out 6; have hfz18_7 := zac zaC.out 7; have hfz18_8 := zac zaC.out 8; have hfz18_9 := zac zaC.out 9; have hfz18_10 := zac zaC.out 10; have hfz18_11 := zac zaC.out 11; have hfz18_12 := zac zaC.out 12; have hfz18_13 := zac zaC.out 13; have hfz18_14 := zac zaC.out 14; have p363 : 0 ≤ (0 : Int) := yq12; have q363 : 0 < (l1.length : Int) := of_decide_eq_true yq1; obtain ⟨ad363, e363, hx363_0⟩ := Kd.za1 HR1.out 0 p363 q363; cases e363; have qi363 : (0 < l1.length) = True := eq_true yq12; (try rw [show ((0 : Int)).toNat = 0 from rfl] at hx363_0); (try rw [Addr.add_zero'] at hx363_0); replace hx363_0 := (HB.out.cell (World.block_lt_of_cell? w _ hx363_0)).trans hx363_0; replace p363 := eq_true p363; replace q363 := eq_true q363; have p364 : 0 ≤ (1 : Int) := yq12; have q364 : 1 < (l1.length : Int) := of_decide_eq_true yq1; obtain ⟨ad364, e364, hx364_0⟩ := Kd.za1 HR1.out 1 p364 q364; obtain rfl : ad363 = ad364 := (by injection e364); (try simp only [show (1 : Int).toNat = 1 from rfl, Nat.reduceMul, Nat.reduceEqDiff, Go.Addr.add, ↓reduceIte] at hx364_0); have qi364 : (1 < l1.length) = True := eq_true yq12; (try rw [show ((1 : Int)).toNat = 1 from rfl] at hx364_0); replace hx364_0 := (HB.out.cell (World.block_lt_of_cell? w _ hx364_0)).trans hx364_0; replace p364 := eq_true p364; replace q364 := eq_true q364) | (go_at_call 86; (with_reducible refine (za0.calls k a0_9 (rdOf ByteArray.empty l1 0) (rdOf ByteArray.empty l1 1) t365 _ A16.out).mono ?_); rintro e w' ⟨rfl, ⟨nd, rfl⟩⟩; (try first | exact ⟨rfl, _, World.drewN_drewN _ _ _⟩ | exact ⟨rfl, _, Eq.trans (World.drewN_drewN _ _ _) (congrArg (World.drewN _) (Nat.add_assoc _ _ _))⟩)))
   repeat (go_quiet (first | ((with_reducible refine zaO (N := 2) rfl ?_); refine zaT ?hg (N := 2) ?hd (cs := #[.string a0_0, .string a0_1, .string a0_2, .string a0_3, .string a0_4, .slice A0_5 l0_5.length c0_5, .int .i64 a0_6, .slice A0_7 l0_7.length c0_7, .string a0_8, .string a0_9, .string a0_10, .string a0_11, .slice A0_12 l0_12.length c0_12, .slice A0_13 l0_13.length c0_13, .string a0_14]) (t := 31) ?hr ?_; (case hd => rfl); (case hg => rfl); (case hr => first | (go_simp; done) | (go_simp; rfl)); intro zaU hg w17 hbox hb; have n0_ := zaa.mk (zao (yq0 HB.out) hb); have n1_ := zaa.mk (hbox); have n2_ := zaa.mk ((by rw [hg]; exact (zar (yq0 HB.out)) : w.heap.size ≤ zaU)); have n3_ := zaa.mk ((by rw [hg]; exact (zar (yq0 HB.out)) : w.heap.size ≤ zaU)); clear HB; have HB := n0_; have zaC := n1_; have GW358 := n2_; have GE358 := n3_; clear n0_ n1_ n2_ n3_ hb hbox hg; have hcz18_0 : w17.cell? ⟨zaU, 0, none⟩ = some (.string a0_0) := (zad zaC.out 0).trans rfl; have hcz18_1 : w17.cell? ⟨zaU, 1, none⟩ = some (.string a0_1) := (zad zaC.out 1).trans rfl; have hcz18_2 : w17.cell? ⟨zaU, 2, none⟩ = some (.string a0_2) := (zad zaC.out 2).trans rfl; have hcz18_3 : w17.cell? ⟨zaU, 3, none⟩ = some (.string a0_3) := (zad zaC.out 3).trans rfl; have hcz18_4 : w17.cell? ⟨zaU, 4, none⟩ = some (.string a0_4) := (zad zaC.out 4).trans rfl; have hcz18_5 : w17.cell? ⟨zaU, 5, none⟩ = some (.slice A0_5 l0_5.length c0_5) := (zad zaC.out 5).trans rfl; have hcz18_6 : w17.cell? ⟨zaU, 6, none⟩ = some (.int .i64 a0_6) := (zad zaC.out 6).trans rfl; have hcz18_7 : w17.cell? ⟨zaU, 7, none⟩ = some (.slice A0_7 l0_7.length c0_7) := (zad zaC.out 7).trans rfl; have hcz18_8 : w17.cell? ⟨zaU, 8, none⟩ = some (.string a0_8) := (zad zaC.out 8).trans rfl; have hcz18_9 : w17.cell? ⟨zaU, 9, none⟩ = some (.string a0_9) := (zad zaC.out 9).trans rfl; have hcz18_10 : w17.cell? ⟨zaU, 10, none⟩ = some (.string a0_10) := (zad zaC.out 10).trans rfl; have hcz18_11 : w17.cell? ⟨zaU, 11, none⟩ = some (.string a0_11) := (zad zaC.out 11).trans rfl; have hcz18_12 : w17.cell? ⟨zaU, 12, none⟩ = some (.slice A0_12 l0_12.length c0_12) := (zad zaC.out 12).trans rfl; have hcz18_13 : w17.cell? ⟨zaU, 13, none⟩ = some (.slice A0_13 l0_13.length c0_13) := (zad zaC.out 13).trans rfl; have hcz18_14 : w17.cell? ⟨zaU, 14, none⟩ = some (.string a0_14) := (zad zaC.out 14).trans rfl; have hfz18_0 := zac zaC.out 0; have hfz18_1 := zac zaC.out 1; have hfz18_2 := zac zaC.out 2; have hfz18_3 := zac zaC.out 3; have hfz18_4 := zac zaC.out 4; have hfz18_5 := zac zaC.out 5; have hfz18_6 := zac zaC.out 6; have hfz18_7 := zac zaC.out 7; have hfz18_8 := zac zaC.out 8; have hfz18_9 := zac zaC.out 9; have hfz18_10 := zac zaC.out 10; have hfz18_11 := zac zaC.out 11; have hfz18_12 := zac zaC.out 12; have hfz18_13 := zac zaC.out 13; have hfz18_14 := zac zaC.out 14; have p363 : 0 ≤ (0 : Int) := yq12; have q363 : 0 < (l1.length : Int) := of_decide_eq_true yq1; obtain ⟨ad363, e363, hx363_0⟩ := Kd.za1 HR1.out 0 p363 q363; cases e363; have qi363 : (0 < l1.length) = True := eq_true yq12; (try rw [show ((0 : Int)).toNat = 0 from rfl] at hx363_0); (try rw [Addr.add_zero'] at hx363_0); replace hx363_0 := (HB.out.cell (World.block_lt_of_cell? w _ hx363_0)).trans hx363_0; replace p363 := eq_true p363; replace q363 := eq_true q363; have p364 : 0 ≤ (1 : Int) := yq12; have q364 : 1 < (l1.length : Int) := of_decide_eq_true yq1; obtain ⟨ad364, e364, hx364_0⟩ := Kd.za1 HR1.out 1 p364 q364; obtain rfl : ad363 = ad364 := (by injection e364); (try simp only [show (1 : Int).toNat = 1 from rfl, Nat.reduceMul, Nat.reduceEqDiff, Go.Addr.add, ↓reduceIte] at hx364_0); have qi364 : (1 < l1.length) = True := eq_true yq12; (try rw [show ((1 : Int)).toNat = 1 from rfl] at hx364_0); replace hx364_0 := (HB.out.cell (World.block_lt_of_cell? w _ hx364_0)).trans hx364_0; replace p364 := eq_true p364; replace q364 := eq_true q364) | (go_at_call 86; (with_reducible refine (za0.calls k a0_9 (rdOf ByteArray.empty l1 0) (rdOf ByteArray.empty l1 1) t365 _ A16.out).mono ?_); rintro e w' ⟨rfl, ⟨nd, rfl⟩⟩; (try first | exact ⟨rfl, _, World.drewN_drewN _ _ _⟩ | exact ⟨rfl, _, Eq.trans (World.drewN_drewN _ _ _) (congrArg (World.drewN _) (Nat.add_assoc _ _ _))⟩))); try go_wp2_with (first | ((with_reducible refine zaO (N := 2) rfl ?_); refine zaT ?hg (N := 2) ?hd (cs := #[.string a0_0, .string a0_1, .string a0_2, .string a0_3, .string a0_4, .slice A0_5 l0_5.length c0_5, .int .i64 a0_6, .slice A0_7 l0_7.length c0_7, .string a0_8, .string a0_9, .string a0_10, .string a0_11, .slice A0_12 l0_12.length c0_12, .slice A0_13 l0_13.length c0_13, .string a0_14]) (t := 31) ?hr ?_; (case hd => rfl); (case hg => rfl); (case hr => first | (go_simp; done) | (go_simp; rfl)); intro zaU hg w17 hbox hb; have n0_ := zaa.mk (zao (yq0 HB.out) hb); have n1_ := zaa.mk (hbox); have n2_ := zaa.mk ((by rw [hg]; exact (zar (yq0 HB.out)) : w.heap.size ≤ zaU)); have n3_ := zaa.mk ((by rw [hg]; exact (zar (yq0 HB.out)) : w.heap.size ≤ zaU)); clear HB; have HB := n0_; have zaC := n1_; have GW358 := n2_; have GE358 := n3_; clear n0_ n1_ n2_ n3_ hb hbox hg; have hcz18_0 : w17.cell? ⟨zaU, 0, none⟩ = some (.string a0_0) := (zad zaC.out 0).trans rfl; have hcz18_1 : w17.cell? ⟨zaU, 1, none⟩ = some (.string a0_1) := (zad zaC.out 1).trans rfl; have hcz18_2 : w17.cell? ⟨zaU, 2, none⟩ = some (.string a0_2) := (zad zaC.out 2).trans rfl; have hcz18_3 : w17.cell? ⟨zaU, 3, none⟩ = some (.string a0_3) := (zad zaC.out 3).trans rfl; have hcz18_4 : w17.cell? ⟨zaU, 4, none⟩ = some (.string a0_4) := (zad zaC.out 4).trans rfl; have hcz18_5 : w17.cell? ⟨zaU, 5, none⟩ = some (.slice A0_5 l0_5.length c0_5) := (zad zaC.out 5).trans rfl; have hcz18_6 : w17.cell? ⟨zaU, 6, none⟩ = some (.int .i64 a0_6) := (zad zaC.out 6).trans rfl; have hcz18_7 : w17.cell? ⟨zaU, 7, none⟩ = some (.slice A0_7 l0_7.length c0_7) := (zad zaC.out 7).trans rfl; have hcz18_8 : w17.cell? ⟨zaU, 8, none⟩ = some (.string a0_8) := (zad zaC.out 8).trans rfl; have hcz18_9 : w17.cell? ⟨zaU, 9, none⟩ = some (.string a0_9) := (zad zaC.out 9).trans rfl; have hcz18_10 : w17.cell? ⟨zaU, 10, none⟩ = some (.string a0_10) := (zad zaC.out 10).trans rfl; have hcz18_11 : w17.cell? ⟨zaU, 11, none⟩ = some (.string a0_11) := (zad zaC.out 11).trans rfl; have hcz18_12 : w17.cell? ⟨zaU, 12, none⟩ = some (.slice A0_12 l0_12.length c0_12) := (zad zaC.out 12).trans rfl; have hcz18_13 : w17.cell? ⟨zaU, 13, none⟩ = some (.slice A0_13 l0_13.length c0_13) := (zad zaC.out 13).trans rfl; have hcz18_14 : w17.cell? ⟨zaU, 14, none⟩ = some (.string a0_14) := (zad zaC.out 14).trans rfl; have hfz18_0 := zac zaC.out 0; have hfz18_1 := zac zaC.out 1; have hfz18_2 := zac zaC.out 2; have hfz18_3 := zac zaC.out 3; have hfz18_4 := zac zaC.out 4; have hfz18_5 := zac zaC.out 5; have hfz18_6 := zac zaC.out 6; have hfz18_7 := zac zaC.out 7; have hfz18_8 := zac zaC.out 8; have hfz18_9 := zac zaC.out 9; have hfz18_10 := zac zaC.out 10; have hfz18_11 := zac zaC.out 11; have hfz18_12 := zac zaC.out 12; have hfz18_13 := zac zaC.out 13; have hfz18_14 := zac zaC.out 14; have p363 : 0 ≤ (0 : Int) := yq12; have q363 : 0 < (l1.length : Int) := of_decide_eq_true yq1; obtain ⟨ad363, e363, hx363_0⟩ := Kd.za1 HR1.out 0 p363 q363; cases e363; have qi363 : (0 < l1.length) = True := eq_true yq12; (try rw [show ((0 : Int)).toNat = 0 from rfl] at hx363_0); (try rw [Addr.add_zero'] at hx363_0); replace hx363_0 := (HB.out.cell (World.block_lt_of_cell? w _ hx363_0)).trans hx363_0; replace p363 := eq_true p363; replace q363 := eq_true q363; have p364 : 0 ≤ (1 : Int) := yq12; have q364 : 1 < (l1.length : Int) := of_decide_eq_true yq1; obtain ⟨ad364, e364, hx364_0⟩ := Kd.za1 HR1.out 1 p364 q364; obtain rfl : ad363 = ad364 := (by injection e364); (try simp only [show (1 : Int).toNat = 1 from rfl, Nat.reduceMul, Nat.reduceEqDiff, Go.Addr.add, ↓reduceIte] at hx364_0); have qi364 : (1 < l1.length) = True := eq_true yq12; (try rw [show ((1 : Int)).toNat = 1 from rfl] at hx364_0); replace hx364_0 := (HB.out.cell (World.block_lt_of_cell? w _ hx364_0)).trans hx364_0; replace p364 := eq_true p364; replace q364 := eq_true q364) | (go_at_call 86; (with_reducible refine (za0.calls k a0_9 (rdOf ByteArray.empty l1 0) (rdOf ByteArray.empty l1 1) t365 _ A16.out).mono ?_); rintro e w' ⟨rfl, ⟨nd, rfl⟩⟩; (try first | exact ⟨rfl, _, World.drewN_drewN _ _ _⟩ | exact ⟨rfl, _, Eq.trans (World.drewN_drewN _ _ _) (congrArg (World.drewN _) (Nat.add_assoc _ _ _))⟩))))
   go_loopg [6, 7] k (fun kq v6 v7 w' => ∃ (x6_1 : ByteArray) (x7_1 : Int), v6 = .string x6_1 ∧ v7 = .int .i64 x7_1 ∧ zaa (zbq.l0 kq l1 (l1.length : Int) x6_1 x7_1 a0_0 a0_1 a0_2 a0_3 a0_4 l0_5 a0_6 l0_7 a0_8 a0_9 a0_10 a0_11 l0_12 l0_13 a0_14 = some r) ∧ zaa (kq ≤ k) ∧ zaa (w'.heap[zaU]? = some (.cells #[.string a0_0, .string a0_1, .string a0_2, .string a0_3, .string a0_4, (.slice A0_5 l0_5.length c0_5), .int .i64 a0_6, (.slice A0_7 l0_7.length c0_7), .string a0_8, .string a0_9, .string a0_10, .string a0_11, (.slice A0_12 l0_12.length c0_12), (.slice A0_13 l0_13.length c0_13), .string a0_14] 31 (0, 0))) ∧ zaa (Below w.heap.size w w'))
   case atStart => exact ⟨(t365), (2), yq4, yq4, H', ⟨Nat.le_refl _⟩, ⟨yq3 zaC.out⟩, ⟨yq5 HB.out GE358.out⟩⟩
   case round =>
    clear H'
    try clear c1
    try clear c3
    try clear c3b0
    try clear c3b1
    try clear c3b2
    try clear c5
    try clear c5b0
    try clear c5b1
    try clear c8
    try clear c8b0
    try clear c8b1
    try clear c14b0
    try clear c14b1
    try clear c15b0
    try clear c15b1
    try clear hcz18_0
    try clear hcz18_1
    try clear hcz18_10
    try clear hcz18_11
    try clear hcz18_12
    try clear hcz18_13
    try clear hcz18_14
    try clear hcz18_2
    try clear hcz18_3
    try clear hcz18_4
    try clear hcz18_5
    try clear hcz18_6
    try clear hcz18_7
    try clear hcz18_8
    try clear hcz18_9
    try clear hfz18_0
    try clear hfz18_1
    try clear hfz18_10
    try clear hfz18_11
    try clear hfz18_12
    try clear hfz18_13
    try clear hfz18_14
    try clear hfz18_2
    try clear hfz18_3
    try clear hfz18_4
    try clear hfz18_5
    try clear hfz18_6
    try clear hfz18_7
    try clear hfz18_8
    try clear hfz18_9
    try clear hx363_0
    try clear hx364_0
    try clear p363
    try clear p364
    try clear q363
    try clear q364
    obtain ⟨x6_1, x7_1, rfl, rfl, HA, HK1, zaC, HB⟩ := hrel
    cases gk with
    | zero => exact absurd HA.out (by simp [zbq.l0])
    | succ k1 =>
     have H := HA.out; clear HA
     simp only [zbq.l0] at H
     by_cases c19 : (wrap64 (x7_1 + 1)) < (l1.length : Int)
     ·rw [if_pos c19] at H
      have c19b0 : decide ((wrap64 (x7_1 + 1)) < (l1.length : Int)) = true := decide_eq_true c19
      clear c19
      by_cases c20 : 0 ≤ x7_1
      ·rw [if_pos c20] at H
       have c20b0 : decide (0 ≤ x7_1) = true := decide_eq_true c20
       clear c20
       by_cases c21 : x7_1 < (l1.length : Int)
       ·rw [if_pos c21] at H
        have c21b0 : decide (x7_1 < (l1.length : Int)) = true := decide_eq_true c21
        clear c21; replace H := Option.bind_eq_some_iff.mp H
        obtain ⟨t367, A220, H⟩ := H
        replace H : (zbq.l0 k1 l1 (l1.length : Int) t367 (wrap64 (x7_1 + 1)) a0_0 a0_1 a0_2 a0_3 a0_4 l0_5 a0_6 l0_7 a0_8 a0_9 a0_10 a0_11 l0_12 l0_13 a0_14) = some r := H
        have A22 := zaa.mk A220; clear A220; have H' := zaa.mk H; clear H
        have hcz23_0 : wr.cell? ⟨zaU, 0, none⟩ = some (.string a0_0) := (zad zaC.out 0).trans rfl
        have hcz23_1 : wr.cell? ⟨zaU, 1, none⟩ = some (.string a0_1) := (zad zaC.out 1).trans rfl
        have hcz23_2 : wr.cell? ⟨zaU, 2, none⟩ = some (.string a0_2) := (zad zaC.out 2).trans rfl
        have hcz23_3 : wr.cell? ⟨zaU, 3, none⟩ = some (.string a0_3) := (zad zaC.out 3).trans rfl
        have hcz23_4 : wr.cell? ⟨zaU, 4, none⟩ = some (.string a0_4) := (zad zaC.out 4).trans rfl
        have hcz23_5 : wr.cell? ⟨zaU, 5, none⟩ = some (.slice A0_5 l0_5.length c0_5) := (zad zaC.out 5).trans rfl
        have hcz23_6 : wr.cell? ⟨zaU, 6, none⟩ = some (.int .i64 a0_6) := (zad zaC.out 6).trans rfl
        have hcz23_7 : wr.cell? ⟨zaU, 7, none⟩ = some (.slice A0_7 l0_7.length c0_7) := (zad zaC.out 7).trans rfl
        have hcz23_8 : wr.cell? ⟨zaU, 8, none⟩ = some (.string a0_8) := (zad zaC.out 8).trans rfl
        have hcz23_9 : wr.cell? ⟨zaU, 9, none⟩ = some (.string a0_9) := (zad zaC.out 9).trans rfl
        have hcz23_10 : wr.cell? ⟨zaU, 10, none⟩ = some (.string a0_10) := (zad zaC.out 10).trans rfl
        have hcz23_11 : wr.cell? ⟨zaU, 11, none⟩ = some (.string a0_11) := (zad zaC.out 11).trans rfl
        have hcz23_12 : wr.cell? ⟨zaU, 12, none⟩ = some (.slice A0_12 l0_12.length c0_12) := (zad zaC.out 12).trans rfl
        have hcz23_13 : wr.cell? ⟨zaU, 13, none⟩ = some (.slice A0_13 l0_13.length c0_13) := (zad zaC.out 13).trans rfl
        have hcz23_14 : wr.cell? ⟨zaU, 14, none⟩ = some (.string a0_14) := (zad zaC.out 14).trans rfl
        have hfz23_0 := zac zaC.out 0
        have hfz23_1 := zac zaC.out 1
        have hfz23_2 := zac zaC.out 2
        have hfz23_3 := zac zaC.out 3
        have hfz23_4 := zac zaC.out 4
        have hfz23_5 := zac zaC.out 5
        have hfz23_6 := zac zaC.out 6
        have hfz23_7 := zac zaC.out 7
        have hfz23_8 := zac zaC.out 8
        have hfz23_9 := zac zaC.out 9
        have hfz23_10 := zac zaC.out 10
        have hfz23_11 := zac zaC.out 11
        have hfz23_12 := zac zaC.out 12
        have hfz23_13 := zac zaC.out 13
        have hfz23_14 := zac zaC.out 14
        have p366 : 0 ≤ (x7_1 : Int) := of_decide_eq_true yq1
        have q366 : x7_1 < (l1.length : Int) := of_decide_eq_true yq1
        obtain ⟨ad366, e366, hx366_0⟩ := Kd.za1 HR1.out x7_1 p366 q366
        obtain rfl : ad363 = ad366 := (by injection e366)
        replace hx366_0 := (HB.out.cell (World.block_lt_of_cell? w _ hx366_0)).trans hx366_0
        replace p366 := eq_true p366
        replace q366 := eq_true q366
        go_wp2_with (first | (go_at_call 86; (with_reducible refine (za0.calls k1 a0_10 x6_1 (rdOf ByteArray.empty l1 x7_1) t367 _ A22.out).mono ?_); rintro e w' ⟨rfl, ⟨nd, rfl⟩⟩; (try first | exact ⟨rfl, _, World.drewN_drewN _ _ _⟩ | exact ⟨rfl, _, Eq.trans (World.drewN_drewN _ _ _) (congrArg (World.drewN _) (Nat.add_assoc _ _ _))⟩)))
        repeat (go_quiet (first | (go_at_call 86; (with_reducible refine (za0.calls k1 a0_10 x6_1 (rdOf ByteArray.empty l1 x7_1) t367 _ A22.out).mono ?_); rintro e w' ⟨rfl, ⟨nd, rfl⟩⟩; (try first | exact ⟨rfl, _, World.drewN_drewN _ _ _⟩ | exact ⟨rfl, _, Eq.trans (World.drewN_drewN _ _ _) (congrArg (World.drewN _) (Nat.add_assoc _ _ _))⟩))); try go_wp2_with (first | (go_at_call 86; (with_reducible refine (za0.calls k1 a0_10 x6_1 (rdOf ByteArray.empty l1 x7_1) t367 _ A22.out).mono ?_); rintro e w' ⟨rfl, ⟨nd, rfl⟩⟩; (try first | exact ⟨rfl, _, World.drewN_drewN _ _ _⟩ | exact ⟨rfl, _, Eq.trans (World.drewN_drewN _ _ _) (congrArg (World.drewN _) (Nat.add_assoc _ _ _))⟩))))
        go_roundg k1
        case measure => have := HK1.out; omega
        case rel => exact ⟨(t367), (wrap64 (x7_1 + 1)), yq4, yq4, H', ⟨yq24 HK1.out⟩, ⟨yq3 zaC.out⟩, ⟨yq5 HB.out GE358.out⟩⟩
       rw [if_neg c21] at H
       exact absurd H yq26
      rw [if_neg c20] at H
      exact absurd H yq26
     rw [if_neg c19] at H
     have c19b0 : decide ((wrap64 (x7_1 + 1)) < (l1.length : Int)) = false := decide_eq_false c19
     clear c19
     obtain ⟨ji24, hji24⟩ : ∃ j_ : Int, (wrap64 ((l1.length : Int) - 1)) = j_ := ⟨_, rfl⟩
     replace H : (if 0 ≤ (ji24) then (if (ji24) < (l1.length : Int) then ((za0.f k1 a0_11 x6_1 (rdOf ByteArray.empty l1 (ji24))).bind fun t369 => (some t369)) else (none)) else (none)) = some r := by first | (rw [hji24] at H; exact H) | (simp only [hji24] at H ⊢; exact H)
     have hji24w : (IntKind.i64.wrap ((l1.length : Int) - 1)) = ji24 := (zaI _).trans hji24
     by_cases c25 : 0 ≤ (ji24)
     ·rw [if_pos c25] at H
      have c25b0 : decide (0 ≤ (ji24)) = true := decide_eq_true c25
      clear c25
      by_cases c26 : (ji24) < (l1.length : Int)
      ·rw [if_pos c26] at H
       have c26b0 : decide ((ji24) < (l1.length : Int)) = true := decide_eq_true c26
       clear c26; replace H := Option.bind_eq_some_iff.mp H
       obtain ⟨t369, A270, H⟩ := H
       replace H : (some t369) = some r := H
       have A27 := zaa.mk A270; clear A270; obtain rfl := Option.some.inj H
       have hcz28_0 : wr.cell? ⟨zaU, 0, none⟩ = some (.string a0_0) := (zad zaC.out 0).trans rfl
       have hcz28_1 : wr.cell? ⟨zaU, 1, none⟩ = some (.string a0_1) := (zad zaC.out 1).trans rfl
       have hcz28_2 : wr.cell? ⟨zaU, 2, none⟩ = some (.string a0_2) := (zad zaC.out 2).trans rfl
       have hcz28_3 : wr.cell? ⟨zaU, 3, none⟩ = some (.string a0_3) := (zad zaC.out 3).trans rfl
       have hcz28_4 : wr.cell? ⟨zaU, 4, none⟩ = some (.string a0_4) := (zad zaC.out 4).trans rfl
       have hcz28_5 : wr.cell? ⟨zaU, 5, none⟩ = some (.slice A0_5 l0_5.length c0_5) := (zad zaC.out 5).trans rfl
       have hcz28_6 : wr.cell? ⟨zaU, 6, none⟩ = some (.int .i64 a0_6) := (zad zaC.out 6).trans rfl
       have hcz28_7 : wr.cell? ⟨zaU, 7, none⟩ = some (.slice A0_7 l0_7.length c0_7) := (zad zaC.out 7).trans rfl
       have hcz28_8 : wr.cell? ⟨zaU, 8, none⟩ = some (.string a0_8) := (zad zaC.out 8).trans rfl
       have hcz28_9 : wr.cell? ⟨zaU, 9, none⟩ = some (.string a0_9) := (zad zaC.out 9).trans rfl
       have hcz28_10 : wr.cell? ⟨zaU, 10, none⟩ = some (.string a0_10) := (zad zaC.out 10).trans rfl
       have hcz28_11 : wr.cell? ⟨zaU, 11, none⟩ = some (.string a0_11) := (zad zaC.out 11).trans rfl
       have hcz28_12 : wr.cell? ⟨zaU, 12, none⟩ = some (.slice A0_12 l0_12.length c0_12) := (zad zaC.out 12).trans rfl
       have hcz28_13 : wr.cell? ⟨zaU, 13, none⟩ = some (.slice A0_13 l0_13.length c0_13) := (zad zaC.out 13).trans rfl
       have hcz28_14 : wr.cell? ⟨zaU, 14, none⟩ = some (.string a0_14) := (zad zaC.out 14).trans rfl
       have hfz28_0 := zac zaC.out 0
       have hfz28_1 := zac zaC.out 1
       have hfz28_2 := zac zaC.out 2
       have hfz28_3 := zac zaC.out 3
       have hfz28_4 := zac zaC.out 4
       have hfz28_5 := zac zaC.out 5
       have hfz28_6 := zac zaC.out 6
       have hfz28_7 := zac zaC.out 7
       have hfz28_8 := zac zaC.out 8
       have hfz28_9 := zac zaC.out 9
       have hfz28_10 := zac zaC.out 10
       have hfz28_11 := zac zaC.out 11
       have hfz28_12 := zac zaC.out 12
       have hfz28_13 := zac zaC.out 13
       have hfz28_14 := zac zaC.out 14
       have p368 : 0 ≤ ((ji24) : Int) := of_decide_eq_true yq1
       have q368 : (ji24) < (l1.length : Int) := of_decide_eq_true yq1
       obtain ⟨ad368, e368, hx368_0⟩ := Kd.za1 HR1.out (ji24) p368 q368
       obtain rfl : ad363 = ad368 := (by injection e368)
       replace hx368_0 := (HB.out.cell (World.block_lt_of_cell? w _ hx368_0)).trans hx368_0
       replace p368 := eq_true p368
       replace q368 := eq_true q368
       go_wp2_with (first | (go_at_call 86; (with_reducible refine (za0.calls k1 a0_11 x6_1 (rdOf ByteArray.empty l1 (ji24)) t369 _ A27.out).mono ?_); rintro e w' ⟨rfl, ⟨nd, rfl⟩⟩; (try first | exact ⟨rfl, _, World.drewN_drewN _ _ _⟩ | exact ⟨rfl, _, Eq.trans (World.drewN_drewN _ _ _) (congrArg (World.drewN _) (Nat.add_assoc _ _ _))⟩)))
       repeat (go_quiet (first | (go_at_call 86; (with_reducible refine (za0.calls k1 a0_11 x6_1 (rdOf ByteArray.empty l1 (ji24)) t369 _ A27.out).mono ?_); rintro e w' ⟨rfl, ⟨nd, rfl⟩⟩; (try first | exact ⟨rfl, _, World.drewN_drewN _ _ _⟩ | exact ⟨rfl, _, Eq.trans (World.drewN_drewN _ _ _) (congrArg (World.drewN _) (Nat.add_assoc _ _ _))⟩))); try go_wp2_with (first | (go_at_call 86; (with_reducible refine (za0.calls k1 a0_11 x6_1 (rdOf ByteArray.empty l1 (ji24)) t369 _ A27.out).mono ?_); rintro e w' ⟨rfl, ⟨nd, rfl⟩⟩; (try first | exact ⟨rfl, _, World.drewN_drewN _ _ _⟩ | exact ⟨rfl, _, Eq.trans (World.drewN_drewN _ _ _) (congrArg (World.drewN _) (Nat.add_assoc _ _ _))⟩))))
       go_ret
       exact ⟨by first | rfl | (simp [zan, zam] <;> rfl) | (simp only [← hji24]; first | rfl | (simp [zan, zam] <;> rfl)) | (simp [*, zan, zam] <;> rfl), yq5 HB.out GE358.out⟩
      rw [if_neg c26] at H
      exact absurd H yq26
     rw [if_neg c25] at H
     exact absurd H yq26
  rw [if_neg c15] at H
  exact absurd H yq26
 rw [if_neg c14] at H
 exact absurd H yq26
end Go.Proofs.YtfafjbolmeimmaaGreatDoor.P
