/- Written by a program of this session: plain Lean functions for Go functions, and for each the proof that the call comes to what the function says. -/
import Derived.Test.YtfafjbolmeimmaaGreatDoorAb
import Derived.Test.YtfafjbolmeimmaaGreatDoorF4
import Derived.Test.YtfafjbolmeimmaaGreatDoorJ30
import Derived.Test.YtfafjbolmeimmaaGreatDoorJ31
namespace Go.Proofs.YtfafjbolmeimmaaGreatDoor.P
open Go.RowKit Go.Proofs.YtfafjbolmeimmaaGreatDoorW.PrintWords Go.Proofs.YtfafjbolmeimmaaGreatDoorW.PrintLast Go.Proofs.YtfafjbolmeimmaaGreatDoorW.PrintMore
attribute [local go_sem] zbw zbx max_two min_two zbe zbd zbu zbv
set_option linter.unusedVariables false
set_option linter.unusedSimpArgs false
mutual
def zau.j0 : Nat → List ByteArray → Bool → ByteArray → ByteArray → ByteArray → ByteArray → ByteArray → List Int → Int → List (S58) → ByteArray → ByteArray → ByteArray → ByteArray → List ByteArray → List ByteArray → ByteArray → Option (ByteArray)
 | 0, _, _, _, _, _, _, _, _, _, _, _, _, _, _, _, _, _ => none
 | k + 1, x1, x16, x384000, x384001, x384002, x384003, x384004, x384005, x384006, x384007, x384008, x384009, x384010, x384011, x384012, x384013, x384014 => if x16 = true then (some (⟨#[]⟩ : ByteArray)) else (if (x1.length : Int) = 0 then (some (⟨#[]⟩ : ByteArray)) else (if (x1.length : Int) = 1 then (if 0 < (x1.length : Int) then ((impl_short.f (rdOf ByteArray.empty x1 0)).bind fun t386 => (some t386)) else (none)) else (if (x1.length : Int) = 2 then (if 0 < (x1.length : Int) then (if 1 < (x1.length : Int) then ((impl_filled.f x384008 (rdOf ByteArray.empty x1 0) (rdOf ByteArray.empty x1 1)).bind fun t389 => ((impl_short.f t389).bind fun t390 => (some t390))) else (none)) else (none)) else (if 0 < (x1.length : Int) then (if 1 < (x1.length : Int) then ((impl_filled.f x384009 (rdOf ByteArray.empty x1 0) (rdOf ByteArray.empty x1 1)).bind fun t393 => (if 2 ≤ (wrap64 ((x1.length : Int) - 1)) then (if (wrap64 ((x1.length : Int) - 1)) ≤ (x1.length : Int) then (zau.l0 k x1 (x1.length : Int) t393 ((x1.take ((wrap64 ((x1.length : Int) - 1)) : Int).toNat).drop 2) (((x1.take ((wrap64 ((x1.length : Int) - 1)) : Int).toNat).drop 2).length : Int) 0 x384000 x384001 x384002 x384003 x384004 x384005 x384006 x384007 x384008 x384009 x384010 x384011 x384012 x384013 x384014) else (none)) else (none))) else (none)) else (none)))))
def zau.l0 : Nat → List ByteArray → Int → ByteArray → List ByteArray → Int → Int → ByteArray → ByteArray → ByteArray → ByteArray → ByteArray → List Int → Int → List (S58) → ByteArray → ByteArray → ByteArray → ByteArray → List ByteArray → List ByteArray → ByteArray → Option (ByteArray)
 | 0, _, _, _, _, _, _, _, _, _, _, _, _, _, _, _, _, _, _, _, _, _ => none
 | k + 1, x1, x5, x6, x52, x53, x54, x384000, x384001, x384002, x384003, x384004, x384005, x384006, x384007, x384008, x384009, x384010, x384011, x384012, x384013, x384014 => if x54 < x53 then (if 0 ≤ x54 then (if x54 < (x52.length : Int) then ((impl_filled.f x384010 x6 (rdOf ByteArray.empty x52 x54)).bind fun t396 => (zau.l0 k x1 x5 t396 x52 x53 (wrap64 (x54 + 1)) x384000 x384001 x384002 x384003 x384004 x384005 x384006 x384007 x384008 x384009 x384010 x384011 x384012 x384013 x384014)) else (none)) else (none)) else (if 0 ≤ (wrap64 (x5 - 1)) then (if (wrap64 (x5 - 1)) < (x1.length : Int) then ((impl_filled.f x384011 x6 (rdOf ByteArray.empty x1 (wrap64 (x5 - 1)))).bind fun t398 => ((impl_short.f t398).bind fun t399 => (some t399))) else (none)) else (none))
end
def zau.f (k : Nat) (a0_0 : ByteArray) (a0_1 : ByteArray) (a0_2 : ByteArray) (a0_3 : ByteArray) (a0_4 : ByteArray) (l0_5 : List Int) (a0_6 : Int) (l0_7 : List (S58)) (a0_8 : ByteArray) (a0_9 : ByteArray) (a0_10 : ByteArray) (a0_11 : ByteArray) (l0_12 : List ByteArray) (l0_13 : List ByteArray) (a0_14 : ByteArray) (l1 : List ByteArray) : Option (ByteArray) := if (l1.length : Int) > 1000 then (zau.j0 k l1 true a0_0 a0_1 a0_2 a0_3 a0_4 l0_5 a0_6 l0_7 a0_8 a0_9 a0_10 a0_11 l0_12 l0_13 a0_14) else ((impl_ready.f a0_0 a0_1 a0_2 a0_3 a0_4 l0_5 a0_6 l0_7 a0_8 a0_9 a0_10 a0_11 l0_12 l0_13 a0_14).bind fun t384 => (zau.j0 k l1 (!t384) a0_0 a0_1 a0_2 a0_3 a0_4 l0_5 a0_6 l0_7 a0_8 a0_9 a0_10 a0_11 l0_12 l0_13 a0_14))
def zau.T10 : Bool × List (List Nat × List Nat) := (true, [([], []), ([0], [0]), ([], []), ([2], [2]), ([3], [3]), ([], []), ([5], [5]), ([6], [6]), ([1, 4, 7], [1, 4, 7]), ([8, 8], [8]), ([9, 9, 0, 1, 2, 3, 4, 5, 6, 7, 8, 9], [9])])
def zau.B10 : List Nat := [0, 1, 0, 4, 12, 0, 32, 96, 255, 511, 1023]
theorem zau.tab10 : rtab .any (opsOf Tryz.f21 10) = zau.T10 := by kernel_rfl
theorem zau.bits10 : waitsOk zau.T10.2 zau.B10 = true := by kernel_rfl
def zau.T11 : Bool × List (List Nat × List Nat) := (true, [([], []), ([0], [0]), ([], []), ([2], [2]), ([3], [3]), ([], []), ([5], [5]), ([6], [6]), ([1, 4, 7], [1, 4, 7]), ([8, 8, 0, 1, 2, 3, 4, 5, 6, 7, 8], [8])])
def zau.B11 : List Nat := [0, 1, 0, 4, 12, 0, 32, 96, 255, 511]
theorem zau.tab11 : rtab .any (opsOf Tryz.f21 11) = zau.T11 := by kernel_rfl
theorem zau.bits11 : waitsOk zau.T11.2 zau.B11 = true := by kernel_rfl
def zau.T17 : Bool × List (List Nat × List Nat) := (true, [([], []), ([0], [0]), ([], []), ([], []), ([], []), ([4], [4]), ([3, 5], [3, 5]), ([6], [6]), ([1, 2, 7], [1, 2, 7]), ([8, 8], [8]), ([9, 9, 0, 1, 2, 3, 4, 5, 6, 7, 8, 9], [9])])
def zau.B17 : List Nat := [0, 1, 0, 0, 0, 16, 56, 120, 255, 511, 1023]
theorem zau.tab17 : rtab .any (opsOf Tryz.f21 17) = zau.T17 := by kernel_rfl
theorem zau.bits17 : waitsOk zau.T17.2 zau.B17 = true := by kernel_rfl
set_option maxHeartbeats 8000000 in
set_option maxRecDepth 100000 in
theorem zau.calls (k : Nat) (a0_0 : ByteArray) (a0_1 : ByteArray) (a0_2 : ByteArray) (a0_3 : ByteArray) (a0_4 : ByteArray) (A0_5 : Option Addr) (c0_5 : Nat) (l0_5 : List Int) (a0_6 : Int) (A0_7 : Option Addr) (c0_7 : Nat) (l0_7 : List (S58)) (a0_8 : ByteArray) (a0_9 : ByteArray) (a0_10 : ByteArray) (a0_11 : ByteArray) (A0_12 : Option Addr) (c0_12 : Nat) (l0_12 : List ByteArray) (A0_13 : Option Addr) (c0_13 : Nat) (l0_13 : List ByteArray) (a0_14 : ByteArray) (A1 : Option Addr) (c1 : Nat) (l1 : List ByteArray) (r : ByteArray) (w : World) (hr0_5 : Kd.C (Kd.int .i64) w A0_5 l0_5.length l0_5) (hc0_5 : l0_5.length ≤ c0_5) (hr0_7 : Kd.C k58 w A0_7 l0_7.length l0_7) (hc0_7 : l0_7.length ≤ c0_7) (hr0_12 : Kd.C Kd.string w A0_12 l0_12.length l0_12) (hc0_12 : l0_12.length ≤ c0_12) (hr0_13 : Kd.C Kd.string w A0_13 l0_13.length l0_13) (hc0_13 : l0_13.length ≤ c0_13) (hr1 : Kd.C Kd.string w A1 l1.length l1) (hc1 : l1.length ≤ c1) (hG : GT w) (h : zau.f k a0_0 a0_1 a0_2 a0_3 a0_4 l0_5 a0_6 l0_7 a0_8 a0_9 a0_10 a0_11 l0_12 l0_13 a0_14 l1 = some r) :
  Calls Tryz.prog 21 #[.agg #[.string a0_0, .string a0_1, .string a0_2, .string a0_3, .string a0_4, .slice A0_5 l0_5.length c0_5, .int .i64 a0_6, .slice A0_7 l0_7.length c0_7, .string a0_8, .string a0_9, .string a0_10, .string a0_11, .slice A0_12 l0_12.length c0_12, .slice A0_13 l0_13.length c0_13, .string a0_14], .slice A1 l1.length c1] w fun e w' => e = .returned (.string r) ∧ Below w.heap.size w w' := by
 have hu31 := Tryz.underlying31
 have HR0_5 := zaa.mk hr0_5; have HC0_5 := zaa.mk hc0_5; clear hr0_5 hc0_5; have HR0_7 := zaa.mk hr0_7; have HC0_7 := zaa.mk hc0_7; clear hr0_7 hc0_7; have HR0_12 := zaa.mk hr0_12; have HC0_12 := zaa.mk hc0_12; clear hr0_12 hc0_12; have HR0_13 := zaa.mk hr0_13; have HC0_13 := zaa.mk hc0_13; clear hr0_13 hc0_13; have HR1 := zaa.mk hr1; have HC1 := zaa.mk hc1; clear hr1 hc1; have HG := zaa.mk hG; clear hG
 have HB := zaa.mk (Below.refl w.heap.size w)
 have H : (if (l1.length : Int) > 1000 then (zau.j0 k l1 true a0_0 a0_1 a0_2 a0_3 a0_4 l0_5 a0_6 l0_7 a0_8 a0_9 a0_10 a0_11 l0_12 l0_13 a0_14) else ((impl_ready.f a0_0 a0_1 a0_2 a0_3 a0_4 l0_5 a0_6 l0_7 a0_8 a0_9 a0_10 a0_11 l0_12 l0_13 a0_14).bind fun t384 => (zau.j0 k l1 (!t384) a0_0 a0_1 a0_2 a0_3 a0_4 l0_5 a0_6 l0_7 a0_8 a0_9 a0_10 a0_11 l0_12 l0_13 a0_14))) = some r := h
 clear h; have HC3 := zaa.mk H; clear H
 go_enter Tryz.func21, Tryz.ntmps21
 go_upto_region 1 with (first | ((with_reducible refine zaO (N := 2) rfl ?_); refine zaT ?hg (N := 2) ?hd (cs := #[.string a0_0, .string a0_1, .string a0_2, .string a0_3, .string a0_4, .slice A0_5 l0_5.length c0_5, .int .i64 a0_6, .slice A0_7 l0_7.length c0_7, .string a0_8, .string a0_9, .string a0_10, .string a0_11, .slice A0_12 l0_12.length c0_12, .slice A0_13 l0_13.length c0_13, .string a0_14]) (t := 31) ?hr ?_; (case hd => rfl); (case hg => rfl); (case hr => first | (go_simp; done) | (go_simp; rfl)); intro zbr hg w4 hbox hb; have n0_ := zaa.mk (zao (yq0 HB.out) hb); have n1_ := zaa.mk (hbox); have n2_ := zaa.mk ((by rw [hg]; exact (zar (yq0 HB.out)) : w.heap.size ≤ zbr)); have n3_ := zaa.mk ((by rw [hg]; exact (zar (yq0 HB.out)) : w.heap.size ≤ zbr)); clear HB; have HB := n0_; have zaG := n1_; have GW383 := n2_; have GE383 := n3_; clear n0_ n1_ n2_ n3_ hb hbox hg))
 (try simp only [Act.put, List.setIfInBounds_toArray, List.set_cons_zero, List.set_cons_succ])
 go_cut [16] (fun v16 wc => ∃ (kq : Nat) (x16_2 : Bool), v16 = .bool x16_2 ∧ zaa (zau.j0 kq l1 x16_2 a0_0 a0_1 a0_2 a0_3 a0_4 l0_5 a0_6 l0_7 a0_8 a0_9 a0_10 a0_11 l0_12 l0_13 a0_14 = some r) ∧ zaa (kq ≤ k) ∧ zaa (wc.heap[zbr]? = some (.cells #[.string a0_0, .string a0_1, .string a0_2, .string a0_3, .string a0_4, (.slice A0_5 l0_5.length c0_5), .int .i64 a0_6, (.slice A0_7 l0_7.length c0_7), .string a0_8, .string a0_9, .string a0_10, .string a0_11, (.slice A0_12 l0_12.length c0_12), (.slice A0_13 l0_13.length c0_13), .string a0_14] 31 (0, 0))) ∧ zaa (Below w.heap.size w wc))
 case first =>
  have H := HC3.out; clear HC3
  by_cases c5 : (l1.length : Int) > 1000
  ·rw [if_pos c5] at H
   have c5b0 : decide (1000 < (l1.length : Int)) = true := decide_eq_true c5
   have c5b1 : decide (1000 < l1.length) = true := decide_eq_true yq12
   clear c5
   (first | rw [c5b0] | rw [c5b1] | (simp only [zaI, zaK]; rw [c5b0]) | skip)
   have H' := zaa.mk H; clear H
   go_wp2
   go_meet
   case rel => exact ⟨_, (true), yq4, H', ⟨yq33⟩, ⟨yq3 zaG.out⟩, ⟨yq5 HB.out GE383.out⟩⟩
  rw [if_neg c5] at H
  have c5b0 : decide (1000 < (l1.length : Int)) = false := decide_eq_false c5
  have c5b1 : decide (1000 < l1.length) = false := decide_eq_false yq12
  clear c5
  (first | rw [c5b0] | rw [c5b1] | (simp only [zaI, zaK]; rw [c5b0]) | skip)
  replace H := Option.bind_eq_some_iff.mp H
  obtain ⟨t384, A60, H⟩ := H
  replace H : (zau.j0 k l1 (!t384) a0_0 a0_1 a0_2 a0_3 a0_4 l0_5 a0_6 l0_7 a0_8 a0_9 a0_10 a0_11 l0_12 l0_13 a0_14) = some r := H
  have A6 := zaa.mk A60; clear A60; have H' := zaa.mk H; clear H
  have hcz7_0 : w4.cell? ⟨zbr, 0, none⟩ = some (.string a0_0) := (zad zaG.out 0).trans rfl
  have hcz7_1 : w4.cell? ⟨zbr, 1, none⟩ = some (.string a0_1) := (zad zaG.out 1).trans rfl
  have hcz7_2 : w4.cell? ⟨zbr, 2, none⟩ = some (.string a0_2) := (zad zaG.out 2).trans rfl
  have hcz7_3 : w4.cell? ⟨zbr, 3, none⟩ = some (.string a0_3) := (zad zaG.out 3).trans rfl
  have hcz7_4 : w4.cell? ⟨zbr, 4, none⟩ = some (.string a0_4) := (zad zaG.out 4).trans rfl
  have hcz7_5 : w4.cell? ⟨zbr, 5, none⟩ = some (.slice A0_5 l0_5.length c0_5) := (zad zaG.out 5).trans rfl
  have hcz7_6 : w4.cell? ⟨zbr, 6, none⟩ = some (.int .i64 a0_6) := (zad zaG.out 6).trans rfl
  have hcz7_7 : w4.cell? ⟨zbr, 7, none⟩ = some (.slice A0_7 l0_7.length c0_7) := (zad zaG.out 7).trans rfl
  have hcz7_8 : w4.cell? ⟨zbr, 8, none⟩ = some (.string a0_8) := (zad zaG.out 8).trans rfl
  have hcz7_9 : w4.cell? ⟨zbr, 9, none⟩ = some (.string a0_9) := (zad zaG.out 9).trans rfl
  have hcz7_10 : w4.cell? ⟨zbr, 10, none⟩ = some (.string a0_10) := (zad zaG.out 10).trans rfl
  have hcz7_11 : w4.cell? ⟨zbr, 11, none⟩ = some (.string a0_11) := (zad zaG.out 11).trans rfl
  have hcz7_12 : w4.cell? ⟨zbr, 12, none⟩ = some (.slice A0_12 l0_12.length c0_12) := (zad zaG.out 12).trans rfl
  have hcz7_13 : w4.cell? ⟨zbr, 13, none⟩ = some (.slice A0_13 l0_13.length c0_13) := (zad zaG.out 13).trans rfl
  have hcz7_14 : w4.cell? ⟨zbr, 14, none⟩ = some (.string a0_14) := (zad zaG.out 14).trans rfl
  have hfz7_0 := zac zaG.out 0
  have hfz7_1 := zac zaG.out 1
  have hfz7_2 := zac zaG.out 2
  have hfz7_3 := zac zaG.out 3
  have hfz7_4 := zac zaG.out 4
  have hfz7_5 := zac zaG.out 5
  have hfz7_6 := zac zaG.out 6
  have hfz7_7 := zac zaG.out 7
  have hfz7_8 := zac zaG.out 8
  have hfz7_9 := zac zaG.out 9
  have hfz7_10 := zac zaG.out 10
  have hfz7_11 := zac zaG.out 11
  have hfz7_12 := zac zaG.out 12
  have hfz7_13 := zac zaG.out 13
  have hfz7_14 := zac zaG.out 14
  go_wp2_with (first | (go_at_call 55; (with_reducible refine (impl_ready.calls a0_0 a0_1 a0_2 a0_3 a0_4 _ _ l0_5 a0_6 _ _ l0_7 a0_8 a0_9 a0_10 a0_11 _ _ l0_12 _ _ l0_13 a0_14 t384 _ ?side1 ?side2 ?side3 ?side4 ?side5 ?side6 ?side7 ?side8 ?side9 A6.out).mono ?_); (case side1 => repeat (first | exact (Kd.za3 HR0_5.out HB.out) | (with_reducible refine Kd.C_alloc ?_ _) | (with_reducible refine Kd.C_drewN ?_ _) | (with_reducible refine Kd.C_drew ?_))); (case side2 => exact HC0_5.out); (case side3 => repeat (first | exact (Kd.za3 HR0_7.out HB.out) | (with_reducible refine Kd.C_alloc ?_ _) | (with_reducible refine Kd.C_drewN ?_ _) | (with_reducible refine Kd.C_drew ?_))); (case side4 => exact HC0_7.out); (case side5 => repeat (first | exact (Kd.za3 HR0_12.out HB.out) | (with_reducible refine Kd.C_alloc ?_ _) | (with_reducible refine Kd.C_drewN ?_ _) | (with_reducible refine Kd.C_drew ?_))); (case side6 => exact HC0_12.out); (case side7 => repeat (first | exact (Kd.za3 HR0_13.out HB.out) | (with_reducible refine Kd.C_alloc ?_ _) | (with_reducible refine Kd.C_drewN ?_ _) | (with_reducible refine Kd.C_drew ?_))); (case side8 => exact HC0_13.out); (case side9 => exact zby HG.out (yq5 HB.out GE383.out)); rintro e w8 ⟨rfl, hb⟩; have n0_ := zaa.mk (zaP (g := zbr) (o := .cells #[.string a0_0, .string a0_1, .string a0_2, .string a0_3, .string a0_4, .slice A0_5 l0_5.length c0_5, .int .i64 a0_6, .slice A0_7 l0_7.length c0_7, .string a0_8, .string a0_9, .string a0_10, .string a0_11, .slice A0_12 l0_12.length c0_12, .slice A0_13 l0_13.length c0_13, .string a0_14] 31 (0, 0)) (yq3 zaG.out) hb); have n1_ := zaa.mk (zao (yq5 HB.out GE383.out) hb); clear zaG HB; have zaG := n0_; have HB := n1_; clear n0_ n1_; (try clear hb); (try clear hb2); (try clear hk); (try clear hi)))
  go_meet
  case rel => exact ⟨_, (!t384), yq4, H', ⟨yq33⟩, ⟨yq3 zaG.out⟩, ⟨yq5 HB.out GE383.out⟩⟩
 case rest =>
  clear HC3
  try clear c1
  obtain ⟨kq, x16_2, rfl, HA, HJ2, zaG, HB⟩ := hcut
  cases kq with
  | zero => exact absurd HA.out (by simp [zau.j0])
  | succ kj2 =>
   have H := HA.out; clear HA
   simp only [zau.j0] at H
   by_cases c9 : x16_2 = true
   ·subst c9
    replace H : (some (⟨#[]⟩ : ByteArray)) = some r := by rw [if_pos rfl] at H; exact H
    obtain rfl := Option.some.inj H
    go_wp2
    go_ret
    exact ⟨yq6, yq5 HB.out GE383.out⟩
   replace c9 := Bool.eq_false_iff.mpr c9
   subst c9
   replace H : (if (l1.length : Int) = 0 then (some (⟨#[]⟩ : ByteArray)) else (if (l1.length : Int) = 1 then (if 0 < (l1.length : Int) then ((impl_short.f (rdOf ByteArray.empty l1 0)).bind fun t386 => (some t386)) else (none)) else (if (l1.length : Int) = 2 then (if 0 < (l1.length : Int) then (if 1 < (l1.length : Int) then ((impl_filled.f a0_8 (rdOf ByteArray.empty l1 0) (rdOf ByteArray.empty l1 1)).bind fun t389 => ((impl_short.f t389).bind fun t390 => (some t390))) else (none)) else (none)) else (if 0 < (l1.length : Int) then (if 1 < (l1.length : Int) then ((impl_filled.f a0_9 (rdOf ByteArray.empty l1 0) (rdOf ByteArray.empty l1 1)).bind fun t393 => (if 2 ≤ (wrap64 ((l1.length : Int) - 1)) then (if (wrap64 ((l1.length : Int) - 1)) ≤ (l1.length : Int) then (zau.l0 kj2 l1 (l1.length : Int) t393 ((l1.take ((wrap64 ((l1.length : Int) - 1)) : Int).toNat).drop 2) (((l1.take ((wrap64 ((l1.length : Int) - 1)) : Int).toNat).drop 2).length : Int) 0 a0_0 a0_1 a0_2 a0_3 a0_4 l0_5 a0_6 l0_7 a0_8 a0_9 a0_10 a0_11 l0_12 l0_13 a0_14) else (none)) else (none))) else (none)) else (none))))) = some r := by rw [if_neg (show ¬ (false = true) by decide)] at H; exact H
   by_cases c10 : (l1.length : Int) = 0
   ·rw [if_pos c10] at H
    have c10b0 : ((l1.length : Int) == 0) = true := beq_iff_eq.mpr c10
    have c10b1 : ((l1.length : Int) != 0) = false := bne_eq_false_iff_eq.mpr c10
    clear c10; obtain rfl := Option.some.inj H
    go_wp2
    go_ret
    exact ⟨yq6, yq5 HB.out GE383.out⟩
   rw [if_neg c10] at H
   have c10b0 : ((l1.length : Int) == 0) = false := beq_eq_false_iff_ne.mpr c10
   have c10b1 : ((l1.length : Int) != 0) = true := bne_iff_ne.mpr c10
   have c10b2 : ¬ (l1 = []) := fun h_ => c10 (by rw [h_]; rfl)
   by_cases c11 : (l1.length : Int) = 1
   ·rw [if_pos c11] at H
    have c11b0 : ((l1.length : Int) == 1) = true := beq_iff_eq.mpr c11
    have c11b1 : ((l1.length : Int) != 1) = false := bne_eq_false_iff_eq.mpr c11
    clear c11
    by_cases c12 : 0 < (l1.length : Int)
    ·rw [if_pos c12] at H
     have c12b0 : decide (0 < (l1.length : Int)) = true := decide_eq_true c12
     have c12b1 : decide (0 < l1.length) = true := decide_eq_true yq12
     clear c12; replace H := Option.bind_eq_some_iff.mp H
     obtain ⟨t386, A130, H⟩ := H
     replace H : (some t386) = some r := H
     have A13 := zaa.mk A130; clear A130; obtain rfl := Option.some.inj H
     have p385 : 0 ≤ (0 : Int) := yq12
     have q385 : 0 < (l1.length : Int) := of_decide_eq_true yq1
     obtain ⟨ad385, e385, hx385_0⟩ := Kd.za1 HR1.out 0 p385 q385
     cases e385
     have qi385 : (0 < l1.length) = True := eq_true yq12
     (try rw [show ((0 : Int)).toNat = 0 from rfl] at hx385_0)
     (try rw [Addr.add_zero'] at hx385_0)
     replace hx385_0 := (HB.out.cell (World.block_lt_of_cell? w _ hx385_0)).trans hx385_0
     replace p385 := eq_true p385
     replace q385 := eq_true q385
     go_wp2_with (first | ((with_reducible refine zaz (f := 56) rfl ?_); refine zbh (some 27) rfl rfl Tryz.func56 yq9 rfl #[.string (rdOf ByteArray.empty l1 0)] rfl yq2 ?_; (with_reducible refine (impl_short.calls (rdOf ByteArray.empty l1 0) t386 _ A13.out).mono ?_); rintro e w' ⟨rfl, ⟨nd, rfl⟩⟩; refine ⟨_, rfl, ?_⟩))
     go_ret
     exact ⟨yq6, yq5 HB.out GE383.out⟩
    rw [if_neg c12] at H
    exact absurd H yq26
   rw [if_neg c11] at H
   have c11b0 : ((l1.length : Int) == 1) = false := beq_eq_false_iff_ne.mpr c11
   have c11b1 : ((l1.length : Int) != 1) = true := bne_iff_ne.mpr c11
   by_cases c14 : (l1.length : Int) = 2
   ·rw [if_pos c14] at H
    have c14b0 : ((l1.length : Int) == 2) = true := beq_iff_eq.mpr c14
    have c14b1 : ((l1.length : Int) != 2) = false := bne_eq_false_iff_eq.mpr c14
    clear c14
    by_cases c15 : 0 < (l1.length : Int)
    ·rw [if_pos c15] at H
     have c15b0 : decide (0 < (l1.length : Int)) = true := decide_eq_true c15
     have c15b1 : decide (0 < l1.length) = true := decide_eq_true yq12
     clear c15
     by_cases c16 : 1 < (l1.length : Int)
     ·rw [if_pos c16] at H
      have c16b0 : decide (1 < (l1.length : Int)) = true := decide_eq_true c16
      have c16b1 : decide (1 < l1.length) = true := decide_eq_true yq12
      clear c16; replace H := Option.bind_eq_some_iff.mp H
      obtain ⟨t389, A170, H⟩ := H
      replace H : ((impl_short.f t389).bind fun t390 => (some t390)) = some r := H
      have A17 := zaa.mk A170; clear A170; replace H := Option.bind_eq_some_iff.mp H
      obtain ⟨t390, A180, H⟩ := H
      replace H : (some t390) = some r := H
      have A18 := zaa.mk A180; clear A180; obtain rfl := Option.some.inj H
      try go_wp2
      have n0_ := zaa.mk (zal zaG.out)
      have n1_ := zaa.mk (zae HB.out)
      clear zaG HB
      have zaG := n0_
      have HB := n1_
      clear n0_ n1_
      have p387 : 0 ≤ (0 : Int) := yq12
      have q387 : 0 < (l1.length : Int) := of_decide_eq_true yq1
      obtain ⟨ad387, e387, hx387_0⟩ := Kd.za1 HR1.out 0 p387 q387
      have hw387_0 := hx387_0
      (try rw [show ((0 : Int)).toNat = 0 from rfl] at hw387_0)
      (try rw [show 0 * 1 = 0 from rfl] at hw387_0)
      (try rw [Addr.add_zero'] at hw387_0)
      cases e387
      have qi387 : (0 < l1.length) = True := eq_true yq12
      (try rw [show ((0 : Int)).toNat = 0 from rfl] at hx387_0)
      (try rw [Addr.add_zero'] at hx387_0)
      replace hx387_0 := (HB.out.cell (World.block_lt_of_cell? w _ hx387_0)).trans hx387_0
      replace p387 := eq_true p387
      replace q387 := eq_true q387
      have p388 : 0 ≤ (1 : Int) := yq12
      have q388 : 1 < (l1.length : Int) := of_decide_eq_true yq1
      obtain ⟨ad388, e388, hx388_0⟩ := Kd.za1 HR1.out 1 p388 q388
      have hw388_0 := hx388_0
      (try rw [show ((1 : Int)).toNat = 1 from rfl] at hw388_0)
      (try rw [show 1 * 1 = 1 from rfl] at hw388_0)
      (try simp only [Nat.reduceMul, Nat.reduceEqDiff, Go.Addr.add, ↓reduceIte] at hw388_0)
      obtain rfl : ad387 = ad388 := (by injection e388)
      (try simp only [show (1 : Int).toNat = 1 from rfl, Nat.reduceMul, Nat.reduceEqDiff, Go.Addr.add, ↓reduceIte] at hx388_0)
      have qi388 : (1 < l1.length) = True := eq_true yq12
      (try rw [show ((1 : Int)).toNat = 1 from rfl] at hx388_0)
      replace hx388_0 := (HB.out.cell (World.block_lt_of_cell? w _ hx388_0)).trans hx388_0
      replace p388 := eq_true p388
      replace q388 := eq_true q388
      refine start_ (n := 11) (S := fun w' => w'.cell? ⟨zbr, 0, none⟩ = some (.string a0_0) ∧ w'.cell? ⟨zbr, 1, none⟩ = some (.string a0_1) ∧ w'.cell? ⟨zbr, 2, none⟩ = some (.string a0_2) ∧ w'.cell? ⟨zbr, 3, none⟩ = some (.string a0_3) ∧ w'.cell? ⟨zbr, 4, none⟩ = some (.string a0_4) ∧ w'.cell? ⟨zbr, 5, none⟩ = some (.slice A0_5 l0_5.length c0_5) ∧ w'.cell? ⟨zbr, 6, none⟩ = some (.int .i64 a0_6) ∧ w'.cell? ⟨zbr, 7, none⟩ = some (.slice A0_7 l0_7.length c0_7) ∧ w'.cell? ⟨zbr, 8, none⟩ = some (.string a0_8) ∧ w'.cell? ⟨zbr, 9, none⟩ = some (.string a0_9) ∧ w'.cell? ⟨zbr, 10, none⟩ = some (.string a0_10) ∧ w'.cell? ⟨zbr, 11, none⟩ = some (.string a0_11) ∧ w'.cell? ⟨zbr, 12, none⟩ = some (.slice A0_12 l0_12.length c0_12) ∧ w'.cell? ⟨zbr, 13, none⟩ = some (.slice A0_13 l0_13.length c0_13) ∧ w'.cell? ⟨zbr, 14, none⟩ = some (.string a0_14) ∧ w'.cell? ad387 = some (.string (rdOf ByteArray.empty l1 0)) ∧ w'.cell? ⟨ad387.block, ad387.off + 1, none⟩ = some (.string (rdOf ByteArray.empty l1 1))) (ds := []) #[false, false, false, false, false, false, false, false, false, false, false] yq9 rfl rfl ⟨(zad zaG.out 0).trans rfl, (zad zaG.out 1).trans rfl, (zad zaG.out 2).trans rfl, (zad zaG.out 3).trans rfl, (zad zaG.out 4).trans rfl, (zad zaG.out 5).trans rfl, (zad zaG.out 6).trans rfl, (zad zaG.out 7).trans rfl, (zad zaG.out 8).trans rfl, (zad zaG.out 9).trans rfl, (zad zaG.out 10).trans rfl, (zad zaG.out 11).trans rfl, (zad zaG.out 12).trans rfl, (zad zaG.out 13).trans rfl, (zad zaG.out 14).trans rfl, ((HB.out.cell (World.block_lt_of_cell? w _ hw387_0)).trans hw387_0), ((HB.out.cell (World.block_lt_of_cell? w _ hw388_0)).trans hw388_0)⟩ (fun hHeld => ?_); refine zbz zau.tab10 zau.bits10 (fun HT_ HW_ => ?_)
      generalize wc.drew = w19 at zaG HB hx387_0 hx388_0 hHeld ⊢
      refine pure_ (i := 0) (N := some 30) (v := ?_) (a' := ?_) #[true, false, false, false, false, false, false, false, false, false, false] rfl rfl (any_of HT_.out yq9) (fun _ _ _ h => h) (Or.inl ⟨yq35, ?_⟩) ?_ ?_
      rotate_left
      ·intro w'
       go_simp
       with_reducible rfl
      rotate_left
      ·simp only [Act.put, List.setIfInBounds_toArray, List.set_cons_zero, List.set_cons_succ, zaI, zaK]
       rfl
      refine pure_ (i := 2) (N := some 32) (v := ?_) (a' := ?_) #[true, false, true, false, false, false, false, false, false, false, false] rfl rfl (any_of HT_.out yq9) (fun _ _ _ h => h) (Or.inl ⟨yq35, ?_⟩) ?_ ?_
      rotate_left
      ·intro w'
       go_simp
       with_reducible rfl
      rotate_left
      ·simp only [Act.put, List.setIfInBounds_toArray, List.set_cons_zero, List.set_cons_succ, zaI, zaK]
       rfl
      refine pure_ (i := 3) (N := some 33) (v := ?_) (a' := ?_) #[true, false, true, true, false, false, false, false, false, false, false] rfl rfl (any_of HT_.out yq9) (fun _ _ _ h => h) (Or.inl ⟨yq35, ?_⟩) ?_ ?_
      rotate_left
      ·intro w'
       go_simp
       with_reducible rfl
      rotate_left
      ·simp only [Act.put, List.setIfInBounds_toArray, List.set_cons_zero, List.set_cons_succ, zaI, zaK]
       rfl
      refine pure_ (i := 5) (N := some 35) (v := ?_) (a' := ?_) #[true, false, true, true, false, true, false, false, false, false, false] rfl rfl (any_of HT_.out yq9) (fun _ _ _ h => h) (Or.inl ⟨yq35, ?_⟩) ?_ ?_
      rotate_left
      ·intro w'
       go_simp
       with_reducible rfl
      rotate_left
      ·simp only [Act.put, List.setIfInBounds_toArray, List.set_cons_zero, List.set_cons_succ, zaI, zaK]
       rfl
      refine pure_ (i := 6) (N := some 36) (v := ?_) (a' := ?_) #[true, false, true, true, false, true, true, false, false, false, false] rfl rfl (any_of HT_.out yq9) (fun _ _ _ h => h) (Or.inl ⟨yq35, ?_⟩) ?_ ?_
      rotate_left
      ·intro w'
       go_simp
       with_reducible rfl
      rotate_left
      ·simp only [Act.put, List.setIfInBounds_toArray, List.set_cons_zero, List.set_cons_succ, zaI, zaK]
       rfl
      refine take_ (i := 1) (N := some 31) (v := ?_) (a' := ?_) #[true, true, true, true, false, true, true, false, false, false, false] rfl rfl (take_ofW HT_.out HW_.out yq9) (fun _ _ _ h => h) (Or.inl ⟨yq35, ?_⟩) hHeld ?_ ?_
      rotate_left
      ·rintro w' ⟨s0, s1, s2, s3, s4, s5, s6, s7, s8, s9, s10, s11, s12, s13, s14, s15, s16⟩
       go_simp
       with_reducible rfl
      rotate_left
      ·simp only [Act.put, List.setIfInBounds_toArray, List.set_cons_zero, List.set_cons_succ, zaI, zaK]
       rfl
      refine take_ (i := 4) (N := some 34) (v := ?_) (a' := ?_) #[true, true, true, true, true, true, true, false, false, false, false] rfl rfl (take_ofW HT_.out HW_.out yq9) (fun _ _ _ h => h) (Or.inl ⟨yq35, ?_⟩) hHeld ?_ ?_
      rotate_left
      ·rintro w' ⟨s0, s1, s2, s3, s4, s5, s6, s7, s8, s9, s10, s11, s12, s13, s14, s15, s16⟩
       go_simp
       with_reducible rfl
      rotate_left
      ·simp only [Act.put, List.setIfInBounds_toArray, List.set_cons_zero, List.set_cons_succ, zaI, zaK]
       rfl
      refine take_ (i := 7) (N := some 37) (v := ?_) (a' := ?_) #[true, true, true, true, true, true, true, true, false, false, false] rfl rfl (take_ofW HT_.out HW_.out yq9) (fun _ _ _ h => h) (Or.inl ⟨yq35, ?_⟩) hHeld ?_ ?_
      rotate_left
      ·rintro w' ⟨s0, s1, s2, s3, s4, s5, s6, s7, s8, s9, s10, s11, s12, s13, s14, s15, s16⟩
       go_simp
       with_reducible rfl
      rotate_left
      ·simp only [Act.put, List.setIfInBounds_toArray, List.set_cons_zero, List.set_cons_succ, zaI, zaK]
       rfl
      refine one_ (i := 8) (N := some 38) #[true, true, true, true, true, true, true, true, true, false, false] rfl rfl (one_of HT_.out yq9) yq43 (fun K hK => ?_)
      refine goes_ Tryz.func57 yq9 rfl #[.string a0_8, .string (rdOf ByteArray.empty l1 0), .string (rdOf ByteArray.empty l1 1)] yq35 rfl rfl yq2 ?_
      with_reducible refine (impl_filled.calls a0_8 (rdOf ByteArray.empty l1 0) (rdOf ByteArray.empty l1 1) t389 _ ?side1 A17.out).mono ?_
      (case side1 => exact zby HG.out (yq5 HB.out GE383.out))
      rintro e w20 ⟨rfl, hb⟩
      refine ⟨_, rfl, ?_⟩
      have n0_ := zaa.mk (zaP (g := zbr) (o := .cells #[.string a0_0, .string a0_1, .string a0_2, .string a0_3, .string a0_4, .slice A0_5 l0_5.length c0_5, .int .i64 a0_6, .slice A0_7 l0_7.length c0_7, .string a0_8, .string a0_9, .string a0_10, .string a0_11, .slice A0_12 l0_12.length c0_12, .slice A0_13 l0_13.length c0_13, .string a0_14] 31 (0, 0)) (yq3 zaG.out) hb)
      have n1_ := zaa.mk (zao (yq5 HB.out GE383.out) hb)
      clear zaG HB
      have zaG := n0_
      have HB := n1_
      clear n0_ n1_
      (try clear hb)
      (try clear hb2)
      (try clear hk)
      (try clear hi)
      refine hK.out _ _ ⟨(zad zaG.out 0).trans rfl, (zad zaG.out 1).trans rfl, (zad zaG.out 2).trans rfl, (zad zaG.out 3).trans rfl, (zad zaG.out 4).trans rfl, (zad zaG.out 5).trans rfl, (zad zaG.out 6).trans rfl, (zad zaG.out 7).trans rfl, (zad zaG.out 8).trans rfl, (zad zaG.out 9).trans rfl, (zad zaG.out 10).trans rfl, (zad zaG.out 11).trans rfl, (zad zaG.out 12).trans rfl, (zad zaG.out 13).trans rfl, (zad zaG.out 14).trans rfl, ((HB.out.cell (World.block_lt_of_cell? w _ hw387_0)).trans hw387_0), ((HB.out.cell (World.block_lt_of_cell? w _ hw388_0)).trans hw388_0)⟩ (fun hHeld => ?_)
      clear hK K
      refine norm_ (a' := ?_) ?_ ?_
      rotate_left
      ·show Act.put _ (some 38) _ = _
       simp only [Act.put, List.setIfInBounds_toArray, List.set_cons_zero, List.set_cons_succ, zaI, zaK]
       rfl
      refine one_ (i := 9) (N := some 39) #[true, true, true, true, true, true, true, true, true, true, false] rfl rfl (one_of HT_.out yq9) yq43 (fun K hK => ?_)
      refine goes_ Tryz.func56 yq9 rfl #[.string t389] yq35 rfl rfl yq2 ?_
      with_reducible refine (impl_short.calls t389 t390 _ A18.out).mono ?_
      rintro e w' ⟨rfl, ⟨nd, rfl⟩⟩
      refine ⟨_, rfl, ?_⟩
      refine hK.out _ _ ⟨(zad zaG.out 0).trans rfl, (zad zaG.out 1).trans rfl, (zad zaG.out 2).trans rfl, (zad zaG.out 3).trans rfl, (zad zaG.out 4).trans rfl, (zad zaG.out 5).trans rfl, (zad zaG.out 6).trans rfl, (zad zaG.out 7).trans rfl, (zad zaG.out 8).trans rfl, (zad zaG.out 9).trans rfl, (zad zaG.out 10).trans rfl, (zad zaG.out 11).trans rfl, (zad zaG.out 12).trans rfl, (zad zaG.out 13).trans rfl, (zad zaG.out 14).trans rfl, ((HB.out.cell (World.block_lt_of_cell? w _ hw387_0)).trans hw387_0), ((HB.out.cell (World.block_lt_of_cell? w _ hw388_0)).trans hw388_0)⟩ (fun hHeld => ?_)
      clear hK K
      refine norm_ (a' := ?_) ?_ ?_
      rotate_left
      ·show Act.put _ (some 39) _ = _
       simp only [Act.put, List.setIfInBounds_toArray, List.set_cons_zero, List.set_cons_succ, zaI, zaK]
       rfl
      refine pure_ (i := 10) (N := some 4) (v := ?_) (a' := ?_) #[true, true, true, true, true, true, true, true, true, true, true] rfl rfl (any_of HT_.out yq9) (fun _ _ _ h => h) (Or.inl ⟨yq35, ?_⟩) ?_ ?_
      rotate_left
      ·intro w'
       go_simp
       with_reducible rfl
      rotate_left
      ·simp only [Act.put, List.setIfInBounds_toArray, List.set_cons_zero, List.set_cons_succ, zaI, zaK]
       rfl
      refine done_ (done_of HT_.out yq9) ?_
      try go_wp2
      go_ret
      exact ⟨yq6, yq5 HB.out GE383.out⟩
     rw [if_neg c16] at H
     exact absurd H yq26
    rw [if_neg c15] at H
    exact absurd H yq26
   rw [if_neg c14] at H
   have c14b0 : ((l1.length : Int) == 2) = false := beq_eq_false_iff_ne.mpr c14
   have c14b1 : ((l1.length : Int) != 2) = true := bne_iff_ne.mpr c14
   by_cases c21 : 0 < (l1.length : Int)
   ·rw [if_pos c21] at H
    have c21b0 : decide (0 < (l1.length : Int)) = true := decide_eq_true c21
    have c21b1 : decide (0 < l1.length) = true := decide_eq_true yq12
    clear c21
    by_cases c22 : 1 < (l1.length : Int)
    ·rw [if_pos c22] at H
     have c22b0 : decide (1 < (l1.length : Int)) = true := decide_eq_true c22
     have c22b1 : decide (1 < l1.length) = true := decide_eq_true yq12
     clear c22; replace H := Option.bind_eq_some_iff.mp H
     obtain ⟨t393, A230, H⟩ := H
     replace H : (if 2 ≤ (wrap64 ((l1.length : Int) - 1)) then (if (wrap64 ((l1.length : Int) - 1)) ≤ (l1.length : Int) then (zau.l0 kj2 l1 (l1.length : Int) t393 ((l1.take ((wrap64 ((l1.length : Int) - 1)) : Int).toNat).drop 2) (((l1.take ((wrap64 ((l1.length : Int) - 1)) : Int).toNat).drop 2).length : Int) 0 a0_0 a0_1 a0_2 a0_3 a0_4 l0_5 a0_6 l0_7 a0_8 a0_9 a0_10 a0_11 l0_12 l0_13 a0_14) else (none)) else (none)) = some r := H
     have A23 := zaa.mk A230; clear A230
     by_cases c24 : 2 ≤ (wrap64 ((l1.length : Int) - 1))
     ·rw [if_pos c24] at H
      have c24b0 := eq_true c24
      have c24b1 : decide (2 ≤ (wrap64 ((l1.length : Int) - 1))) = true := decide_eq_true c24
      clear c24
      by_cases c25 : (wrap64 ((l1.length : Int) - 1)) ≤ (l1.length : Int)
      ·rw [if_pos c25] at H
       have c25b0 := eq_true c25
       have c25b1 : decide ((wrap64 ((l1.length : Int) - 1)) ≤ (l1.length : Int)) = true := decide_eq_true c25
       clear c25; have H' := zaa.mk H; clear H
       try go_wp2
       have n0_ := zaa.mk (zal zaG.out)
       have n1_ := zaa.mk (zae HB.out)
       clear zaG HB
       have zaG := n0_
       have HB := n1_
       clear n0_ n1_
       have p391 : 0 ≤ (0 : Int) := yq12
       have q391 : 0 < (l1.length : Int) := of_decide_eq_true yq1
       obtain ⟨ad391, e391, hx391_0⟩ := Kd.za1 HR1.out 0 p391 q391
       have hw391_0 := hx391_0
       (try rw [show ((0 : Int)).toNat = 0 from rfl] at hw391_0)
       (try rw [show 0 * 1 = 0 from rfl] at hw391_0)
       (try rw [Addr.add_zero'] at hw391_0)
       cases e391
       have qi391 : (0 < l1.length) = True := eq_true yq12
       (try rw [show ((0 : Int)).toNat = 0 from rfl] at hx391_0)
       (try rw [Addr.add_zero'] at hx391_0)
       replace hx391_0 := (HB.out.cell (World.block_lt_of_cell? w _ hx391_0)).trans hx391_0
       replace p391 := eq_true p391
       replace q391 := eq_true q391
       have p392 : 0 ≤ (1 : Int) := yq12
       have q392 : 1 < (l1.length : Int) := of_decide_eq_true yq1
       obtain ⟨ad392, e392, hx392_0⟩ := Kd.za1 HR1.out 1 p392 q392
       have hw392_0 := hx392_0
       (try rw [show ((1 : Int)).toNat = 1 from rfl] at hw392_0)
       (try rw [show 1 * 1 = 1 from rfl] at hw392_0)
       (try simp only [Nat.reduceMul, Nat.reduceEqDiff, Go.Addr.add, ↓reduceIte] at hw392_0)
       obtain rfl : ad391 = ad392 := (by injection e392)
       (try simp only [show (1 : Int).toNat = 1 from rfl, Nat.reduceMul, Nat.reduceEqDiff, Go.Addr.add, ↓reduceIte] at hx392_0)
       have qi392 : (1 < l1.length) = True := eq_true yq12
       (try rw [show ((1 : Int)).toNat = 1 from rfl] at hx392_0)
       replace hx392_0 := (HB.out.cell (World.block_lt_of_cell? w _ hx392_0)).trans hx392_0
       replace p392 := eq_true p392
       replace q392 := eq_true q392
       refine start_ (n := 10) (S := fun w' => w'.cell? ⟨zbr, 0, none⟩ = some (.string a0_0) ∧ w'.cell? ⟨zbr, 1, none⟩ = some (.string a0_1) ∧ w'.cell? ⟨zbr, 2, none⟩ = some (.string a0_2) ∧ w'.cell? ⟨zbr, 3, none⟩ = some (.string a0_3) ∧ w'.cell? ⟨zbr, 4, none⟩ = some (.string a0_4) ∧ w'.cell? ⟨zbr, 5, none⟩ = some (.slice A0_5 l0_5.length c0_5) ∧ w'.cell? ⟨zbr, 6, none⟩ = some (.int .i64 a0_6) ∧ w'.cell? ⟨zbr, 7, none⟩ = some (.slice A0_7 l0_7.length c0_7) ∧ w'.cell? ⟨zbr, 8, none⟩ = some (.string a0_8) ∧ w'.cell? ⟨zbr, 9, none⟩ = some (.string a0_9) ∧ w'.cell? ⟨zbr, 10, none⟩ = some (.string a0_10) ∧ w'.cell? ⟨zbr, 11, none⟩ = some (.string a0_11) ∧ w'.cell? ⟨zbr, 12, none⟩ = some (.slice A0_12 l0_12.length c0_12) ∧ w'.cell? ⟨zbr, 13, none⟩ = some (.slice A0_13 l0_13.length c0_13) ∧ w'.cell? ⟨zbr, 14, none⟩ = some (.string a0_14) ∧ w'.cell? ad391 = some (.string (rdOf ByteArray.empty l1 0)) ∧ w'.cell? ⟨ad391.block, ad391.off + 1, none⟩ = some (.string (rdOf ByteArray.empty l1 1))) (ds := []) #[false, false, false, false, false, false, false, false, false, false] yq9 rfl rfl ⟨(zad zaG.out 0).trans rfl, (zad zaG.out 1).trans rfl, (zad zaG.out 2).trans rfl, (zad zaG.out 3).trans rfl, (zad zaG.out 4).trans rfl, (zad zaG.out 5).trans rfl, (zad zaG.out 6).trans rfl, (zad zaG.out 7).trans rfl, (zad zaG.out 8).trans rfl, (zad zaG.out 9).trans rfl, (zad zaG.out 10).trans rfl, (zad zaG.out 11).trans rfl, (zad zaG.out 12).trans rfl, (zad zaG.out 13).trans rfl, (zad zaG.out 14).trans rfl, ((HB.out.cell (World.block_lt_of_cell? w _ hw391_0)).trans hw391_0), ((HB.out.cell (World.block_lt_of_cell? w _ hw392_0)).trans hw392_0)⟩ (fun hHeld => ?_); refine zbz zau.tab11 zau.bits11 (fun HT_ HW_ => ?_)
       generalize wc.drew = w26 at zaG HB hx391_0 hx392_0 hHeld ⊢
       refine pure_ (i := 0) (N := some 40) (v := ?_) (a' := ?_) #[true, false, false, false, false, false, false, false, false, false] rfl rfl (any_of HT_.out yq9) (fun _ _ _ h => h) (Or.inl ⟨yq35, ?_⟩) ?_ ?_
       rotate_left
       ·intro w'
        go_simp
        with_reducible rfl
       rotate_left
       ·simp only [Act.put, List.setIfInBounds_toArray, List.set_cons_zero, List.set_cons_succ, zaI, zaK]
        rfl
       refine pure_ (i := 2) (N := some 42) (v := ?_) (a' := ?_) #[true, false, true, false, false, false, false, false, false, false] rfl rfl (any_of HT_.out yq9) (fun _ _ _ h => h) (Or.inl ⟨yq35, ?_⟩) ?_ ?_
       rotate_left
       ·intro w'
        go_simp
        with_reducible rfl
       rotate_left
       ·simp only [Act.put, List.setIfInBounds_toArray, List.set_cons_zero, List.set_cons_succ, zaI, zaK]
        rfl
       refine pure_ (i := 3) (N := some 43) (v := ?_) (a' := ?_) #[true, false, true, true, false, false, false, false, false, false] rfl rfl (any_of HT_.out yq9) (fun _ _ _ h => h) (Or.inl ⟨yq35, ?_⟩) ?_ ?_
       rotate_left
       ·intro w'
        go_simp
        with_reducible rfl
       rotate_left
       ·simp only [Act.put, List.setIfInBounds_toArray, List.set_cons_zero, List.set_cons_succ, zaI, zaK]
        rfl
       refine pure_ (i := 5) (N := some 45) (v := ?_) (a' := ?_) #[true, false, true, true, false, true, false, false, false, false] rfl rfl (any_of HT_.out yq9) (fun _ _ _ h => h) (Or.inl ⟨yq35, ?_⟩) ?_ ?_
       rotate_left
       ·intro w'
        go_simp
        with_reducible rfl
       rotate_left
       ·simp only [Act.put, List.setIfInBounds_toArray, List.set_cons_zero, List.set_cons_succ, zaI, zaK]
        rfl
       refine pure_ (i := 6) (N := some 46) (v := ?_) (a' := ?_) #[true, false, true, true, false, true, true, false, false, false] rfl rfl (any_of HT_.out yq9) (fun _ _ _ h => h) (Or.inl ⟨yq35, ?_⟩) ?_ ?_
       rotate_left
       ·intro w'
        go_simp
        with_reducible rfl
       rotate_left
       ·simp only [Act.put, List.setIfInBounds_toArray, List.set_cons_zero, List.set_cons_succ, zaI, zaK]
        rfl
       refine take_ (i := 1) (N := some 41) (v := ?_) (a' := ?_) #[true, true, true, true, false, true, true, false, false, false] rfl rfl (take_ofW HT_.out HW_.out yq9) (fun _ _ _ h => h) (Or.inl ⟨yq35, ?_⟩) hHeld ?_ ?_
       rotate_left
       ·rintro w' ⟨s0, s1, s2, s3, s4, s5, s6, s7, s8, s9, s10, s11, s12, s13, s14, s15, s16⟩
        go_simp
        with_reducible rfl
       rotate_left
       ·simp only [Act.put, List.setIfInBounds_toArray, List.set_cons_zero, List.set_cons_succ, zaI, zaK]
        rfl
       refine take_ (i := 4) (N := some 44) (v := ?_) (a' := ?_) #[true, true, true, true, true, true, true, false, false, false] rfl rfl (take_ofW HT_.out HW_.out yq9) (fun _ _ _ h => h) (Or.inl ⟨yq35, ?_⟩) hHeld ?_ ?_
       rotate_left
       ·rintro w' ⟨s0, s1, s2, s3, s4, s5, s6, s7, s8, s9, s10, s11, s12, s13, s14, s15, s16⟩
        go_simp
        with_reducible rfl
       rotate_left
       ·simp only [Act.put, List.setIfInBounds_toArray, List.set_cons_zero, List.set_cons_succ, zaI, zaK]
        rfl
       refine take_ (i := 7) (N := some 47) (v := ?_) (a' := ?_) #[true, true, true, true, true, true, true, true, false, false] rfl rfl (take_ofW HT_.out HW_.out yq9) (fun _ _ _ h => h) (Or.inl ⟨yq35, ?_⟩) hHeld ?_ ?_
       rotate_left
       ·rintro w' ⟨s0, s1, s2, s3, s4, s5, s6, s7, s8, s9, s10, s11, s12, s13, s14, s15, s16⟩
        go_simp
        with_reducible rfl
       rotate_left
       ·simp only [Act.put, List.setIfInBounds_toArray, List.set_cons_zero, List.set_cons_succ, zaI, zaK]
        rfl
       refine one_ (i := 8) (N := some 48) #[true, true, true, true, true, true, true, true, true, false] rfl rfl (one_of HT_.out yq9) yq43 (fun K hK => ?_)
       refine goes_ Tryz.func57 yq9 rfl #[.string a0_9, .string (rdOf ByteArray.empty l1 0), .string (rdOf ByteArray.empty l1 1)] yq35 rfl rfl yq2 ?_
       with_reducible refine (impl_filled.calls a0_9 (rdOf ByteArray.empty l1 0) (rdOf ByteArray.empty l1 1) t393 _ ?side1 A23.out).mono ?_
       (case side1 => exact zby HG.out (yq5 HB.out GE383.out))
       rintro e w27 ⟨rfl, hb⟩
       refine ⟨_, rfl, ?_⟩
       have n0_ := zaa.mk (zaP (g := zbr) (o := .cells #[.string a0_0, .string a0_1, .string a0_2, .string a0_3, .string a0_4, .slice A0_5 l0_5.length c0_5, .int .i64 a0_6, .slice A0_7 l0_7.length c0_7, .string a0_8, .string a0_9, .string a0_10, .string a0_11, .slice A0_12 l0_12.length c0_12, .slice A0_13 l0_13.length c0_13, .string a0_14] 31 (0, 0)) (yq3 zaG.out) hb)
       have n1_ := zaa.mk (zao (yq5 HB.out GE383.out) hb)
       clear zaG HB
       have zaG := n0_
       have HB := n1_
       clear n0_ n1_
       (try clear hb)
       (try clear hb2)
       (try clear hk)
       (try clear hi)
       refine hK.out _ _ ⟨(zad zaG.out 0).trans rfl, (zad zaG.out 1).trans rfl, (zad zaG.out 2).trans rfl, (zad zaG.out 3).trans rfl, (zad zaG.out 4).trans rfl, (zad zaG.out 5).trans rfl, (zad zaG.out 6).trans rfl, (zad zaG.out 7).trans rfl, (zad zaG.out 8).trans rfl, (zad zaG.out 9).trans rfl, (zad zaG.out 10).trans rfl, (zad zaG.out 11).trans rfl, (zad zaG.out 12).trans rfl, (zad zaG.out 13).trans rfl, (zad zaG.out 14).trans rfl, ((HB.out.cell (World.block_lt_of_cell? w _ hw391_0)).trans hw391_0), ((HB.out.cell (World.block_lt_of_cell? w _ hw392_0)).trans hw392_0)⟩ (fun hHeld => ?_)
       clear hK K
       refine norm_ (a' := ?_) ?_ ?_
       rotate_left
       ·show Act.put _ (some 48) _ = _
        simp only [Act.put, List.setIfInBounds_toArray, List.set_cons_zero, List.set_cons_succ, zaI, zaK]
        rfl
       refine pure_ (i := 9) (N := some 6) (v := ?_) (a' := ?_) #[true, true, true, true, true, true, true, true, true, true] rfl rfl (any_of HT_.out yq9) (fun _ _ _ h => h) (Or.inl ⟨yq35, ?_⟩) ?_ ?_
       rotate_left
       ·intro w'
        go_simp
        with_reducible rfl
       rotate_left
       ·simp only [Act.put, List.setIfInBounds_toArray, List.set_cons_zero, List.set_cons_succ, zaI, zaK]
        rfl
       refine done_ (done_of HT_.out yq9) ?_
       obtain ⟨i028, hi028, _, hsz28, _⟩ := info_parts info9
       have hPM_ := print_mid_of (P := Tryz.prog) Value.string (⟨#[]⟩ : ByteArray) 24 9 .i64 .i64 Tryz.underlying24 hi028 hsz28 (some ad391) c1 l1 2 (wrap64 ((l1.length : Int) - 1)) yq12 (by first | omega | exact of_decide_eq_true yq1) (of_decide_eq_true yq1) HC1.out
       rw [show (2 : Int).toNat = 2 from rfl] at hPM_
       generalize ((l1.take ((wrap64 ((l1.length : Int) - 1)) : Int).toNat).drop 2) = MM at hPM_ H'
       obtain ⟨A28, hcut28, hA28, hC28⟩ := hPM_
       have HR394 := zaa.mk (Kd.C_of_reads (h1 := fun _ => rfl) (hA28 _ (Kd.reads_of_C HR1.out)))
       have HC394 := zaa.mk hC28; clear hA28 hC28 hi028 hsz28
       try go_wp2
       go_loopg [6, 54] kj2 (fun kq v6 v54 w' => ∃ (x6_2 : ByteArray) (x54_2 : Int), v6 = .string x6_2 ∧ v54 = .int .i64 x54_2 ∧ zaa (zau.l0 kq l1 (l1.length : Int) x6_2 MM (MM.length : Int) x54_2 a0_0 a0_1 a0_2 a0_3 a0_4 l0_5 a0_6 l0_7 a0_8 a0_9 a0_10 a0_11 l0_12 l0_13 a0_14 = some r) ∧ zaa (kq ≤ kj2) ∧ zaa (w'.heap[zbr]? = some (.cells #[.string a0_0, .string a0_1, .string a0_2, .string a0_3, .string a0_4, (.slice A0_5 l0_5.length c0_5), .int .i64 a0_6, (.slice A0_7 l0_7.length c0_7), .string a0_8, .string a0_9, .string a0_10, .string a0_11, (.slice A0_12 l0_12.length c0_12), (.slice A0_13 l0_13.length c0_13), .string a0_14] 31 (0, 0))) ∧ zaa (Below w.heap.size w w'))
       case atStart => exact ⟨(t393), (0), yq4, yq4, H', ⟨Nat.le_refl _⟩, ⟨yq3 zaG.out⟩, ⟨yq5 HB.out GE383.out⟩⟩
       case round =>
        clear H'
        try clear c1
        try clear c9
        try clear c10
        try clear c10b0
        try clear c10b1
        try clear c10b2
        try clear c11
        try clear c11b0
        try clear c11b1
        try clear c14
        try clear c14b0
        try clear c14b1
        try clear c21b0
        try clear c21b1
        try clear c22b0
        try clear c22b1
        try clear c24b0
        try clear c24b1
        try clear c25b0
        try clear c25b1
        try clear hx391_0
        try clear hx392_0
        try clear p391
        try clear p392
        try clear q391
        try clear q392
        obtain ⟨x6_2, x54_2, rfl, rfl, HA, HK2, zaG, HB⟩ := hrel
        cases gk with
        | zero => exact absurd HA.out (by simp [zau.l0])
        | succ k2 =>
         have H := HA.out; clear HA
         simp only [zau.l0] at H
         by_cases c29 : x54_2 < (MM.length : Int)
         ·rw [if_pos c29] at H
          have c29b0 : decide (x54_2 < (MM.length : Int)) = true := decide_eq_true c29
          clear c29
          by_cases c30 : 0 ≤ x54_2
          ·rw [if_pos c30] at H
           have c30b0 : decide (0 ≤ x54_2) = true := decide_eq_true c30
           clear c30
           by_cases c31 : x54_2 < (MM.length : Int)
           ·rw [if_pos c31] at H
            have c31b0 : decide (x54_2 < (MM.length : Int)) = true := decide_eq_true c31
            clear c31; replace H := Option.bind_eq_some_iff.mp H
            obtain ⟨t396, A320, H⟩ := H
            replace H : (zau.l0 k2 l1 (l1.length : Int) t396 MM (MM.length : Int) (wrap64 (x54_2 + 1)) a0_0 a0_1 a0_2 a0_3 a0_4 l0_5 a0_6 l0_7 a0_8 a0_9 a0_10 a0_11 l0_12 l0_13 a0_14) = some r := H
            have A32 := zaa.mk A320; clear A320; have H' := zaa.mk H; clear H
            have p395 : 0 ≤ (x54_2 : Int) := of_decide_eq_true yq1
            have q395 : x54_2 < (MM.length : Int) := of_decide_eq_true yq1
            obtain ⟨ad395, e395, hx395_0⟩ := Kd.za1 HR394.out x54_2 p395 q395
            cases e395
            replace hx395_0 := (HB.out.cell (World.block_lt_of_cell? w _ hx395_0)).trans hx395_0
            replace p395 := eq_true p395
            replace q395 := eq_true q395
            have hcz33_0 : wr.cell? ⟨zbr, 0, none⟩ = some (.string a0_0) := (zad zaG.out 0).trans rfl
            have hcz33_1 : wr.cell? ⟨zbr, 1, none⟩ = some (.string a0_1) := (zad zaG.out 1).trans rfl
            have hcz33_2 : wr.cell? ⟨zbr, 2, none⟩ = some (.string a0_2) := (zad zaG.out 2).trans rfl
            have hcz33_3 : wr.cell? ⟨zbr, 3, none⟩ = some (.string a0_3) := (zad zaG.out 3).trans rfl
            have hcz33_4 : wr.cell? ⟨zbr, 4, none⟩ = some (.string a0_4) := (zad zaG.out 4).trans rfl
            have hcz33_5 : wr.cell? ⟨zbr, 5, none⟩ = some (.slice A0_5 l0_5.length c0_5) := (zad zaG.out 5).trans rfl
            have hcz33_6 : wr.cell? ⟨zbr, 6, none⟩ = some (.int .i64 a0_6) := (zad zaG.out 6).trans rfl
            have hcz33_7 : wr.cell? ⟨zbr, 7, none⟩ = some (.slice A0_7 l0_7.length c0_7) := (zad zaG.out 7).trans rfl
            have hcz33_8 : wr.cell? ⟨zbr, 8, none⟩ = some (.string a0_8) := (zad zaG.out 8).trans rfl
            have hcz33_9 : wr.cell? ⟨zbr, 9, none⟩ = some (.string a0_9) := (zad zaG.out 9).trans rfl
            have hcz33_10 : wr.cell? ⟨zbr, 10, none⟩ = some (.string a0_10) := (zad zaG.out 10).trans rfl
            have hcz33_11 : wr.cell? ⟨zbr, 11, none⟩ = some (.string a0_11) := (zad zaG.out 11).trans rfl
            have hcz33_12 : wr.cell? ⟨zbr, 12, none⟩ = some (.slice A0_12 l0_12.length c0_12) := (zad zaG.out 12).trans rfl
            have hcz33_13 : wr.cell? ⟨zbr, 13, none⟩ = some (.slice A0_13 l0_13.length c0_13) := (zad zaG.out 13).trans rfl
            have hcz33_14 : wr.cell? ⟨zbr, 14, none⟩ = some (.string a0_14) := (zad zaG.out 14).trans rfl
            have hfz33_0 := zac zaG.out 0
            have hfz33_1 := zac zaG.out 1
            have hfz33_2 := zac zaG.out 2
            have hfz33_3 := zac zaG.out 3
            have hfz33_4 := zac zaG.out 4
            have hfz33_5 := zac zaG.out 5
            have hfz33_6 := zac zaG.out 6
            have hfz33_7 := zac zaG.out 7
            have hfz33_8 := zac zaG.out 8
            have hfz33_9 := zac zaG.out 9
            have hfz33_10 := zac zaG.out 10
            have hfz33_11 := zac zaG.out 11
            have hfz33_12 := zac zaG.out 12
            have hfz33_13 := zac zaG.out 13
            have hfz33_14 := zac zaG.out 14
            go_wp2_with (first | ((with_reducible refine zaz (f := 57) rfl ?_); refine zbh (some 62) rfl rfl Tryz.func57 yq9 rfl #[.string a0_10, .string x6_2, .string (rdOf ByteArray.empty MM x54_2)] rfl yq2 ?_; (with_reducible refine (impl_filled.calls a0_10 x6_2 (rdOf ByteArray.empty MM x54_2) t396 _ ?side1 A32.out).mono ?_); (case side1 => exact zby HG.out (yq5 HB.out GE383.out)); rintro e w34 ⟨rfl, hb⟩; refine ⟨_, rfl, ?_⟩; have n0_ := zaa.mk (zaP (g := zbr) (o := .cells #[.string a0_0, .string a0_1, .string a0_2, .string a0_3, .string a0_4, .slice A0_5 l0_5.length c0_5, .int .i64 a0_6, .slice A0_7 l0_7.length c0_7, .string a0_8, .string a0_9, .string a0_10, .string a0_11, .slice A0_12 l0_12.length c0_12, .slice A0_13 l0_13.length c0_13, .string a0_14] 31 (0, 0)) (yq3 zaG.out) hb); have n1_ := zaa.mk (zao (yq5 HB.out GE383.out) hb); clear zaG HB; have zaG := n0_; have HB := n1_; clear n0_ n1_; (try clear hb); (try clear hb2); (try clear hk); (try clear hi)))
            go_roundg k2
            case measure => have := HJ2.out; have := HK2.out; omega
            case rel => exact ⟨(t396), (wrap64 (x54_2 + 1)), yq4, yq4, H', ⟨yq27 HJ2.out HK2.out⟩, ⟨yq3 zaG.out⟩, ⟨yq5 HB.out GE383.out⟩⟩
           rw [if_neg c31] at H
           exact absurd H yq26
          rw [if_neg c30] at H
          exact absurd H yq26
         rw [if_neg c29] at H
         have c29b0 : decide (x54_2 < (MM.length : Int)) = false := decide_eq_false c29
         clear c29
         obtain ⟨ji35, hji35⟩ : ∃ j_ : Int, (wrap64 ((l1.length : Int) - 1)) = j_ := ⟨_, rfl⟩
         replace H : (if 0 ≤ (ji35) then (if (ji35) < (l1.length : Int) then ((impl_filled.f a0_11 x6_2 (rdOf ByteArray.empty l1 (ji35))).bind fun t398 => ((impl_short.f t398).bind fun t399 => (some t399))) else (none)) else (none)) = some r := by first | (rw [hji35] at H; exact H) | (simp only [hji35] at H ⊢; exact H)
         (try rw [hji35] at c24b0)
         (try rw [hji35] at c24b1)
         (try rw [hji35] at c25b0)
         (try rw [hji35] at c25b1)
         (try rw [hji35] at c29b0)
         have hji35w : (IntKind.i64.wrap ((l1.length : Int) - 1)) = ji35 := (zaI _).trans hji35
         by_cases c36 : 0 ≤ (ji35)
         ·rw [if_pos c36] at H
          have c36b0 : decide (0 ≤ (ji35)) = true := decide_eq_true c36
          clear c36
          by_cases c37 : (ji35) < (l1.length : Int)
          ·rw [if_pos c37] at H
           have c37b0 : decide ((ji35) < (l1.length : Int)) = true := decide_eq_true c37
           clear c37; replace H := Option.bind_eq_some_iff.mp H
           obtain ⟨t398, A380, H⟩ := H
           replace H : ((impl_short.f t398).bind fun t399 => (some t399)) = some r := H
           have A38 := zaa.mk A380; clear A380; replace H := Option.bind_eq_some_iff.mp H
           obtain ⟨t399, A390, H⟩ := H
           replace H : (some t399) = some r := H
           have A39 := zaa.mk A390; clear A390; obtain rfl := Option.some.inj H
           try go_wp2
           have n0_ := zaa.mk (zal zaG.out)
           have n1_ := zaa.mk (zae HB.out)
           clear zaG HB
           have zaG := n0_
           have HB := n1_
           clear n0_ n1_
           have p397 : 0 ≤ ((ji35) : Int) := of_decide_eq_true yq1
           have q397 : (ji35) < (l1.length : Int) := of_decide_eq_true yq1
           obtain ⟨ad397, e397, hx397_0⟩ := Kd.za1 HR1.out (ji35) p397 q397
           have hw397_0 := hx397_0
           obtain rfl : ad391 = ad397 := (by injection e397)
           replace hx397_0 := (HB.out.cell (World.block_lt_of_cell? w _ hx397_0)).trans hx397_0
           replace p397 := eq_true p397
           replace q397 := eq_true q397
           refine start_ (n := 11) (S := fun w' => w'.cell? ⟨zbr, 0, none⟩ = some (.string a0_0) ∧ w'.cell? ⟨zbr, 1, none⟩ = some (.string a0_1) ∧ w'.cell? ⟨zbr, 2, none⟩ = some (.string a0_2) ∧ w'.cell? ⟨zbr, 3, none⟩ = some (.string a0_3) ∧ w'.cell? ⟨zbr, 4, none⟩ = some (.string a0_4) ∧ w'.cell? ⟨zbr, 5, none⟩ = some (.slice A0_5 l0_5.length c0_5) ∧ w'.cell? ⟨zbr, 6, none⟩ = some (.int .i64 a0_6) ∧ w'.cell? ⟨zbr, 7, none⟩ = some (.slice A0_7 l0_7.length c0_7) ∧ w'.cell? ⟨zbr, 8, none⟩ = some (.string a0_8) ∧ w'.cell? ⟨zbr, 9, none⟩ = some (.string a0_9) ∧ w'.cell? ⟨zbr, 10, none⟩ = some (.string a0_10) ∧ w'.cell? ⟨zbr, 11, none⟩ = some (.string a0_11) ∧ w'.cell? ⟨zbr, 12, none⟩ = some (.slice A0_12 l0_12.length c0_12) ∧ w'.cell? ⟨zbr, 13, none⟩ = some (.slice A0_13 l0_13.length c0_13) ∧ w'.cell? ⟨zbr, 14, none⟩ = some (.string a0_14) ∧ w'.cell? (ad391.add ((ji35)).toNat) = some (.string (rdOf ByteArray.empty l1 (ji35)))) (ds := []) #[false, false, false, false, false, false, false, false, false, false, false] yq9 rfl rfl ⟨(zad zaG.out 0).trans rfl, (zad zaG.out 1).trans rfl, (zad zaG.out 2).trans rfl, (zad zaG.out 3).trans rfl, (zad zaG.out 4).trans rfl, (zad zaG.out 5).trans rfl, (zad zaG.out 6).trans rfl, (zad zaG.out 7).trans rfl, (zad zaG.out 8).trans rfl, (zad zaG.out 9).trans rfl, (zad zaG.out 10).trans rfl, (zad zaG.out 11).trans rfl, (zad zaG.out 12).trans rfl, (zad zaG.out 13).trans rfl, (zad zaG.out 14).trans rfl, ((HB.out.cell (World.block_lt_of_cell? w _ hw397_0)).trans hw397_0)⟩ (fun hHeld => ?_); refine zbz zau.tab17 zau.bits17 (fun HT_ HW_ => ?_)
           generalize wr.drew = w40 at zaG HB hx397_0 hHeld ⊢
           refine pure_ (i := 0) (N := some 64) (v := ?_) (a' := ?_) #[true, false, false, false, false, false, false, false, false, false, false] rfl rfl (any_of HT_.out yq9) (fun _ _ _ h => h) (Or.inl ⟨yq35, ?_⟩) ?_ ?_
           rotate_left
           ·intro w'
            go_simp
            with_reducible rfl
           rotate_left
           ·simp only [Act.put, List.setIfInBounds_toArray, List.set_cons_zero, List.set_cons_succ, zaI, zaK]
            rfl
           refine pure_ (i := 2) (N := some 66) (v := ?_) (a' := ?_) #[true, false, true, false, false, false, false, false, false, false, false] rfl rfl (any_of HT_.out yq9) (fun _ _ _ h => h) (Or.inl ⟨yq35, ?_⟩) ?_ ?_
           rotate_left
           ·intro w'
            go_simp
            with_reducible rfl
           rotate_left
           ·simp only [Act.put, List.setIfInBounds_toArray, List.set_cons_zero, List.set_cons_succ, zaI, zaK]
            rfl
           refine pure_ (i := 3) (N := some 67) (v := ?_) (a' := ?_) #[true, false, true, true, false, false, false, false, false, false, false] rfl rfl (any_of HT_.out yq9) (fun _ _ _ h => h) (Or.inl ⟨yq35, ?_⟩) ?_ ?_
           rotate_left
           ·intro w'
            go_simp
            with_reducible rfl
           rotate_left
           ·simp only [Act.put, List.setIfInBounds_toArray, List.set_cons_zero, List.set_cons_succ, zaI, zaK]
            rfl
           refine pure_ (i := 4) (N := some 68) (v := ?_) (a' := ?_) #[true, false, true, true, true, false, false, false, false, false, false] rfl rfl (any_of HT_.out yq9) (fun _ _ _ h => h) (Or.inl ⟨yq35, ?_⟩) ?_ ?_
           rotate_left
           ·intro w'
            go_simp
            with_reducible rfl
           rotate_left
           ·simp only [Act.put, List.setIfInBounds_toArray, List.set_cons_zero, List.set_cons_succ, zaI, zaK]
            rfl
           refine pure_ (i := 5) (N := some 69) (v := ?_) (a' := ?_) #[true, false, true, true, true, true, false, false, false, false, false] rfl rfl (any_of HT_.out yq9) (fun _ _ _ h => h) (Or.inl ⟨yq35, ?_⟩) ?_ ?_
           rotate_left
           ·intro w'
            go_simp
            with_reducible rfl
           rotate_left
           ·simp only [Act.put, List.setIfInBounds_toArray, List.set_cons_zero, List.set_cons_succ, zaI, zaK]
            rfl
           refine pure_ (i := 6) (N := some 70) (v := ?_) (a' := ?_) #[true, false, true, true, true, true, true, false, false, false, false] rfl rfl (any_of HT_.out yq9) (fun _ _ _ h => h) (Or.inl ⟨yq35, ?_⟩) ?_ ?_
           rotate_left
           ·intro w'
            go_simp
            with_reducible rfl
           rotate_left
           ·simp only [Act.put, List.setIfInBounds_toArray, List.set_cons_zero, List.set_cons_succ, zaI, zaK]
            rfl
           refine take_ (i := 1) (N := some 65) (v := ?_) (a' := ?_) #[true, true, true, true, true, true, true, false, false, false, false] rfl rfl (take_ofW HT_.out HW_.out yq9) (fun _ _ _ h => h) (Or.inl ⟨yq35, ?_⟩) hHeld ?_ ?_
           rotate_left
           ·rintro w' ⟨s0, s1, s2, s3, s4, s5, s6, s7, s8, s9, s10, s11, s12, s13, s14, s15⟩
            go_simp
            with_reducible rfl
           rotate_left
           ·simp only [Act.put, List.setIfInBounds_toArray, List.set_cons_zero, List.set_cons_succ, zaI, zaK]
            rfl
           refine take_ (i := 7) (N := some 71) (v := ?_) (a' := ?_) #[true, true, true, true, true, true, true, true, false, false, false] rfl rfl (take_ofW HT_.out HW_.out yq9) (fun _ _ _ h => h) (Or.inl ⟨yq35, ?_⟩) hHeld ?_ ?_
           rotate_left
           ·rintro w' ⟨s0, s1, s2, s3, s4, s5, s6, s7, s8, s9, s10, s11, s12, s13, s14, s15⟩
            go_simp
            with_reducible rfl
           rotate_left
           ·simp only [Act.put, List.setIfInBounds_toArray, List.set_cons_zero, List.set_cons_succ, zaI, zaK]
            rfl
           refine one_ (i := 8) (N := some 72) #[true, true, true, true, true, true, true, true, true, false, false] rfl rfl (one_of HT_.out yq9) yq43 (fun K hK => ?_)
           refine goes_ Tryz.func57 yq9 rfl #[.string a0_11, .string x6_2, .string (rdOf ByteArray.empty l1 (ji35))] yq35 rfl rfl (by (try simp only [List.map_toArray, List.map_cons, List.map_nil]); first | done | (simp only [hji35]; rfl) | rfl | (simp only [List.length_drop, List.length_take]; rfl)) ?_
           with_reducible refine (impl_filled.calls a0_11 x6_2 (rdOf ByteArray.empty l1 (ji35)) t398 _ ?side1 A38.out).mono ?_
           (case side1 => exact zby HG.out (yq5 HB.out GE383.out))
           rintro e w41 ⟨rfl, hb⟩
           refine ⟨_, rfl, ?_⟩
           have n0_ := zaa.mk (zaP (g := zbr) (o := .cells #[.string a0_0, .string a0_1, .string a0_2, .string a0_3, .string a0_4, .slice A0_5 l0_5.length c0_5, .int .i64 a0_6, .slice A0_7 l0_7.length c0_7, .string a0_8, .string a0_9, .string a0_10, .string a0_11, .slice A0_12 l0_12.length c0_12, .slice A0_13 l0_13.length c0_13, .string a0_14] 31 (0, 0)) (yq3 zaG.out) hb)
           have n1_ := zaa.mk (zao (yq5 HB.out GE383.out) hb)
           clear zaG HB
           have zaG := n0_
           have HB := n1_
           clear n0_ n1_
           (try clear hb)
           (try clear hb2)
           (try clear hk)
           (try clear hi)
           refine hK.out _ _ ⟨(zad zaG.out 0).trans rfl, (zad zaG.out 1).trans rfl, (zad zaG.out 2).trans rfl, (zad zaG.out 3).trans rfl, (zad zaG.out 4).trans rfl, (zad zaG.out 5).trans rfl, (zad zaG.out 6).trans rfl, (zad zaG.out 7).trans rfl, (zad zaG.out 8).trans rfl, (zad zaG.out 9).trans rfl, (zad zaG.out 10).trans rfl, (zad zaG.out 11).trans rfl, (zad zaG.out 12).trans rfl, (zad zaG.out 13).trans rfl, (zad zaG.out 14).trans rfl, ((HB.out.cell (World.block_lt_of_cell? w _ hw397_0)).trans hw397_0)⟩ (fun hHeld => ?_)
           clear hK K
           refine norm_ (a' := ?_) ?_ ?_
           rotate_left
           ·show Act.put _ (some 72) _ = _
            simp only [Act.put, List.setIfInBounds_toArray, List.set_cons_zero, List.set_cons_succ, zaI, zaK]
            rfl
           refine one_ (i := 9) (N := some 73) #[true, true, true, true, true, true, true, true, true, true, false] rfl rfl (one_of HT_.out yq9) yq43 (fun K hK => ?_)
           refine goes_ Tryz.func56 yq9 rfl #[.string t398] yq35 rfl rfl yq2 ?_
           with_reducible refine (impl_short.calls t398 t399 _ A39.out).mono ?_
           rintro e w' ⟨rfl, ⟨nd, rfl⟩⟩
           refine ⟨_, rfl, ?_⟩
           refine hK.out _ _ ⟨(zad zaG.out 0).trans rfl, (zad zaG.out 1).trans rfl, (zad zaG.out 2).trans rfl, (zad zaG.out 3).trans rfl, (zad zaG.out 4).trans rfl, (zad zaG.out 5).trans rfl, (zad zaG.out 6).trans rfl, (zad zaG.out 7).trans rfl, (zad zaG.out 8).trans rfl, (zad zaG.out 9).trans rfl, (zad zaG.out 10).trans rfl, (zad zaG.out 11).trans rfl, (zad zaG.out 12).trans rfl, (zad zaG.out 13).trans rfl, (zad zaG.out 14).trans rfl, ((HB.out.cell (World.block_lt_of_cell? w _ hw397_0)).trans hw397_0)⟩ (fun hHeld => ?_)
           clear hK K
           refine norm_ (a' := ?_) ?_ ?_
           rotate_left
           ·show Act.put _ (some 73) _ = _
            simp only [Act.put, List.setIfInBounds_toArray, List.set_cons_zero, List.set_cons_succ, zaI, zaK]
            rfl
           refine pure_ (i := 10) (N := some 4) (v := ?_) (a' := ?_) #[true, true, true, true, true, true, true, true, true, true, true] rfl rfl (any_of HT_.out yq9) (fun _ _ _ h => h) (Or.inl ⟨yq35, ?_⟩) ?_ ?_
           rotate_left
           ·intro w'
            go_simp
            with_reducible rfl
           rotate_left
           ·simp only [Act.put, List.setIfInBounds_toArray, List.set_cons_zero, List.set_cons_succ, zaI, zaK]
            rfl
           refine done_ (done_of HT_.out yq9) ?_
           try go_wp2
           go_ret
           exact ⟨by first | rfl | (simp [zan, zam] <;> rfl) | (simp only [← hji35]; first | rfl | (simp [zan, zam] <;> rfl)) | (simp [*, zan, zam] <;> rfl), yq5 HB.out GE383.out⟩
          rw [if_neg c37] at H
          exact absurd H yq26
         rw [if_neg c36] at H
         exact absurd H yq26
      rw [if_neg c25] at H
      exact absurd H yq26
     rw [if_neg c24] at H
     exact absurd H yq26
    rw [if_neg c22] at H
    exact absurd H yq26
   rw [if_neg c21] at H
   exact absurd H yq26
end Go.Proofs.YtfafjbolmeimmaaGreatDoor.P
