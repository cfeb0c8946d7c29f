/- Written by a program of this session: plain Lean functions for Go functions, and for each the proof that the call comes to what the function says. -/
import Derived.Test.YtfafjbolmeimmaaGreatDoorAb
import Derived.Test.YtfafjbolmeimmaaGreatDoorF4
import Derived.Test.YtfafjbolmeimmaaGreatDoorJ29
import Derived.Test.YtfafjbolmeimmaaGreatDoorF20
namespace Go.Proofs.YtfafjbolmeimmaaGreatDoor.P
open Go.RowKit Go.Proofs.YtfafjbolmeimmaaGreatDoorW.PrintWords Go.Proofs.YtfafjbolmeimmaaGreatDoorW.PrintLast Go.Proofs.YtfafjbolmeimmaaGreatDoorW.PrintMore
attribute [local go_sem] zbw zbx max_two min_two zbe zbd zbu zbv
set_option linter.unusedVariables false
set_option linter.unusedSimpArgs false
def zbk.j0 : Nat → List ByteArray → Bool → ByteArray → ByteArray → ByteArray → ByteArray → ByteArray → List Int → Int → List (S58) → ByteArray → ByteArray → ByteArray → ByteArray → List ByteArray → List ByteArray → ByteArray → Option (ByteArray)
 | 0, _, _, _, _, _, _, _, _, _, _, _, _, _, _, _, _, _ => none
 | k + 1, x1, x12, x371000, x371001, x371002, x371003, x371004, x371005, x371006, x371007, x371008, x371009, x371010, x371011, x371012, x371013, x371014 => if x12 = true then (some (⟨#[]⟩ : ByteArray)) else ((zbq.f k x371000 x371001 x371002 x371003 x371004 x371005 x371006 x371007 x371008 x371009 x371010 x371011 x371012 x371013 x371014 x1).bind fun t372 => ((spec_l01Small.f t372).bind fun t373 => (some t373)))
def zbk.f (k : Nat) (a0_0 : ByteArray) (a0_1 : ByteArray) (a0_2 : ByteArray) (a0_3 : ByteArray) (a0_4 : ByteArray) (l0_5 : List Int) (a0_6 : Int) (l0_7 : List (S58)) (a0_8 : ByteArray) (a0_9 : ByteArray) (a0_10 : ByteArray) (a0_11 : ByteArray) (l0_12 : List ByteArray) (l0_13 : List ByteArray) (a0_14 : ByteArray) (l1 : List ByteArray) : Option (ByteArray) := if (l1.length : Int) > 1000 then (zbk.j0 k l1 true a0_0 a0_1 a0_2 a0_3 a0_4 l0_5 a0_6 l0_7 a0_8 a0_9 a0_10 a0_11 l0_12 l0_13 a0_14) else ((spec_l17Ready.f a0_0 a0_1 a0_2 a0_3 a0_4 l0_5 a0_6 l0_7 a0_8 a0_9 a0_10 a0_11 l0_12 l0_13 a0_14).bind fun t371 => (zbk.j0 k l1 (!t371) a0_0 a0_1 a0_2 a0_3 a0_4 l0_5 a0_6 l0_7 a0_8 a0_9 a0_10 a0_11 l0_12 l0_13 a0_14))
set_option maxHeartbeats 8000000 in
set_option maxRecDepth 100000 in
theorem zbk.calls (k : Nat) (a0_0 : ByteArray) (a0_1 : ByteArray) (a0_2 : ByteArray) (a0_3 : ByteArray) (a0_4 : ByteArray) (A0_5 : Option Addr) (c0_5 : Nat) (l0_5 : List Int) (a0_6 : Int) (A0_7 : Option Addr) (c0_7 : Nat) (l0_7 : List (S58)) (a0_8 : ByteArray) (a0_9 : ByteArray) (a0_10 : ByteArray) (a0_11 : ByteArray) (A0_12 : Option Addr) (c0_12 : Nat) (l0_12 : List ByteArray) (A0_13 : Option Addr) (c0_13 : Nat) (l0_13 : List ByteArray) (a0_14 : ByteArray) (A1 : Option Addr) (c1 : Nat) (l1 : List ByteArray) (r : ByteArray) (w : World) (hr0_5 : Kd.C (Kd.int .i64) w A0_5 l0_5.length l0_5) (hc0_5 : l0_5.length ≤ c0_5) (hr0_7 : Kd.C k58 w A0_7 l0_7.length l0_7) (hc0_7 : l0_7.length ≤ c0_7) (hr0_12 : Kd.C Kd.string w A0_12 l0_12.length l0_12) (hc0_12 : l0_12.length ≤ c0_12) (hr0_13 : Kd.C Kd.string w A0_13 l0_13.length l0_13) (hc0_13 : l0_13.length ≤ c0_13) (hr1 : Kd.C Kd.string w A1 l1.length l1) (hc1 : l1.length ≤ c1) (h : zbk.f k a0_0 a0_1 a0_2 a0_3 a0_4 l0_5 a0_6 l0_7 a0_8 a0_9 a0_10 a0_11 l0_12 l0_13 a0_14 l1 = some r) :
  Calls Tryz.prog 19 #[.agg #[.string a0_0, .string a0_1, .string a0_2, .string a0_3, .string a0_4, .slice A0_5 l0_5.length c0_5, .int .i64 a0_6, .slice A0_7 l0_7.length c0_7, .string a0_8, .string a0_9, .string a0_10, .string a0_11, .slice A0_12 l0_12.length c0_12, .slice A0_13 l0_13.length c0_13, .string a0_14], .slice A1 l1.length c1] w fun e w' => e = .returned (.string r) ∧ Below w.heap.size w w' := by
 have hu31 := Tryz.underlying31
 have HR0_5 := zaa.mk hr0_5; have HC0_5 := zaa.mk hc0_5; clear hr0_5 hc0_5; have HR0_7 := zaa.mk hr0_7; have HC0_7 := zaa.mk hc0_7; clear hr0_7 hc0_7; have HR0_12 := zaa.mk hr0_12; have HC0_12 := zaa.mk hc0_12; clear hr0_12 hc0_12; have HR0_13 := zaa.mk hr0_13; have HC0_13 := zaa.mk hc0_13; clear hr0_13 hc0_13; have HR1 := zaa.mk hr1; have HC1 := zaa.mk hc1; clear hr1 hc1
 have HB := zaa.mk (Below.refl w.heap.size w)
 have H : (if (l1.length : Int) > 1000 then (zbk.j0 k l1 true a0_0 a0_1 a0_2 a0_3 a0_4 l0_5 a0_6 l0_7 a0_8 a0_9 a0_10 a0_11 l0_12 l0_13 a0_14) else ((spec_l17Ready.f a0_0 a0_1 a0_2 a0_3 a0_4 l0_5 a0_6 l0_7 a0_8 a0_9 a0_10 a0_11 l0_12 l0_13 a0_14).bind fun t371 => (zbk.j0 k l1 (!t371) a0_0 a0_1 a0_2 a0_3 a0_4 l0_5 a0_6 l0_7 a0_8 a0_9 a0_10 a0_11 l0_12 l0_13 a0_14))) = some r := h
 clear h; have HC3 := zaa.mk H; clear H
 go_enter Tryz.func19, Tryz.ntmps19
 go_upto_region 1 with (first | ((with_reducible refine zaO (N := 2) rfl ?_); refine zaT ?hg (N := 2) ?hd (cs := #[.string a0_0, .string a0_1, .string a0_2, .string a0_3, .string a0_4, .slice A0_5 l0_5.length c0_5, .int .i64 a0_6, .slice A0_7 l0_7.length c0_7, .string a0_8, .string a0_9, .string a0_10, .string a0_11, .slice A0_12 l0_12.length c0_12, .slice A0_13 l0_13.length c0_13, .string a0_14]) (t := 31) ?hr ?_; (case hd => rfl); (case hg => rfl); (case hr => first | (go_simp; done) | (go_simp; rfl)); intro gb370 hg w4 hbox hb; have n0_ := zaa.mk (zao (yq0 HB.out) hb); have n1_ := zaa.mk (hbox); have n2_ := zaa.mk ((by rw [hg]; exact (zar (yq0 HB.out)) : w.heap.size ≤ gb370)); have n3_ := zaa.mk ((by rw [hg]; exact (zar (yq0 HB.out)) : w.heap.size ≤ gb370)); clear HB; have HB := n0_; have BK370 := n1_; have GW370 := n2_; have GE370 := n3_; clear n0_ n1_ n2_ n3_ hb hbox hg))
 (try simp only [Act.put, List.setIfInBounds_toArray, List.set_cons_zero, List.set_cons_succ])
 go_cut [12] (fun v12 wc => ∃ (kq : Nat) (x12_2 : Bool), v12 = .bool x12_2 ∧ zaa (zbk.j0 kq l1 x12_2 a0_0 a0_1 a0_2 a0_3 a0_4 l0_5 a0_6 l0_7 a0_8 a0_9 a0_10 a0_11 l0_12 l0_13 a0_14 = some r) ∧ zaa (kq ≤ k) ∧ zaa (wc.heap[gb370]? = some (.cells #[.string a0_0, .string a0_1, .string a0_2, .string a0_3, .string a0_4, (.slice A0_5 l0_5.length c0_5), .int .i64 a0_6, (.slice A0_7 l0_7.length c0_7), .string a0_8, .string a0_9, .string a0_10, .string a0_11, (.slice A0_12 l0_12.length c0_12), (.slice A0_13 l0_13.length c0_13), .string a0_14] 31 (0, 0))) ∧ zaa (Below w.heap.size w wc))
 case first =>
  have H := HC3.out; clear HC3
  by_cases c5 : (l1.length : Int) > 1000
  ·rw [if_pos c5] at H
   have c5b0 : decide (1000 < (l1.length : Int)) = true := decide_eq_true c5
   have c5b1 : decide (1000 < l1.length) = true := decide_eq_true yq12
   clear c5
   (first | rw [c5b0] | rw [c5b1] | (simp only [zaI, zaK]; rw [c5b0]) | skip)
   have H' := zaa.mk H; clear H
   go_wp2
   go_meet
   case rel => exact ⟨_, (true), yq4, H', ⟨yq33⟩, ⟨yq3 BK370.out⟩, ⟨yq5 HB.out GE370.out⟩⟩
  rw [if_neg c5] at H
  have c5b0 : decide (1000 < (l1.length : Int)) = false := decide_eq_false c5
  have c5b1 : decide (1000 < l1.length) = false := decide_eq_false yq12
  clear c5
  (first | rw [c5b0] | rw [c5b1] | (simp only [zaI, zaK]; rw [c5b0]) | skip)
  replace H := Option.bind_eq_some_iff.mp H
  obtain ⟨t371, A60, H⟩ := H
  replace H : (zbk.j0 k l1 (!t371) a0_0 a0_1 a0_2 a0_3 a0_4 l0_5 a0_6 l0_7 a0_8 a0_9 a0_10 a0_11 l0_12 l0_13 a0_14) = some r := H
  have A6 := zaa.mk A60; clear A60; have H' := zaa.mk H; clear H
  have hcz7_0 : w4.cell? ⟨gb370, 0, none⟩ = some (.string a0_0) := (zad BK370.out 0).trans rfl
  have hcz7_1 : w4.cell? ⟨gb370, 1, none⟩ = some (.string a0_1) := (zad BK370.out 1).trans rfl
  have hcz7_2 : w4.cell? ⟨gb370, 2, none⟩ = some (.string a0_2) := (zad BK370.out 2).trans rfl
  have hcz7_3 : w4.cell? ⟨gb370, 3, none⟩ = some (.string a0_3) := (zad BK370.out 3).trans rfl
  have hcz7_4 : w4.cell? ⟨gb370, 4, none⟩ = some (.string a0_4) := (zad BK370.out 4).trans rfl
  have hcz7_5 : w4.cell? ⟨gb370, 5, none⟩ = some (.slice A0_5 l0_5.length c0_5) := (zad BK370.out 5).trans rfl
  have hcz7_6 : w4.cell? ⟨gb370, 6, none⟩ = some (.int .i64 a0_6) := (zad BK370.out 6).trans rfl
  have hcz7_7 : w4.cell? ⟨gb370, 7, none⟩ = some (.slice A0_7 l0_7.length c0_7) := (zad BK370.out 7).trans rfl
  have hcz7_8 : w4.cell? ⟨gb370, 8, none⟩ = some (.string a0_8) := (zad BK370.out 8).trans rfl
  have hcz7_9 : w4.cell? ⟨gb370, 9, none⟩ = some (.string a0_9) := (zad BK370.out 9).trans rfl
  have hcz7_10 : w4.cell? ⟨gb370, 10, none⟩ = some (.string a0_10) := (zad BK370.out 10).trans rfl
  have hcz7_11 : w4.cell? ⟨gb370, 11, none⟩ = some (.string a0_11) := (zad BK370.out 11).trans rfl
  have hcz7_12 : w4.cell? ⟨gb370, 12, none⟩ = some (.slice A0_12 l0_12.length c0_12) := (zad BK370.out 12).trans rfl
  have hcz7_13 : w4.cell? ⟨gb370, 13, none⟩ = some (.slice A0_13 l0_13.length c0_13) := (zad BK370.out 13).trans rfl
  have hcz7_14 : w4.cell? ⟨gb370, 14, none⟩ = some (.string a0_14) := (zad BK370.out 14).trans rfl
  have hfz7_0 := zac BK370.out 0
  have hfz7_1 := zac BK370.out 1
  have hfz7_2 := zac BK370.out 2
  have hfz7_3 := zac BK370.out 3
  have hfz7_4 := zac BK370.out 4
  have hfz7_5 := zac BK370.out 5
  have hfz7_6 := zac BK370.out 6
  have hfz7_7 := zac BK370.out 7
  have hfz7_8 := zac BK370.out 8
  have hfz7_9 := zac BK370.out 9
  have hfz7_10 := zac BK370.out 10
  have hfz7_11 := zac BK370.out 11
  have hfz7_12 := zac BK370.out 12
  have hfz7_13 := zac BK370.out 13
  have hfz7_14 := zac BK370.out 14
  go_wp2_with (first | (go_at_call 52; (with_reducible refine (spec_l17Ready.calls a0_0 a0_1 a0_2 a0_3 a0_4 _ _ l0_5 a0_6 _ _ l0_7 a0_8 a0_9 a0_10 a0_11 _ _ l0_12 _ _ l0_13 a0_14 t371 _ ?side1 ?side2 ?side3 ?side4 ?side5 ?side6 ?side7 ?side8 A6.out).mono ?_); (case side1 => repeat (first | exact (Kd.za3 HR0_5.out HB.out) | (with_reducible refine Kd.C_alloc ?_ _) | (with_reducible refine Kd.C_drewN ?_ _) | (with_reducible refine Kd.C_drew ?_))); (case side2 => exact HC0_5.out); (case side3 => repeat (first | exact (Kd.za3 HR0_7.out HB.out) | (with_reducible refine Kd.C_alloc ?_ _) | (with_reducible refine Kd.C_drewN ?_ _) | (with_reducible refine Kd.C_drew ?_))); (case side4 => exact HC0_7.out); (case side5 => repeat (first | exact (Kd.za3 HR0_12.out HB.out) | (with_reducible refine Kd.C_alloc ?_ _) | (with_reducible refine Kd.C_drewN ?_ _) | (with_reducible refine Kd.C_drew ?_))); (case side6 => exact HC0_12.out); (case side7 => repeat (first | exact (Kd.za3 HR0_13.out HB.out) | (with_reducible refine Kd.C_alloc ?_ _) | (with_reducible refine Kd.C_drewN ?_ _) | (with_reducible refine Kd.C_drew ?_))); (case side8 => exact HC0_13.out); rintro e w8 ⟨rfl, hb⟩; have n0_ := zaa.mk (zaP (g := gb370) (o := .cells #[.string a0_0, .string a0_1, .string a0_2, .string a0_3, .string a0_4, .slice A0_5 l0_5.length c0_5, .int .i64 a0_6, .slice A0_7 l0_7.length c0_7, .string a0_8, .string a0_9, .string a0_10, .string a0_11, .slice A0_12 l0_12.length c0_12, .slice A0_13 l0_13.length c0_13, .string a0_14] 31 (0, 0)) (yq3 BK370.out) hb); have n1_ := zaa.mk (zao (yq5 HB.out GE370.out) hb); clear BK370 HB; have BK370 := n0_; have HB := n1_; clear n0_ n1_; (try clear hb); (try clear hb2); (try clear hk); (try clear hi)))
  go_meet
  case rel => exact ⟨_, (!t371), yq4, H', ⟨yq33⟩, ⟨yq3 BK370.out⟩, ⟨yq5 HB.out GE370.out⟩⟩
 case rest =>
  clear HC3
  try clear c1
  obtain ⟨kq, x12_2, rfl, HA, HJ2, BK370, HB⟩ := hcut
  cases kq with
  | zero => exact absurd HA.out (by simp [zbk.j0])
  | succ kj2 =>
   have H := HA.out; clear HA
   simp only [zbk.j0] at H
   by_cases c9 : x12_2 = true
   ·subst c9
    replace H : (some (⟨#[]⟩ : ByteArray)) = some r := by rw [if_pos rfl] at H; exact H
    obtain rfl := Option.some.inj H
    go_wp2
    go_ret
    exact ⟨yq6, yq5 HB.out GE370.out⟩
   replace c9 := Bool.eq_false_iff.mpr c9
   subst c9
   replace H : ((zbq.f kj2 a0_0 a0_1 a0_2 a0_3 a0_4 l0_5 a0_6 l0_7 a0_8 a0_9 a0_10 a0_11 l0_12 l0_13 a0_14 l1).bind fun t372 => ((spec_l01Small.f t372).bind fun t373 => (some t373))) = some r := by rw [if_neg (show ¬ (false = true) by decide)] at H; exact H
   replace H := Option.bind_eq_some_iff.mp H
   obtain ⟨t372, A100, H⟩ := H
   replace H : ((spec_l01Small.f t372).bind fun t373 => (some t373)) = some r := H
   have A10 := zaa.mk A100; clear A100; replace H := Option.bind_eq_some_iff.mp H
   obtain ⟨t373, A110, H⟩ := H
   replace H : (some t373) = some r := H
   have A11 := zaa.mk A110; clear A110; obtain rfl := Option.some.inj H
   have hcz12_0 : wc.cell? ⟨gb370, 0, none⟩ = some (.string a0_0) := (zad BK370.out 0).trans rfl
   have hcz12_1 : wc.cell? ⟨gb370, 1, none⟩ = some (.string a0_1) := (zad BK370.out 1).trans rfl
   have hcz12_2 : wc.cell? ⟨gb370, 2, none⟩ = some (.string a0_2) := (zad BK370.out 2).trans rfl
   have hcz12_3 : wc.cell? ⟨gb370, 3, none⟩ = some (.string a0_3) := (zad BK370.out 3).trans rfl
   have hcz12_4 : wc.cell? ⟨gb370, 4, none⟩ = some (.string a0_4) := (zad BK370.out 4).trans rfl
   have hcz12_5 : wc.cell? ⟨gb370, 5, none⟩ = some (.slice A0_5 l0_5.length c0_5) := (zad BK370.out 5).trans rfl
   have hcz12_6 : wc.cell? ⟨gb370, 6, none⟩ = some (.int .i64 a0_6) := (zad BK370.out 6).trans rfl
   have hcz12_7 : wc.cell? ⟨gb370, 7, none⟩ = some (.slice A0_7 l0_7.length c0_7) := (zad BK370.out 7).trans rfl
   have hcz12_8 : wc.cell? ⟨gb370, 8, none⟩ = some (.string a0_8) := (zad BK370.out 8).trans rfl
   have hcz12_9 : wc.cell? ⟨gb370, 9, none⟩ = some (.string a0_9) := (zad BK370.out 9).trans rfl
   have hcz12_10 : wc.cell? ⟨gb370, 10, none⟩ = some (.string a0_10) := (zad BK370.out 10).trans rfl
   have hcz12_11 : wc.cell? ⟨gb370, 11, none⟩ = some (.string a0_11) := (zad BK370.out 11).trans rfl
   have hcz12_12 : wc.cell? ⟨gb370, 12, none⟩ = some (.slice A0_12 l0_12.length c0_12) := (zad BK370.out 12).trans rfl
   have hcz12_13 : wc.cell? ⟨gb370, 13, none⟩ = some (.slice A0_13 l0_13.length c0_13) := (zad BK370.out 13).trans rfl
   have hcz12_14 : wc.cell? ⟨gb370, 14, none⟩ = some (.string a0_14) := (zad BK370.out 14).trans rfl
   have hfz12_0 := zac BK370.out 0
   have hfz12_1 := zac BK370.out 1
   have hfz12_2 := zac BK370.out 2
   have hfz12_3 := zac BK370.out 3
   have hfz12_4 := zac BK370.out 4
   have hfz12_5 := zac BK370.out 5
   have hfz12_6 := zac BK370.out 6
   have hfz12_7 := zac BK370.out 7
   have hfz12_8 := zac BK370.out 8
   have hfz12_9 := zac BK370.out 9
   have hfz12_10 := zac BK370.out 10
   have hfz12_11 := zac BK370.out 11
   have hfz12_12 := zac BK370.out 12
   have hfz12_13 := zac BK370.out 13
   have hfz12_14 := zac BK370.out 14
   go_wp2_with (first | ((with_reducible refine zaz (f := 54) rfl ?_); refine zbh (some 15) rfl rfl Tryz.func54 yq9 rfl #[.agg #[.string a0_0, .string a0_1, .string a0_2, .string a0_3, .string a0_4, .slice A0_5 l0_5.length c0_5, .int .i64 a0_6, .slice A0_7 l0_7.length c0_7, .string a0_8, .string a0_9, .string a0_10, .string a0_11, .slice A0_12 l0_12.length c0_12, .slice A0_13 l0_13.length c0_13, .string a0_14], .slice A1 l1.length c1] rfl yq2 ?_; (with_reducible refine (zbq.calls kj2 a0_0 a0_1 a0_2 a0_3 a0_4 _ _ l0_5 a0_6 _ _ l0_7 a0_8 a0_9 a0_10 a0_11 _ _ l0_12 _ _ l0_13 a0_14 _ _ l1 t372 _ ?side1 ?side2 ?side3 ?side4 ?side5 ?side6 ?side7 ?side8 ?side9 ?side10 A10.out).mono ?_); (case side1 => repeat (first | exact (Kd.za3 HR0_5.out HB.out) | (with_reducible refine Kd.C_alloc ?_ _) | (with_reducible refine Kd.C_drewN ?_ _) | (with_reducible refine Kd.C_drew ?_))); (case side2 => exact HC0_5.out); (case side3 => repeat (first | exact (Kd.za3 HR0_7.out HB.out) | (with_reducible refine Kd.C_alloc ?_ _) | (with_reducible refine Kd.C_drewN ?_ _) | (with_reducible refine Kd.C_drew ?_))); (case side4 => exact HC0_7.out); (case side5 => repeat (first | exact (Kd.za3 HR0_12.out HB.out) | (with_reducible refine Kd.C_alloc ?_ _) | (with_reducible refine Kd.C_drewN ?_ _) | (with_reducible refine Kd.C_drew ?_))); (case side6 => exact HC0_12.out); (case side7 => repeat (first | exact (Kd.za3 HR0_13.out HB.out) | (with_reducible refine Kd.C_alloc ?_ _) | (with_reducible refine Kd.C_drewN ?_ _) | (with_reducible refine Kd.C_drew ?_))); (case side8 => exact HC0_13.out); (case side9 => repeat (first | exact (Kd.za3 HR1.out HB.out) | (with_reducible refine Kd.C_alloc ?_ _) | (with_reducible refine Kd.C_drewN ?_ _) | (with_reducible refine Kd.C_drew ?_))); (case side10 => exact HC1.out); rintro e w13 ⟨rfl, hb⟩; refine ⟨_, rfl, ?_⟩; have n0_ := zaa.mk (zaP (g := gb370) (o := .cells #[.string a0_0, .string a0_1, .string a0_2, .string a0_3, .string a0_4, .slice A0_5 l0_5.length c0_5, .int .i64 a0_6, .slice A0_7 l0_7.length c0_7, .string a0_8, .string a0_9, .string a0_10, .string a0_11, .slice A0_12 l0_12.length c0_12, .slice A0_13 l0_13.length c0_13, .string a0_14] 31 (0, 0)) (yq3 BK370.out) hb); have n1_ := zaa.mk (zao (yq5 HB.out GE370.out) hb); clear BK370 HB; have BK370 := n0_; have HB := n1_; clear n0_ n1_; (try clear hb); (try clear hb2); (try clear hk); (try clear hi)) | ((with_reducible refine zaz (f := 53) rfl ?_); refine zbh (some 16) rfl rfl Tryz.func53 yq9 rfl #[.string t372] rfl yq2 ?_; (with_reducible refine (spec_l01Small.calls t372 t373 _ A11.out).mono ?_); rintro e w' ⟨rfl, ⟨nd, rfl⟩⟩; refine ⟨_, rfl, ?_⟩))
   go_ret
   exact ⟨yq6, yq5 HB.out GE370.out⟩
def impl_ready.f (a0_0 : ByteArray) (a0_1 : ByteArray) (a0_2 : ByteArray) (a0_3 : ByteArray) (a0_4 : ByteArray) (l0_5 : List Int) (a0_6 : Int) (l0_7 : List (S58)) (a0_8 : ByteArray) (a0_9 : ByteArray) (a0_10 : ByteArray) (a0_11 : ByteArray) (l0_12 : List ByteArray) (l0_13 : List ByteArray) (a0_14 : ByteArray) : Option (Bool) := (zaD.f a0_0 a0_1 a0_2 a0_3 a0_4 l0_5 a0_6 l0_7 a0_8 a0_9 a0_10 a0_11 l0_12 l0_13 a0_14).bind fun t375 => (if t375 = 0 then (some (a0_6 != (-1))) else (some false))
set_option maxHeartbeats 8000000 in
set_option maxRecDepth 100000 in
theorem impl_ready.calls (a0_0 : ByteArray) (a0_1 : ByteArray) (a0_2 : ByteArray) (a0_3 : ByteArray) (a0_4 : ByteArray) (A0_5 : Option Addr) (c0_5 : Nat) (l0_5 : List Int) (a0_6 : Int) (A0_7 : Option Addr) (c0_7 : Nat) (l0_7 : List (S58)) (a0_8 : ByteArray) (a0_9 : ByteArray) (a0_10 : ByteArray) (a0_11 : ByteArray) (A0_12 : Option Addr) (c0_12 : Nat) (l0_12 : List ByteArray) (A0_13 : Option Addr) (c0_13 : Nat) (l0_13 : List ByteArray) (a0_14 : ByteArray) (r : Bool) (w : World) (hr0_5 : Kd.C (Kd.int .i64) w A0_5 l0_5.length l0_5) (hc0_5 : l0_5.length ≤ c0_5) (hr0_7 : Kd.C k58 w A0_7 l0_7.length l0_7) (hc0_7 : l0_7.length ≤ c0_7) (hr0_12 : Kd.C Kd.string w A0_12 l0_12.length l0_12) (hc0_12 : l0_12.length ≤ c0_12) (hr0_13 : Kd.C Kd.string w A0_13 l0_13.length l0_13) (hc0_13 : l0_13.length ≤ c0_13) (hG : GT w) (h : impl_ready.f a0_0 a0_1 a0_2 a0_3 a0_4 l0_5 a0_6 l0_7 a0_8 a0_9 a0_10 a0_11 l0_12 l0_13 a0_14 = some r) :
  Calls Tryz.prog 55 #[.agg #[.string a0_0, .string a0_1, .string a0_2, .string a0_3, .string a0_4, .slice A0_5 l0_5.length c0_5, .int .i64 a0_6, .slice A0_7 l0_7.length c0_7, .string a0_8, .string a0_9, .string a0_10, .string a0_11, .slice A0_12 l0_12.length c0_12, .slice A0_13 l0_13.length c0_13, .string a0_14]] w fun e w' => e = .returned (.bool r) ∧ Below w.heap.size w w' := by
 have hu31 := Tryz.underlying31
 have HR0_5 := zaa.mk hr0_5; have HC0_5 := zaa.mk hc0_5; clear hr0_5 hc0_5; have HR0_7 := zaa.mk hr0_7; have HC0_7 := zaa.mk hc0_7; clear hr0_7 hc0_7; have HR0_12 := zaa.mk hr0_12; have HC0_12 := zaa.mk hc0_12; clear hr0_12 hc0_12; have HR0_13 := zaa.mk hr0_13; have HC0_13 := zaa.mk hc0_13; clear hr0_13 hc0_13; have HG := zaa.mk hG; clear hG
 have HB := zaa.mk (Below.refl w.heap.size w)
 have H : ((zaD.f a0_0 a0_1 a0_2 a0_3 a0_4 l0_5 a0_6 l0_7 a0_8 a0_9 a0_10 a0_11 l0_12 l0_13 a0_14).bind fun t375 => (if t375 = 0 then (some (a0_6 != (-1))) else (some false))) = some r := h
 clear h; replace H := Option.bind_eq_some_iff.mp H
 obtain ⟨t375, A20, H⟩ := H
 replace H : (if t375 = 0 then (some (a0_6 != (-1))) else (some false)) = some r := H
 have A2 := zaa.mk A20; clear A20
 by_cases c3 : t375 = 0
 ·rw [if_pos c3] at H
  have c3b0 : (t375 == 0) = true := beq_iff_eq.mpr c3
  have c3b1 : (t375 != 0) = false := bne_eq_false_iff_eq.mpr c3
  clear c3; obtain rfl := Option.some.inj H
  go_enter Tryz.func55, Tryz.ntmps55
  go_wp2_with (first | ((with_reducible refine zaO (N := 1) rfl ?_); refine zaT ?hg (N := 1) ?hd (cs := #[.string a0_0, .string a0_1, .string a0_2, .string a0_3, .string a0_4, .slice A0_5 l0_5.length c0_5, .int .i64 a0_6, .slice A0_7 l0_7.length c0_7, .string a0_8, .string a0_9, .string a0_10, .string a0_11, .slice A0_12 l0_12.length c0_12, .slice A0_13 l0_13.length c0_13, .string a0_14]) (t := 31) ?hr ?_; (case hd => rfl); (case hg => rfl); (case hr => first | (go_simp; done) | (go_simp; rfl)); intro gb374 hg w4 hbox hb; have n0_ := zaa.mk (zao (yq0 HB.out) hb); have n1_ := zaa.mk (hbox); have n2_ := zaa.mk ((by rw [hg]; exact (zar (yq0 HB.out)) : w.heap.size ≤ gb374)); have n3_ := zaa.mk ((by rw [hg]; exact (zar (yq0 HB.out)) : w.heap.size ≤ gb374)); clear HB; have HB := n0_; have zbf := n1_; have GW374 := n2_; have GE374 := n3_; clear n0_ n1_ n2_ n3_ hb hbox hg; have hcz5_0 : w4.cell? ⟨gb374, 0, none⟩ = some (.string a0_0) := (zad zbf.out 0).trans rfl; have hcz5_1 : w4.cell? ⟨gb374, 1, none⟩ = some (.string a0_1) := (zad zbf.out 1).trans rfl; have hcz5_2 : w4.cell? ⟨gb374, 2, none⟩ = some (.string a0_2) := (zad zbf.out 2).trans rfl; have hcz5_3 : w4.cell? ⟨gb374, 3, none⟩ = some (.string a0_3) := (zad zbf.out 3).trans rfl; have hcz5_4 : w4.cell? ⟨gb374, 4, none⟩ = some (.string a0_4) := (zad zbf.out 4).trans rfl; have hcz5_5 : w4.cell? ⟨gb374, 5, none⟩ = some (.slice A0_5 l0_5.length c0_5) := (zad zbf.out 5).trans rfl; have hcz5_6 : w4.cell? ⟨gb374, 6, none⟩ = some (.int .i64 a0_6) := (zad zbf.out 6).trans rfl; have hcz5_7 : w4.cell? ⟨gb374, 7, none⟩ = some (.slice A0_7 l0_7.length c0_7) := (zad zbf.out 7).trans rfl; have hcz5_8 : w4.cell? ⟨gb374, 8, none⟩ = some (.string a0_8) := (zad zbf.out 8).trans rfl; have hcz5_9 : w4.cell? ⟨gb374, 9, none⟩ = some (.string a0_9) := (zad zbf.out 9).trans rfl; have hcz5_10 : w4.cell? ⟨gb374, 10, none⟩ = some (.string a0_10) := (zad zbf.out 10).trans rfl; have hcz5_11 : w4.cell? ⟨gb374, 11, none⟩ = some (.string a0_11) := (zad zbf.out 11).trans rfl; have hcz5_12 : w4.cell? ⟨gb374, 12, none⟩ = some (.slice A0_12 l0_12.length c0_12) := (zad zbf.out 12).trans rfl; have hcz5_13 : w4.cell? ⟨gb374, 13, none⟩ = some (.slice A0_13 l0_13.length c0_13) := (zad zbf.out 13).trans rfl; have hcz5_14 : w4.cell? ⟨gb374, 14, none⟩ = some (.string a0_14) := (zad zbf.out 14).trans rfl; have hfz5_0 := zac zbf.out 0; have hfz5_1 := zac zbf.out 1; have hfz5_2 := zac zbf.out 2; have hfz5_3 := zac zbf.out 3; have hfz5_4 := zac zbf.out 4; have hfz5_5 := zac zbf.out 5; have hfz5_6 := zac zbf.out 6; have hfz5_7 := zac zbf.out 7; have hfz5_8 := zac zbf.out 8; have hfz5_9 := zac zbf.out 9; have hfz5_10 := zac zbf.out 10; have hfz5_11 := zac zbf.out 11; have hfz5_12 := zac zbf.out 12; have hfz5_13 := zac zbf.out 13; have hfz5_14 := zac zbf.out 14) | ((with_reducible refine zaz (f := 11) rfl ?_); refine zbh (some 4) rfl rfl Tryz.func11 yq9 rfl #[.agg #[.string a0_0, .string a0_1, .string a0_2, .string a0_3, .string a0_4, .slice A0_5 l0_5.length c0_5, .int .i64 a0_6, .slice A0_7 l0_7.length c0_7, .string a0_8, .string a0_9, .string a0_10, .string a0_11, .slice A0_12 l0_12.length c0_12, .slice A0_13 l0_13.length c0_13, .string a0_14]] rfl yq2 ?_; (with_reducible refine (zaD.calls a0_0 a0_1 a0_2 a0_3 a0_4 _ _ l0_5 a0_6 _ _ l0_7 a0_8 a0_9 a0_10 a0_11 _ _ l0_12 _ _ l0_13 a0_14 t375 _ ?side1 ?side2 ?side3 ?side4 ?side5 ?side6 ?side7 ?side8 ?side9 A2.out).mono ?_); (case side1 => repeat (first | exact (Kd.za3 HR0_5.out HB.out) | (with_reducible refine Kd.C_alloc ?_ _) | (with_reducible refine Kd.C_drewN ?_ _) | (with_reducible refine Kd.C_drew ?_))); (case side2 => exact HC0_5.out); (case side3 => repeat (first | exact (Kd.za3 HR0_7.out HB.out) | (with_reducible refine Kd.C_alloc ?_ _) | (with_reducible refine Kd.C_drewN ?_ _) | (with_reducible refine Kd.C_drew ?_))); (case side4 => exact HC0_7.out); (case side5 => repeat (first | exact (Kd.za3 HR0_12.out HB.out) | (with_reducible refine Kd.C_alloc ?_ _) | (with_reducible refine Kd.C_drewN ?_ _) | (with_reducible refine Kd.C_drew ?_))); (case side6 => exact HC0_12.out); (case side7 => repeat (first | exact (Kd.za3 HR0_13.out HB.out) | (with_reducible refine Kd.C_alloc ?_ _) | (with_reducible refine Kd.C_drewN ?_ _) | (with_reducible refine Kd.C_drew ?_))); (case side8 => exact HC0_13.out); (case side9 => exact zby HG.out (yq5 HB.out GE374.out)); rintro e w6 ⟨rfl, hb⟩; refine ⟨_, rfl, ?_⟩; have n0_ := zaa.mk (zaP (g := gb374) (o := .cells #[.string a0_0, .string a0_1, .string a0_2, .string a0_3, .string a0_4, .slice A0_5 l0_5.length c0_5, .int .i64 a0_6, .slice A0_7 l0_7.length c0_7, .string a0_8, .string a0_9, .string a0_10, .string a0_11, .slice A0_12 l0_12.length c0_12, .slice A0_13 l0_13.length c0_13, .string a0_14] 31 (0, 0)) (yq3 zbf.out) hb); have n1_ := zaa.mk (zao (yq5 HB.out GE374.out) hb); clear zbf HB; have zbf := n0_; have HB := n1_; clear n0_ n1_; (try clear hb); (try clear hb2); (try clear hk); (try clear hi); have hcz7_0 : w6.cell? ⟨gb374, 0, none⟩ = some (.string a0_0) := (zad zbf.out 0).trans rfl; have hcz7_1 : w6.cell? ⟨gb374, 1, none⟩ = some (.string a0_1) := (zad zbf.out 1).trans rfl; have hcz7_2 : w6.cell? ⟨gb374, 2, none⟩ = some (.string a0_2) := (zad zbf.out 2).trans rfl; have hcz7_3 : w6.cell? ⟨gb374, 3, none⟩ = some (.string a0_3) := (zad zbf.out 3).trans rfl; have hcz7_4 : w6.cell? ⟨gb374, 4, none⟩ = some (.string a0_4) := (zad zbf.out 4).trans rfl; have hcz7_5 : w6.cell? ⟨gb374, 5, none⟩ = some (.slice A0_5 l0_5.length c0_5) := (zad zbf.out 5).trans rfl; have hcz7_6 : w6.cell? ⟨gb374, 6, none⟩ = some (.int .i64 a0_6) := (zad zbf.out 6).trans rfl; have hcz7_7 : w6.cell? ⟨gb374, 7, none⟩ = some (.slice A0_7 l0_7.length c0_7) := (zad zbf.out 7).trans rfl; have hcz7_8 : w6.cell? ⟨gb374, 8, none⟩ = some (.string a0_8) := (zad zbf.out 8).trans rfl; have hcz7_9 : w6.cell? ⟨gb374, 9, none⟩ = some (.string a0_9) := (zad zbf.out 9).trans rfl; have hcz7_10 : w6.cell? ⟨gb374, 10, none⟩ = some (.string a0_10) := (zad zbf.out 10).trans rfl; have hcz7_11 : w6.cell? ⟨gb374, 11, none⟩ = some (.string a0_11) := (zad zbf.out 11).trans rfl; have hcz7_12 : w6.cell? ⟨gb374, 12, none⟩ = some (.slice A0_12 l0_12.length c0_12) := (zad zbf.out 12).trans rfl; have hcz7_13 : w6.cell? ⟨gb374, 13, none⟩ = some (.slice A0_13 l0_13.length c0_13) := (zad zbf.out 13).trans rfl; have hcz7_14 : w6.cell? ⟨gb374, 14, none⟩ = some (.string a0_14) := (zad zbf.out 14).trans rfl; have hfz7_0 := zac zbf.out 0; have hfz7_1 := zac zbf.out 1; have hfz7_2 := zac zbf.out 2; have hfz7_3 := zac zbf.out 3; have hfz7_4 := zac zbf.out 4; have hfz7_5 := zac zbf.out 5; have hfz7_6 := zac zbf.out 6; have hfz7_7 := zac zbf.out 7; have hfz7_8 := zac zbf.out 8; have hfz7_9 := zac zbf.out 9; have hfz7_10 := zac zbf.out 10; have hfz7_11 := zac zbf.out 11; have hfz7_12 := zac zbf.out 12; have hfz7_13 := zac zbf.out 13; have hfz7_14 := zac zbf.out 14))
  go_ret
  exact ⟨yq6, yq5 HB.out GE374.out⟩
 rw [if_neg c3] at H
 have c3b0 : (t375 == 0) = false := beq_eq_false_iff_ne.mpr c3
 have c3b1 : (t375 != 0) = true := bne_iff_ne.mpr c3
 obtain rfl := Option.some.inj H
 go_enter Tryz.func55, Tryz.ntmps55
 go_wp2_with (first | ((with_reducible refine zaO (N := 1) rfl ?_); refine zaT ?hg (N := 1) ?hd (cs := #[.string a0_0, .string a0_1, .string a0_2, .string a0_3, .string a0_4, .slice A0_5 l0_5.length c0_5, .int .i64 a0_6, .slice A0_7 l0_7.length c0_7, .string a0_8, .string a0_9, .string a0_10, .string a0_11, .slice A0_12 l0_12.length c0_12, .slice A0_13 l0_13.length c0_13, .string a0_14]) (t := 31) ?hr ?_; (case hd => rfl); (case hg => rfl); (case hr => first | (go_simp; done) | (go_simp; rfl)); intro gb374 hg w8 hbox hb; have n0_ := zaa.mk (zao (yq0 HB.out) hb); have n1_ := zaa.mk (hbox); have n2_ := zaa.mk ((by rw [hg]; exact (zar (yq0 HB.out)) : w.heap.size ≤ gb374)); have n3_ := zaa.mk ((by rw [hg]; exact (zar (yq0 HB.out)) : w.heap.size ≤ gb374)); clear HB; have HB := n0_; have zbf := n1_; have GW374 := n2_; have GE374 := n3_; clear n0_ n1_ n2_ n3_ hb hbox hg; have hcz9_0 : w8.cell? ⟨gb374, 0, none⟩ = some (.string a0_0) := (zad zbf.out 0).trans rfl; have hcz9_1 : w8.cell? ⟨gb374, 1, none⟩ = some (.string a0_1) := (zad zbf.out 1).trans rfl; have hcz9_2 : w8.cell? ⟨gb374, 2, none⟩ = some (.string a0_2) := (zad zbf.out 2).trans rfl; have hcz9_3 : w8.cell? ⟨gb374, 3, none⟩ = some (.string a0_3) := (zad zbf.out 3).trans rfl; have hcz9_4 : w8.cell? ⟨gb374, 4, none⟩ = some (.string a0_4) := (zad zbf.out 4).trans rfl; have hcz9_5 : w8.cell? ⟨gb374, 5, none⟩ = some (.slice A0_5 l0_5.length c0_5) := (zad zbf.out 5).trans rfl; have hcz9_6 : w8.cell? ⟨gb374, 6, none⟩ = some (.int .i64 a0_6) := (zad zbf.out 6).trans rfl; have hcz9_7 : w8.cell? ⟨gb374, 7, none⟩ = some (.slice A0_7 l0_7.length c0_7) := (zad zbf.out 7).trans rfl; have hcz9_8 : w8.cell? ⟨gb374, 8, none⟩ = some (.string a0_8) := (zad zbf.out 8).trans rfl; have hcz9_9 : w8.cell? ⟨gb374, 9, none⟩ = some (.string a0_9) := (zad zbf.out 9).trans rfl; have hcz9_10 : w8.cell? ⟨gb374, 10, none⟩ = some (.string a0_10) := (zad zbf.out 10).trans rfl; have hcz9_11 : w8.cell? ⟨gb374, 11, none⟩ = some (.string a0_11) := (zad zbf.out 11).trans rfl; have hcz9_12 : w8.cell? ⟨gb374, 12, none⟩ = some (.slice A0_12 l0_12.length c0_12) := (zad zbf.out 12).trans rfl; have hcz9_13 : w8.cell? ⟨gb374, 13, none⟩ = some (.slice A0_13 l0_13.length c0_13) := (zad zbf.out 13).trans rfl; have hcz9_14 : w8.cell? ⟨gb374, 14, none⟩ = some (.string a0_14) := (zad zbf.out 14).trans rfl; have hfz9_0 := zac zbf.out 0; have hfz9_1 := zac zbf.out 1; have hfz9_2 := zac zbf.out 2; have hfz9_3 := zac zbf.out 3; have hfz9_4 := zac zbf.out 4; have hfz9_5 := zac zbf.out 5; have hfz9_6 := zac zbf.out 6; have hfz9_7 := zac zbf.out 7; have hfz9_8 := zac zbf.out 8; have hfz9_9 := zac zbf.out 9; have hfz9_10 := zac zbf.out 10; have hfz9_11 := zac zbf.out 11; have hfz9_12 := zac zbf.out 12; have hfz9_13 := zac zbf.out 13; have hfz9_14 := zac zbf.out 14) | ((with_reducible refine zaz (f := 11) rfl ?_); refine zbh (some 4) rfl rfl Tryz.func11 yq9 rfl #[.agg #[.string a0_0, .string a0_1, .string a0_2, .string a0_3, .string a0_4, .slice A0_5 l0_5.length c0_5, .int .i64 a0_6, .slice A0_7 l0_7.length c0_7, .string a0_8, .string a0_9, .string a0_10, .string a0_11, .slice A0_12 l0_12.length c0_12, .slice A0_13 l0_13.length c0_13, .string a0_14]] rfl yq2 ?_; (with_reducible refine (zaD.calls a0_0 a0_1 a0_2 a0_3 a0_4 _ _ l0_5 a0_6 _ _ l0_7 a0_8 a0_9 a0_10 a0_11 _ _ l0_12 _ _ l0_13 a0_14 t375 _ ?side1 ?side2 ?side3 ?side4 ?side5 ?side6 ?side7 ?side8 ?side9 A2.out).mono ?_); (case side1 => repeat (first | exact (Kd.za3 HR0_5.out HB.out) | (with_reducible refine Kd.C_alloc ?_ _) | (with_reducible refine Kd.C_drewN ?_ _) | (with_reducible refine Kd.C_drew ?_))); (case side2 => exact HC0_5.out); (case side3 => repeat (first | exact (Kd.za3 HR0_7.out HB.out) | (with_reducible refine Kd.C_alloc ?_ _) | (with_reducible refine Kd.C_drewN ?_ _) | (with_reducible refine Kd.C_drew ?_))); (case side4 => exact HC0_7.out); (case side5 => repeat (first | exact (Kd.za3 HR0_12.out HB.out) | (with_reducible refine Kd.C_alloc ?_ _) | (with_reducible refine Kd.C_drewN ?_ _) | (with_reducible refine Kd.C_drew ?_))); (case side6 => exact HC0_12.out); (case side7 => repeat (first | exact (Kd.za3 HR0_13.out HB.out) | (with_reducible refine Kd.C_alloc ?_ _) | (with_reducible refine Kd.C_drewN ?_ _) | (with_reducible refine Kd.C_drew ?_))); (case side8 => exact HC0_13.out); (case side9 => exact zby HG.out (yq5 HB.out GE374.out)); rintro e w10 ⟨rfl, hb⟩; refine ⟨_, rfl, ?_⟩; have n0_ := zaa.mk (zaP (g := gb374) (o := .cells #[.string a0_0, .string a0_1, .string a0_2, .string a0_3, .string a0_4, .slice A0_5 l0_5.length c0_5, .int .i64 a0_6, .slice A0_7 l0_7.length c0_7, .string a0_8, .string a0_9, .string a0_10, .string a0_11, .slice A0_12 l0_12.length c0_12, .slice A0_13 l0_13.length c0_13, .string a0_14] 31 (0, 0)) (yq3 zbf.out) hb); have n1_ := zaa.mk (zao (yq5 HB.out GE374.out) hb); clear zbf HB; have zbf := n0_; have HB := n1_; clear n0_ n1_; (try clear hb); (try clear hb2); (try clear hk); (try clear hi)))
 go_ret
 exact ⟨yq6, yq5 HB.out GE374.out⟩
def impl_long.f (a0 : ByteArray) : Option (Bool) := some (decide ((a0.size : Int) > 65536))
set_option maxHeartbeats 8000000 in
set_option maxRecDepth 100000 in
theorem impl_long.calls (a0 : ByteArray) (r : Bool) (w : World) (h : impl_long.f a0 = some r) :
  Calls Tryz.prog 87 #[.string a0] w fun e w' => e = .returned (.bool r) ∧ zas w w' := by
 have H : (some (decide ((a0.size : Int) > 65536))) = some r := h
 clear h; obtain rfl := Option.some.inj H
 go_enter Tryz.func87, Tryz.ntmps87
 go_wp2
 go_ret
 exact ⟨yq4, yq10⟩
end Go.Proofs.YtfafjbolmeimmaaGreatDoor.P
