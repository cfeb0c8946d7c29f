/- Written by a program of this session: plain Lean functions for Go functions, and for each the proof that the call comes to what the function says. -/
import Derived.Test.YtfafjbolmeimmaaGreatDoorAb
import Derived.Test.YtfafjbolmeimmaaGreatDoorF4
import Derived.Test.YtfafjbolmeimmaaGreatDoorJ24
import Derived.Test.YtfafjbolmeimmaaGreatDoorJ4
import Derived.Test.YtfafjbolmeimmaaGreatDoorF17
import Derived.Test.YtfafjbolmeimmaaGreatDoorF21
import Derived.Test.YtfafjbolmeimmaaGreatDoorF22
namespace Go.Proofs.YtfafjbolmeimmaaGreatDoor.P
open Go.RowKit Go.Proofs.YtfafjbolmeimmaaGreatDoorW.PrintWords Go.Proofs.YtfafjbolmeimmaaGreatDoorW.PrintLast Go.Proofs.YtfafjbolmeimmaaGreatDoorW.PrintMore
attribute [local go_sem] zbm zbn max_two min_two za9 za8 zbk zbj
set_option linter.unusedVariables false
set_option linter.unusedSimpArgs false
def zaL.l0 : Nat → List (S31) → List (S31) → Int → Option (Bool)
 | 0, _, _, _ => none
 | k + 1, x0, x1, x5 => if x5 < (x0.length : Int) then (if 0 ≤ x5 then (if x5 < (x1.length : Int) then ((laws_eqLocale.f ((zao x0 x5).f0) ((zao x0 x5).f1) ((zao x0 x5).f2) ((zao x0 x5).f3) ((zao x0 x5).f4) ((zao x0 x5).f5) ((zao x0 x5).f6) ((zao x0 x5).f7) ((zao x0 x5).f8) ((zao x0 x5).f9) ((zao x0 x5).f10) ((zao x0 x5).f11) ((zao x0 x5).f12) ((zao x0 x5).f13) ((zao x0 x5).f14) ((zao x1 x5).f0) ((zao x1 x5).f1) ((zao x1 x5).f2) ((zao x1 x5).f3) ((zao x1 x5).f4) ((zao x1 x5).f5) ((zao x1 x5).f6) ((zao x1 x5).f7) ((zao x1 x5).f8) ((zao x1 x5).f9) ((zao x1 x5).f10) ((zao x1 x5).f11) ((zao x1 x5).f12) ((zao x1 x5).f13) ((zao x1 x5).f14)).bind fun t340 => (if t340 = true then (zaL.l0 k x0 x1 (wrap64 (x5 + 1))) else (some false))) else (none)) else (none)) else (some true)
def zaL.f (k : Nat) (l0 : List (S31)) (l1 : List (S31)) : Option (Bool) := if (l0.length : Int) = (l1.length : Int) then (zaL.l0 k l0 l1 0) else (some false)
def zaL.T6 : Bool × List (List Nat × List Nat) := (true, [([], []), ([], []), ([0, 1], [0, 1]), ([2], [2]), ([], []), ([], []), ([4, 5], [4, 5]), ([6], [6]), ([3, 7], [3, 7]), ([8], [8])])
def zaL.B6 : List Nat := [0, 0, 3, 7, 0, 0, 48, 112, 255, 511]
theorem zaL.tab6 : rtab .any (opsOf Tryz.f17 6) = zaL.T6 := by kernel_rfl
theorem zaL.bits6 : waitsOk zaL.T6.2 zaL.B6 = true := by kernel_rfl
set_option maxHeartbeats 8000000 in
set_option maxRecDepth 100000 in
theorem zaL.calls (k : Nat) (A0 : Option Addr) (c0 : Nat) (l0 : List (S31)) (A1 : Option Addr) (c1 : Nat) (l1 : List (S31)) (r : Bool) (w : World) (hr0 : Kd.C k31 w A0 l0.length l0) (hc0 : l0.length ≤ c0) (hr1 : Kd.C k31 w A1 l1.length l1) (hc1 : l1.length ≤ c1) (h : zaL.f k l0 l1 = some r) :
  Calls Tryz.prog 17 #[.slice A0 l0.length c0, .slice A1 l1.length c1] w fun e w' => e = .returned (.bool r) ∧ Below w.heap.size w w' := by
 have hu31 := Tryz.underlying31
 have HR0 := zaa.mk hr0; have HC0 := zaa.mk hc0; clear hr0 hc0; have HR1 := zaa.mk hr1; have HC1 := zaa.mk hc1; clear hr1 hc1
 have HB := zaa.mk (Below.refl w.heap.size w)
 have H : (if (l0.length : Int) = (l1.length : Int) then (zaL.l0 k l0 l1 0) else (some false)) = some r := h
 clear h
 by_cases c3 : (l0.length : Int) = (l1.length : Int)
 ·rw [if_pos c3] at H
  have c3b0 : ((l0.length : Int) == (l1.length : Int)) = true := beq_iff_eq.mpr c3
  have c3b1 : ((l0.length : Int) != (l1.length : Int)) = false := bne_eq_false_iff_eq.mpr c3
  have c3b2 : (l0.length == l1.length) = true := by first | simpa using c3 | (simp at c3 ⊢; omega)
  clear c3; have H' := zaa.mk H; clear H
  go_enter Tryz.func17, Tryz.ntmps17
  go_wp2
  go_loopg [5] k (fun kq v5 w' => ∃ (x5_1 : Int), v5 = .int .i64 x5_1 ∧ zaa (zaL.l0 kq l0 l1 x5_1 = some r) ∧ zaa (kq ≤ k) ∧ zaa (Below w.heap.size w w'))
  case atStart => exact ⟨(0), yq3, H', ⟨Nat.le_refl _⟩, ⟨yq0 HB.out⟩⟩
  case round =>
   clear H'
   try clear c1
   try clear c3b0
   try clear c3b1
   try clear c3b2
   obtain ⟨x5_1, rfl, HA, HK1, HB⟩ := hrel
   cases gk with
   | zero => exact absurd HA.out (by simp [zaL.l0])
   | succ k1 =>
    have H := HA.out; clear HA
    simp only [zaL.l0] at H
    by_cases c4 : x5_1 < (l0.length : Int)
    ·rw [if_pos c4] at H
     have c4b0 : decide (x5_1 < (l0.length : Int)) = true := decide_eq_true c4
     clear c4
     by_cases c5 : 0 ≤ x5_1
     ·rw [if_pos c5] at H
      have c5b0 : decide (0 ≤ x5_1) = true := decide_eq_true c5
      clear c5
      by_cases c6 : x5_1 < (l1.length : Int)
      ·rw [if_pos c6] at H
       have c6b0 : decide (x5_1 < (l1.length : Int)) = true := decide_eq_true c6
       clear c6; replace H := Option.bind_eq_some_iff.mp H
       obtain ⟨t340, A70, H⟩ := H
       replace H : (if t340 = true then (zaL.l0 k1 l0 l1 (wrap64 (x5_1 + 1))) else (some false)) = some r := H
       have A7 := zaa.mk A70; clear A70
       by_cases c8 : t340 = true
       ·subst c8
        replace H : (zaL.l0 k1 l0 l1 (wrap64 (x5_1 + 1))) = some r := by rw [if_pos rfl] at H; exact H
        have H' := zaa.mk H; clear H
        try go_wp2
        have n0_ := zaa.mk (zac HB.out)
        clear HB
        have HB := n0_
        clear n0_
        have p338 : 0 ≤ (x5_1 : Int) := of_decide_eq_true yq1
        have q338 : x5_1 < (l0.length : Int) := of_decide_eq_true yq1
        obtain ⟨ad338, A338_5, c338_5, A338_7, c338_7, A338_12, c338_12, A338_13, c338_13, e338, hx338_0, hx338_1, hx338_2, hx338_3, hx338_4, hx338_5, hx338_6, hx338_7, hx338_8, hx338_9, hx338_10, hx338_11, hx338_12, hx338_13, hx338_14, hl338_5, hi338_5, hl338_7, hi338_7, hl338_12, hi338_12, hl338_13, hi338_13⟩ := at_T31 HR0.out x5_1 p338 q338
        have hw338_14 := hx338_14
        have hw338_13 := hx338_13
        have hw338_12 := hx338_12
        have hw338_11 := hx338_11
        have hw338_10 := hx338_10
        have hw338_9 := hx338_9
        have hw338_8 := hx338_8
        have hw338_7 := hx338_7
        have hw338_6 := hx338_6
        have hw338_5 := hx338_5
        have hw338_4 := hx338_4
        have hw338_3 := hx338_3
        have hw338_2 := hx338_2
        have hw338_1 := hx338_1
        have hw338_0 := hx338_0
        cases e338
        replace hx338_0 := (HB.out.cell (World.block_lt_of_cell? w _ hx338_0)).trans hx338_0
        replace hx338_1 := (HB.out.cell (World.block_lt_of_cell? w _ hx338_1)).trans hx338_1
        replace hx338_2 := (HB.out.cell (World.block_lt_of_cell? w _ hx338_2)).trans hx338_2
        replace hx338_3 := (HB.out.cell (World.block_lt_of_cell? w _ hx338_3)).trans hx338_3
        replace hx338_4 := (HB.out.cell (World.block_lt_of_cell? w _ hx338_4)).trans hx338_4
        replace hx338_5 := (HB.out.cell (World.block_lt_of_cell? w _ hx338_5)).trans hx338_5
        replace hx338_6 := (HB.out.cell (World.block_lt_of_cell? w _ hx338_6)).trans hx338_6
        replace hx338_7 := (HB.out.cell (World.block_lt_of_cell? w _ hx338_7)).trans hx338_7
        replace hx338_8 := (HB.out.cell (World.block_lt_of_cell? w _ hx338_8)).trans hx338_8
        replace hx338_9 := (HB.out.cell (World.block_lt_of_cell? w _ hx338_9)).trans hx338_9
        replace hx338_10 := (HB.out.cell (World.block_lt_of_cell? w _ hx338_10)).trans hx338_10
        replace hx338_11 := (HB.out.cell (World.block_lt_of_cell? w _ hx338_11)).trans hx338_11
        replace hx338_12 := (HB.out.cell (World.block_lt_of_cell? w _ hx338_12)).trans hx338_12
        replace hx338_13 := (HB.out.cell (World.block_lt_of_cell? w _ hx338_13)).trans hx338_13
        replace hx338_14 := (HB.out.cell (World.block_lt_of_cell? w _ hx338_14)).trans hx338_14
        have HR338_5 := zaa.mk hi338_5; have HC338_5 := zaa.mk hl338_5; clear hi338_5 hl338_5; have HR338_7 := zaa.mk hi338_7; have HC338_7 := zaa.mk hl338_7; clear hi338_7 hl338_7; have HR338_12 := zaa.mk hi338_12; have HC338_12 := zaa.mk hl338_12; clear hi338_12 hl338_12; have HR338_13 := zaa.mk hi338_13; have HC338_13 := zaa.mk hl338_13; clear hi338_13 hl338_13
        replace p338 := eq_true p338
        replace q338 := eq_true q338
        have p339 : 0 ≤ (x5_1 : Int) := of_decide_eq_true yq1
        have q339 : x5_1 < (l1.length : Int) := of_decide_eq_true yq1
        obtain ⟨ad339, A339_5, c339_5, A339_7, c339_7, A339_12, c339_12, A339_13, c339_13, e339, hx339_0, hx339_1, hx339_2, hx339_3, hx339_4, hx339_5, hx339_6, hx339_7, hx339_8, hx339_9, hx339_10, hx339_11, hx339_12, hx339_13, hx339_14, hl339_5, hi339_5, hl339_7, hi339_7, hl339_12, hi339_12, hl339_13, hi339_13⟩ := at_T31 HR1.out x5_1 p339 q339
        have hw339_14 := hx339_14
        have hw339_13 := hx339_13
        have hw339_12 := hx339_12
        have hw339_11 := hx339_11
        have hw339_10 := hx339_10
        have hw339_9 := hx339_9
        have hw339_8 := hx339_8
        have hw339_7 := hx339_7
        have hw339_6 := hx339_6
        have hw339_5 := hx339_5
        have hw339_4 := hx339_4
        have hw339_3 := hx339_3
        have hw339_2 := hx339_2
        have hw339_1 := hx339_1
        have hw339_0 := hx339_0
        cases e339
        replace hx339_0 := (HB.out.cell (World.block_lt_of_cell? w _ hx339_0)).trans hx339_0
        replace hx339_1 := (HB.out.cell (World.block_lt_of_cell? w _ hx339_1)).trans hx339_1
        replace hx339_2 := (HB.out.cell (World.block_lt_of_cell? w _ hx339_2)).trans hx339_2
        replace hx339_3 := (HB.out.cell (World.block_lt_of_cell? w _ hx339_3)).trans hx339_3
        replace hx339_4 := (HB.out.cell (World.block_lt_of_cell? w _ hx339_4)).trans hx339_4
        replace hx339_5 := (HB.out.cell (World.block_lt_of_cell? w _ hx339_5)).trans hx339_5
        replace hx339_6 := (HB.out.cell (World.block_lt_of_cell? w _ hx339_6)).trans hx339_6
        replace hx339_7 := (HB.out.cell (World.block_lt_of_cell? w _ hx339_7)).trans hx339_7
        replace hx339_8 := (HB.out.cell (World.block_lt_of_cell? w _ hx339_8)).trans hx339_8
        replace hx339_9 := (HB.out.cell (World.block_lt_of_cell? w _ hx339_9)).trans hx339_9
        replace hx339_10 := (HB.out.cell (World.block_lt_of_cell? w _ hx339_10)).trans hx339_10
        replace hx339_11 := (HB.out.cell (World.block_lt_of_cell? w _ hx339_11)).trans hx339_11
        replace hx339_12 := (HB.out.cell (World.block_lt_of_cell? w _ hx339_12)).trans hx339_12
        replace hx339_13 := (HB.out.cell (World.block_lt_of_cell? w _ hx339_13)).trans hx339_13
        replace hx339_14 := (HB.out.cell (World.block_lt_of_cell? w _ hx339_14)).trans hx339_14
        have HR339_5 := zaa.mk hi339_5; have HC339_5 := zaa.mk hl339_5; clear hi339_5 hl339_5; have HR339_7 := zaa.mk hi339_7; have HC339_7 := zaa.mk hl339_7; clear hi339_7 hl339_7; have HR339_12 := zaa.mk hi339_12; have HC339_12 := zaa.mk hl339_12; clear hi339_12 hl339_12; have HR339_13 := zaa.mk hi339_13; have HC339_13 := zaa.mk hl339_13; clear hi339_13 hl339_13
        replace p339 := eq_true p339
        replace q339 := eq_true q339
        refine start_ (n := 10) (S := fun w' => w'.cell? (ad338.add ((x5_1).toNat * 15)) = some (.string ((zao l0 x5_1).f0)) ∧ w'.cell? ⟨(ad338.add ((x5_1).toNat * 15)).block, (ad338.add ((x5_1).toNat * 15)).off + 1, none⟩ = some (.string ((zao l0 x5_1).f1)) ∧ w'.cell? ⟨(ad338.add ((x5_1).toNat * 15)).block, (ad338.add ((x5_1).toNat * 15)).off + 2, none⟩ = some (.string ((zao l0 x5_1).f2)) ∧ w'.cell? ⟨(ad338.add ((x5_1).toNat * 15)).block, (ad338.add ((x5_1).toNat * 15)).off + 3, none⟩ = some (.string ((zao l0 x5_1).f3)) ∧ w'.cell? ⟨(ad338.add ((x5_1).toNat * 15)).block, (ad338.add ((x5_1).toNat * 15)).off + 4, none⟩ = some (.string ((zao l0 x5_1).f4)) ∧ w'.cell? ⟨(ad338.add ((x5_1).toNat * 15)).block, (ad338.add ((x5_1).toNat * 15)).off + 5, none⟩ = some (.slice A338_5 ((zao l0 x5_1).f5).length c338_5) ∧ w'.cell? ⟨(ad338.add ((x5_1).toNat * 15)).block, (ad338.add ((x5_1).toNat * 15)).off + 6, none⟩ = some (.int .i64 ((zao l0 x5_1).f6)) ∧ w'.cell? ⟨(ad338.add ((x5_1).toNat * 15)).block, (ad338.add ((x5_1).toNat * 15)).off + 7, none⟩ = some (.slice A338_7 ((zao l0 x5_1).f7).length c338_7) ∧ w'.cell? ⟨(ad338.add ((x5_1).toNat * 15)).block, (ad338.add ((x5_1).toNat * 15)).off + 8, none⟩ = some (.string ((zao l0 x5_1).f8)) ∧ w'.cell? ⟨(ad338.add ((x5_1).toNat * 15)).block, (ad338.add ((x5_1).toNat * 15)).off + 9, none⟩ = some (.string ((zao l0 x5_1).f9)) ∧ w'.cell? ⟨(ad338.add ((x5_1).toNat * 15)).block, (ad338.add ((x5_1).toNat * 15)).off + 10, none⟩ = some (.string ((zao l0 x5_1).f10)) ∧ w'.cell? ⟨(ad338.add ((x5_1).toNat * 15)).block, (ad338.add ((x5_1).toNat * 15)).off + 11, none⟩ = some (.string ((zao l0 x5_1).f11)) ∧ w'.cell? ⟨(ad338.add ((x5_1).toNat * 15)).block, (ad338.add ((x5_1).toNat * 15)).off + 12, none⟩ = some (.slice A338_12 ((zao l0 x5_1).f12).length c338_12) ∧ w'.cell? ⟨(ad338.add ((x5_1).toNat * 15)).block, (ad338.add ((x5_1).toNat * 15)).off + 13, none⟩ = some (.slice A338_13 ((zao l0 x5_1).f13).length c338_13) ∧ w'.cell? ⟨(ad338.add ((x5_1).toNat * 15)).block, (ad338.add ((x5_1).toNat * 15)).off + 14, none⟩ = some (.string ((zao l0 x5_1).f14)) ∧ w'.cell? (ad339.add ((x5_1).toNat * 15)) = some (.string ((zao l1 x5_1).f0)) ∧ w'.cell? ⟨(ad339.add ((x5_1).toNat * 15)).block, (ad339.add ((x5_1).toNat * 15)).off + 1, none⟩ = some (.string ((zao l1 x5_1).f1)) ∧ w'.cell? ⟨(ad339.add ((x5_1).toNat * 15)).block, (ad339.add ((x5_1).toNat * 15)).off + 2, none⟩ = some (.string ((zao l1 x5_1).f2)) ∧ w'.cell? ⟨(ad339.add ((x5_1).toNat * 15)).block, (ad339.add ((x5_1).toNat * 15)).off + 3, none⟩ = some (.string ((zao l1 x5_1).f3)) ∧ w'.cell? ⟨(ad339.add ((x5_1).toNat * 15)).block, (ad339.add ((x5_1).toNat * 15)).off + 4, none⟩ = some (.string ((zao l1 x5_1).f4)) ∧ w'.cell? ⟨(ad339.add ((x5_1).toNat * 15)).block, (ad339.add ((x5_1).toNat * 15)).off + 5, none⟩ = some (.slice A339_5 ((zao l1 x5_1).f5).length c339_5) ∧ w'.cell? ⟨(ad339.add ((x5_1).toNat * 15)).block, (ad339.add ((x5_1).toNat * 15)).off + 6, none⟩ = some (.int .i64 ((zao l1 x5_1).f6)) ∧ w'.cell? ⟨(ad339.add ((x5_1).toNat * 15)).block, (ad339.add ((x5_1).toNat * 15)).off + 7, none⟩ = some (.slice A339_7 ((zao l1 x5_1).f7).length c339_7) ∧ w'.cell? ⟨(ad339.add ((x5_1).toNat * 15)).block, (ad339.add ((x5_1).toNat * 15)).off + 8, none⟩ = some (.string ((zao l1 x5_1).f8)) ∧ w'.cell? ⟨(ad339.add ((x5_1).toNat * 15)).block, (ad339.add ((x5_1).toNat * 15)).off + 9, none⟩ = some (.string ((zao l1 x5_1).f9)) ∧ w'.cell? ⟨(ad339.add ((x5_1).toNat * 15)).block, (ad339.add ((x5_1).toNat * 15)).off + 10, none⟩ = some (.string ((zao l1 x5_1).f10)) ∧ w'.cell? ⟨(ad339.add ((x5_1).toNat * 15)).block, (ad339.add ((x5_1).toNat * 15)).off + 11, none⟩ = some (.string ((zao l1 x5_1).f11)) ∧ w'.cell? ⟨(ad339.add ((x5_1).toNat * 15)).block, (ad339.add ((x5_1).toNat * 15)).off + 12, none⟩ = some (.slice A339_12 ((zao l1 x5_1).f12).length c339_12) ∧ w'.cell? ⟨(ad339.add ((x5_1).toNat * 15)).block, (ad339.add ((x5_1).toNat * 15)).off + 13, none⟩ = some (.slice A339_13 ((zao l1 x5_1).f13).length c339_13) ∧ w'.cell? ⟨(ad339.add ((x5_1).toNat * 15)).block, (ad339.add ((x5_1).toNat * 15)).off + 14, none⟩ = some (.string ((zao l1 x5_1).f14))) (ds := []) #[false, false, false, false, false, false, false, false, false, false] yq10 rfl rfl ⟨((HB.out.cell (World.block_lt_of_cell? w _ hw338_0)).trans hw338_0), ((HB.out.cell (World.block_lt_of_cell? w _ hw338_1)).trans hw338_1), ((HB.out.cell (World.block_lt_of_cell? w _ hw338_2)).trans hw338_2), ((HB.out.cell (World.block_lt_of_cell? w _ hw338_3)).trans hw338_3), ((HB.out.cell (World.block_lt_of_cell? w _ hw338_4)).trans hw338_4), ((HB.out.cell (World.block_lt_of_cell? w _ hw338_5)).trans hw338_5), ((HB.out.cell (World.block_lt_of_cell? w _ hw338_6)).trans hw338_6), ((HB.out.cell (World.block_lt_of_cell? w _ hw338_7)).trans hw338_7), ((HB.out.cell (World.block_lt_of_cell? w _ hw338_8)).trans hw338_8), ((HB.out.cell (World.block_lt_of_cell? w _ hw338_9)).trans hw338_9), ((HB.out.cell (World.block_lt_of_cell? w _ hw338_10)).trans hw338_10), ((HB.out.cell (World.block_lt_of_cell? w _ hw338_11)).trans hw338_11), ((HB.out.cell (World.block_lt_of_cell? w _ hw338_12)).trans hw338_12), ((HB.out.cell (World.block_lt_of_cell? w _ hw338_13)).trans hw338_13), ((HB.out.cell (World.block_lt_of_cell? w _ hw338_14)).trans hw338_14), ((HB.out.cell (World.block_lt_of_cell? w _ hw339_0)).trans hw339_0), ((HB.out.cell (World.block_lt_of_cell? w _ hw339_1)).trans hw339_1), ((HB.out.cell (World.block_lt_of_cell? w _ hw339_2)).trans hw339_2), ((HB.out.cell (World.block_lt_of_cell? w _ hw339_3)).trans hw339_3), ((HB.out.cell (World.block_lt_of_cell? w _ hw339_4)).trans hw339_4), ((HB.out.cell (World.block_lt_of_cell? w _ hw339_5)).trans hw339_5), ((HB.out.cell (World.block_lt_of_cell? w _ hw339_6)).trans hw339_6), ((HB.out.cell (World.block_lt_of_cell? w _ hw339_7)).trans hw339_7), ((HB.out.cell (World.block_lt_of_cell? w _ hw339_8)).trans hw339_8), ((HB.out.cell (World.block_lt_of_cell? w _ hw339_9)).trans hw339_9), ((HB.out.cell (World.block_lt_of_cell? w _ hw339_10)).trans hw339_10), ((HB.out.cell (World.block_lt_of_cell? w _ hw339_11)).trans hw339_11), ((HB.out.cell (World.block_lt_of_cell? w _ hw339_12)).trans hw339_12), ((HB.out.cell (World.block_lt_of_cell? w _ hw339_13)).trans hw339_13), ((HB.out.cell (World.block_lt_of_cell? w _ hw339_14)).trans hw339_14)⟩ (fun hHeld => ?_); refine zbo zaL.tab6 zaL.bits6 (fun HT_ HW_ => ?_)
        generalize wr.drew = w9 at HB HR338_12 HR338_13 HR338_5 HR338_7 HR339_12 HR339_13 HR339_5 HR339_7 hx338_0 hx338_1 hx338_10 hx338_11 hx338_12 hx338_13 hx338_14 hx338_2 hx338_3 hx338_4 hx338_5 hx338_6 hx338_7 hx338_8 hx338_9 hx339_0 hx339_1 hx339_10 hx339_11 hx339_12 hx339_13 hx339_14 hx339_2 hx339_3 hx339_4 hx339_5 hx339_6 hx339_7 hx339_8 hx339_9 hHeld ⊢
        refine pure_ (i := 0) (N := some 17) (v := ?_) (a' := ?_) #[true, false, false, false, false, false, false, false, false, false] rfl rfl (any_of HT_.out yq10) (fun _ _ _ h => h) (Or.inl ⟨yq30, ?_⟩) ?_ ?_
        rotate_left
        ·intro w'
         go_simp
         with_reducible rfl
        rotate_left
        ·simp only [Act.put, List.setIfInBounds_toArray, List.set_cons_zero, List.set_cons_succ, zaE, zaH]
         rfl
        refine pure_ (i := 1) (N := some 18) (v := ?_) (a' := ?_) #[true, true, false, false, false, false, false, false, false, false] rfl rfl (any_of HT_.out yq10) (fun _ _ _ h => h) (Or.inl ⟨yq30, ?_⟩) ?_ ?_
        rotate_left
        ·intro w'
         go_simp
         with_reducible rfl
        rotate_left
        ·simp only [Act.put, List.setIfInBounds_toArray, List.set_cons_zero, List.set_cons_succ, zaE, zaH]
         rfl
        refine pure_ (i := 2) (N := some 19) (v := ?_) (a' := ?_) #[true, true, true, false, false, false, false, false, false, false] rfl rfl (any_of HT_.out yq10) (fun _ _ _ h => h) (Or.inl ⟨yq30, ?_⟩) ?_ ?_
        rotate_left
        ·intro w'
         go_simp
         with_reducible rfl
        rotate_left
        ·simp only [Act.put, List.setIfInBounds_toArray, List.set_cons_zero, List.set_cons_succ, zaE, zaH]
         rfl
        refine pure_ (i := 4) (N := some 21) (v := ?_) (a' := ?_) #[true, true, true, false, true, false, false, false, false, false] rfl rfl (any_of HT_.out yq10) (fun _ _ _ h => h) (Or.inl ⟨yq30, ?_⟩) ?_ ?_
        rotate_left
        ·intro w'
         go_simp
         with_reducible rfl
        rotate_left
        ·simp only [Act.put, List.setIfInBounds_toArray, List.set_cons_zero, List.set_cons_succ, zaE, zaH]
         rfl
        refine pure_ (i := 5) (N := some 22) (v := ?_) (a' := ?_) #[true, true, true, false, true, true, false, false, false, false] rfl rfl (any_of HT_.out yq10) (fun _ _ _ h => h) (Or.inl ⟨yq30, ?_⟩) ?_ ?_
        rotate_left
        ·intro w'
         go_simp
         with_reducible rfl
        rotate_left
        ·simp only [Act.put, List.setIfInBounds_toArray, List.set_cons_zero, List.set_cons_succ, zaE, zaH]
         rfl
        refine pure_ (i := 6) (N := some 23) (v := ?_) (a' := ?_) #[true, true, true, false, true, true, true, false, false, false] rfl rfl (any_of HT_.out yq10) (fun _ _ _ h => h) (Or.inl ⟨yq30, ?_⟩) ?_ ?_
        rotate_left
        ·intro w'
         go_simp
         with_reducible rfl
        rotate_left
        ·simp only [Act.put, List.setIfInBounds_toArray, List.set_cons_zero, List.set_cons_succ, zaE, zaH]
         rfl
        refine take_ (i := 3) (N := some 20) (v := ?_) (a' := ?_) #[true, true, true, true, true, true, true, false, false, false] rfl rfl (take_ofW HT_.out HW_.out yq10) (fun _ _ _ h => h) (Or.inl ⟨yq30, ?_⟩) hHeld ?_ ?_
        rotate_left
        ·rintro w' ⟨s0, s1, s2, s3, s4, s5, s6, s7, s8, s9, s10, s11, s12, s13, s14, s15, s16, s17, s18, s19, s20, s21, s22, s23, s24, s25, s26, s27, s28, s29⟩
         go_simp
         with_reducible rfl
        rotate_left
        ·simp only [Act.put, List.setIfInBounds_toArray, List.set_cons_zero, List.set_cons_succ, zaE, zaH]
         rfl
        refine take_ (i := 7) (N := some 24) (v := ?_) (a' := ?_) #[true, true, true, true, true, true, true, true, false, false] rfl rfl (take_ofW HT_.out HW_.out yq10) (fun _ _ _ h => h) (Or.inl ⟨yq30, ?_⟩) hHeld ?_ ?_
        rotate_left
        ·rintro w' ⟨s0, s1, s2, s3, s4, s5, s6, s7, s8, s9, s10, s11, s12, s13, s14, s15, s16, s17, s18, s19, s20, s21, s22, s23, s24, s25, s26, s27, s28, s29⟩
         go_simp
         with_reducible rfl
        rotate_left
        ·simp only [Act.put, List.setIfInBounds_toArray, List.set_cons_zero, List.set_cons_succ, zaE, zaH]
         rfl
        refine one_ (i := 8) (N := some 25) #[true, true, true, true, true, true, true, true, true, false] rfl rfl (one_of HT_.out yq10) yq38 (fun K hK => ?_)
        refine goes_ Tryz.func12 yq10 rfl #[.agg #[.string ((zao l0 x5_1).f0), .string ((zao l0 x5_1).f1), .string ((zao l0 x5_1).f2), .string ((zao l0 x5_1).f3), .string ((zao l0 x5_1).f4), .slice A338_5 ((zao l0 x5_1).f5).length c338_5, .int .i64 ((zao l0 x5_1).f6), .slice A338_7 ((zao l0 x5_1).f7).length c338_7, .string ((zao l0 x5_1).f8), .string ((zao l0 x5_1).f9), .string ((zao l0 x5_1).f10), .string ((zao l0 x5_1).f11), .slice A338_12 ((zao l0 x5_1).f12).length c338_12, .slice A338_13 ((zao l0 x5_1).f13).length c338_13, .string ((zao l0 x5_1).f14)], .agg #[.string ((zao l1 x5_1).f0), .string ((zao l1 x5_1).f1), .string ((zao l1 x5_1).f2), .string ((zao l1 x5_1).f3), .string ((zao l1 x5_1).f4), .slice A339_5 ((zao l1 x5_1).f5).length c339_5, .int .i64 ((zao l1 x5_1).f6), .slice A339_7 ((zao l1 x5_1).f7).length c339_7, .string ((zao l1 x5_1).f8), .string ((zao l1 x5_1).f9), .string ((zao l1 x5_1).f10), .string ((zao l1 x5_1).f11), .slice A339_12 ((zao l1 x5_1).f12).length c339_12, .slice A339_13 ((zao l1 x5_1).f13).length c339_13, .string ((zao l1 x5_1).f14)]] yq30 rfl rfl yq2 ?_
        with_reducible refine (laws_eqLocale.calls ((zao l0 x5_1).f0) ((zao l0 x5_1).f1) ((zao l0 x5_1).f2) ((zao l0 x5_1).f3) ((zao l0 x5_1).f4) _ _ ((zao l0 x5_1).f5) ((zao l0 x5_1).f6) _ _ ((zao l0 x5_1).f7) ((zao l0 x5_1).f8) ((zao l0 x5_1).f9) ((zao l0 x5_1).f10) ((zao l0 x5_1).f11) _ _ ((zao l0 x5_1).f12) _ _ ((zao l0 x5_1).f13) ((zao l0 x5_1).f14) ((zao l1 x5_1).f0) ((zao l1 x5_1).f1) ((zao l1 x5_1).f2) ((zao l1 x5_1).f3) ((zao l1 x5_1).f4) _ _ ((zao l1 x5_1).f5) ((zao l1 x5_1).f6) _ _ ((zao l1 x5_1).f7) ((zao l1 x5_1).f8) ((zao l1 x5_1).f9) ((zao l1 x5_1).f10) ((zao l1 x5_1).f11) _ _ ((zao l1 x5_1).f12) _ _ ((zao l1 x5_1).f13) ((zao l1 x5_1).f14) true _ ?side1 ?side2 ?side3 ?side4 ?side5 ?side6 ?side7 ?side8 ?side9 ?side10 ?side11 ?side12 ?side13 ?side14 ?side15 ?side16 A7.out).mono ?_
        (case side1 => repeat (first | exact (Kd.zaS HR338_5.out HB.out) | (with_reducible refine Kd.C_alloc ?_ _) | (with_reducible refine Kd.C_drewN ?_ _) | (with_reducible refine Kd.C_drew ?_)))
        (case side2 => exact HC338_5.out)
        (case side3 => repeat (first | exact (Kd.zaS HR338_7.out HB.out) | (with_reducible refine Kd.C_alloc ?_ _) | (with_reducible refine Kd.C_drewN ?_ _) | (with_reducible refine Kd.C_drew ?_)))
        (case side4 => exact HC338_7.out)
        (case side5 => repeat (first | exact (Kd.zaS HR338_12.out HB.out) | (with_reducible refine Kd.C_alloc ?_ _) | (with_reducible refine Kd.C_drewN ?_ _) | (with_reducible refine Kd.C_drew ?_)))
        (case side6 => exact HC338_12.out)
        (case side7 => repeat (first | exact (Kd.zaS HR338_13.out HB.out) | (with_reducible refine Kd.C_alloc ?_ _) | (with_reducible refine Kd.C_drewN ?_ _) | (with_reducible refine Kd.C_drew ?_)))
        (case side8 => exact HC338_13.out)
        (case side9 => repeat (first | exact (Kd.zaS HR339_5.out HB.out) | (with_reducible refine Kd.C_alloc ?_ _) | (with_reducible refine Kd.C_drewN ?_ _) | (with_reducible refine Kd.C_drew ?_)))
        (case side10 => exact HC339_5.out)
        (case side11 => repeat (first | exact (Kd.zaS HR339_7.out HB.out) | (with_reducible refine Kd.C_alloc ?_ _) | (with_reducible refine Kd.C_drewN ?_ _) | (with_reducible refine Kd.C_drew ?_)))
        (case side12 => exact HC339_7.out)
        (case side13 => repeat (first | exact (Kd.zaS HR339_12.out HB.out) | (with_reducible refine Kd.C_alloc ?_ _) | (with_reducible refine Kd.C_drewN ?_ _) | (with_reducible refine Kd.C_drew ?_)))
        (case side14 => exact HC339_12.out)
        (case side15 => repeat (first | exact (Kd.zaS HR339_13.out HB.out) | (with_reducible refine Kd.C_alloc ?_ _) | (with_reducible refine Kd.C_drewN ?_ _) | (with_reducible refine Kd.C_drew ?_)))
        (case side16 => exact HC339_13.out)
        rintro e w10 ⟨rfl, hb⟩
        refine ⟨_, rfl, ?_⟩
        have n0_ := zaa.mk (zam (yq0 HB.out) hb)
        clear HB
        have HB := n0_
        clear n0_
        (try clear hb)
        (try clear hb2)
        (try clear hk)
        (try clear hi)
        refine hK.out _ _ ⟨((HB.out.cell (World.block_lt_of_cell? w _ hw338_0)).trans hw338_0), ((HB.out.cell (World.block_lt_of_cell? w _ hw338_1)).trans hw338_1), ((HB.out.cell (World.block_lt_of_cell? w _ hw338_2)).trans hw338_2), ((HB.out.cell (World.block_lt_of_cell? w _ hw338_3)).trans hw338_3), ((HB.out.cell (World.block_lt_of_cell? w _ hw338_4)).trans hw338_4), ((HB.out.cell (World.block_lt_of_cell? w _ hw338_5)).trans hw338_5), ((HB.out.cell (World.block_lt_of_cell? w _ hw338_6)).trans hw338_6), ((HB.out.cell (World.block_lt_of_cell? w _ hw338_7)).trans hw338_7), ((HB.out.cell (World.block_lt_of_cell? w _ hw338_8)).trans hw338_8), ((HB.out.cell (World.block_lt_of_cell? w _ hw338_9)).trans hw338_9), ((HB.out.cell (World.block_lt_of_cell? w _ hw338_10)).trans hw338_10), ((HB.out.cell (World.block_lt_of_cell? w _ hw338_11)).trans hw338_11), ((HB.out.cell (World.block_lt_of_cell? w _ hw338_12)).trans hw338_12), ((HB.out.cell (World.block_lt_of_cell? w _ hw338_13)).trans hw338_13), ((HB.out.cell (World.block_lt_of_cell? w _ hw338_14)).trans hw338_14), ((HB.out.cell (World.block_lt_of_cell? w _ hw339_0)).trans hw339_0), ((HB.out.cell (World.block_lt_of_cell? w _ hw339_1)).trans hw339_1), ((HB.out.cell (World.block_lt_of_cell? w _ hw339_2)).trans hw339_2), ((HB.out.cell (World.block_lt_of_cell? w _ hw339_3)).trans hw339_3), ((HB.out.cell (World.block_lt_of_cell? w _ hw339_4)).trans hw339_4), ((HB.out.cell (World.block_lt_of_cell? w _ hw339_5)).trans hw339_5), ((HB.out.cell (World.block_lt_of_cell? w _ hw339_6)).trans hw339_6), ((HB.out.cell (World.block_lt_of_cell? w _ hw339_7)).trans hw339_7), ((HB.out.cell (World.block_lt_of_cell? w _ hw339_8)).trans hw339_8), ((HB.out.cell (World.block_lt_of_cell? w _ hw339_9)).trans hw339_9), ((HB.out.cell (World.block_lt_of_cell? w _ hw339_10)).trans hw339_10), ((HB.out.cell (World.block_lt_of_cell? w _ hw339_11)).trans hw339_11), ((HB.out.cell (World.block_lt_of_cell? w _ hw339_12)).trans hw339_12), ((HB.out.cell (World.block_lt_of_cell? w _ hw339_13)).trans hw339_13), ((HB.out.cell (World.block_lt_of_cell? w _ hw339_14)).trans hw339_14)⟩ (fun hHeld => ?_)
        clear hK K
        refine norm_ (a' := ?_) ?_ ?_
        rotate_left
        ·show Act.put _ (some 25) _ = _
         simp only [Act.put, List.setIfInBounds_toArray, List.set_cons_zero, List.set_cons_succ, zaE, zaH]
         rfl
        refine pure_ (i := 9) (N := some 26) (v := ?_) (a' := ?_) #[true, true, true, true, true, true, true, true, true, true] rfl rfl (any_of HT_.out yq10) (fun _ _ _ h => h) (Or.inl ⟨yq30, ?_⟩) ?_ ?_
        rotate_left
        ·intro w'
         go_simp
         with_reducible rfl
        rotate_left
        ·simp only [Act.put, List.setIfInBounds_toArray, List.set_cons_zero, List.set_cons_succ, zaE, zaH]
         rfl
        refine done_ (done_of HT_.out yq10) ?_
        try go_wp2
        go_roundg k1
        case measure => have := HK1.out; omega
        case rel => exact ⟨(wrap64 (x5_1 + 1)), yq3, H', ⟨yq15 HK1.out⟩, ⟨yq0 HB.out⟩⟩
       replace c8 := Bool.eq_false_iff.mpr c8
       subst c8
       replace H : (some false) = some r := by rw [if_neg (show ¬ (false = true) by decide)] at H; exact H
       obtain rfl := Option.some.inj H
       try go_wp2
       have n0_ := zaa.mk (zac HB.out)
       clear HB
       have HB := n0_
       clear n0_
       have p338 : 0 ≤ (x5_1 : Int) := of_decide_eq_true yq1
       have q338 : x5_1 < (l0.length : Int) := of_decide_eq_true yq1
       obtain ⟨ad338, A338_5, c338_5, A338_7, c338_7, A338_12, c338_12, A338_13, c338_13, e338, hx338_0, hx338_1, hx338_2, hx338_3, hx338_4, hx338_5, hx338_6, hx338_7, hx338_8, hx338_9, hx338_10, hx338_11, hx338_12, hx338_13, hx338_14, hl338_5, hi338_5, hl338_7, hi338_7, hl338_12, hi338_12, hl338_13, hi338_13⟩ := at_T31 HR0.out x5_1 p338 q338
       have hw338_14 := hx338_14
       have hw338_13 := hx338_13
       have hw338_12 := hx338_12
       have hw338_11 := hx338_11
       have hw338_10 := hx338_10
       have hw338_9 := hx338_9
       have hw338_8 := hx338_8
       have hw338_7 := hx338_7
       have hw338_6 := hx338_6
       have hw338_5 := hx338_5
       have hw338_4 := hx338_4
       have hw338_3 := hx338_3
       have hw338_2 := hx338_2
       have hw338_1 := hx338_1
       have hw338_0 := hx338_0
       cases e338
       replace hx338_0 := (HB.out.cell (World.block_lt_of_cell? w _ hx338_0)).trans hx338_0
       replace hx338_1 := (HB.out.cell (World.block_lt_of_cell? w _ hx338_1)).trans hx338_1
       replace hx338_2 := (HB.out.cell (World.block_lt_of_cell? w _ hx338_2)).trans hx338_2
       replace hx338_3 := (HB.out.cell (World.block_lt_of_cell? w _ hx338_3)).trans hx338_3
       replace hx338_4 := (HB.out.cell (World.block_lt_of_cell? w _ hx338_4)).trans hx338_4
       replace hx338_5 := (HB.out.cell (World.block_lt_of_cell? w _ hx338_5)).trans hx338_5
       replace hx338_6 := (HB.out.cell (World.block_lt_of_cell? w _ hx338_6)).trans hx338_6
       replace hx338_7 := (HB.out.cell (World.block_lt_of_cell? w _ hx338_7)).trans hx338_7
       replace hx338_8 := (HB.out.cell (World.block_lt_of_cell? w _ hx338_8)).trans hx338_8
       replace hx338_9 := (HB.out.cell (World.block_lt_of_cell? w _ hx338_9)).trans hx338_9
       replace hx338_10 := (HB.out.cell (World.block_lt_of_cell? w _ hx338_10)).trans hx338_10
       replace hx338_11 := (HB.out.cell (World.block_lt_of_cell? w _ hx338_11)).trans hx338_11
       replace hx338_12 := (HB.out.cell (World.block_lt_of_cell? w _ hx338_12)).trans hx338_12
       replace hx338_13 := (HB.out.cell (World.block_lt_of_cell? w _ hx338_13)).trans hx338_13
       replace hx338_14 := (HB.out.cell (World.block_lt_of_cell? w _ hx338_14)).trans hx338_14
       have HR338_5 := zaa.mk hi338_5; have HC338_5 := zaa.mk hl338_5; clear hi338_5 hl338_5; have HR338_7 := zaa.mk hi338_7; have HC338_7 := zaa.mk hl338_7; clear hi338_7 hl338_7; have HR338_12 := zaa.mk hi338_12; have HC338_12 := zaa.mk hl338_12; clear hi338_12 hl338_12; have HR338_13 := zaa.mk hi338_13; have HC338_13 := zaa.mk hl338_13; clear hi338_13 hl338_13
       replace p338 := eq_true p338
       replace q338 := eq_true q338
       have p339 : 0 ≤ (x5_1 : Int) := of_decide_eq_true yq1
       have q339 : x5_1 < (l1.length : Int) := of_decide_eq_true yq1
       obtain ⟨ad339, A339_5, c339_5, A339_7, c339_7, A339_12, c339_12, A339_13, c339_13, e339, hx339_0, hx339_1, hx339_2, hx339_3, hx339_4, hx339_5, hx339_6, hx339_7, hx339_8, hx339_9, hx339_10, hx339_11, hx339_12, hx339_13, hx339_14, hl339_5, hi339_5, hl339_7, hi339_7, hl339_12, hi339_12, hl339_13, hi339_13⟩ := at_T31 HR1.out x5_1 p339 q339
       have hw339_14 := hx339_14
       have hw339_13 := hx339_13
       have hw339_12 := hx339_12
       have hw339_11 := hx339_11
       have hw339_10 := hx339_10
       have hw339_9 := hx339_9
       have hw339_8 := hx339_8
       have hw339_7 := hx339_7
       have hw339_6 := hx339_6
       have hw339_5 := hx339_5
       have hw339_4 := hx339_4
       have hw339_3 := hx339_3
       have hw339_2 := hx339_2
       have hw339_1 := hx339_1
       have hw339_0 := hx339_0
       cases e339
       replace hx339_0 := (HB.out.cell (World.block_lt_of_cell? w _ hx339_0)).trans hx339_0
       replace hx339_1 := (HB.out.cell (World.block_lt_of_cell? w _ hx339_1)).trans hx339_1
       replace hx339_2 := (HB.out.cell (World.block_lt_of_cell? w _ hx339_2)).trans hx339_2
       replace hx339_3 := (HB.out.cell (World.block_lt_of_cell? w _ hx339_3)).trans hx339_3
       replace hx339_4 := (HB.out.cell (World.block_lt_of_cell? w _ hx339_4)).trans hx339_4
       replace hx339_5 := (HB.out.cell (World.block_lt_of_cell? w _ hx339_5)).trans hx339_5
       replace hx339_6 := (HB.out.cell (World.block_lt_of_cell? w _ hx339_6)).trans hx339_6
       replace hx339_7 := (HB.out.cell (World.block_lt_of_cell? w _ hx339_7)).trans hx339_7
       replace hx339_8 := (HB.out.cell (World.block_lt_of_cell? w _ hx339_8)).trans hx339_8
       replace hx339_9 := (HB.out.cell (World.block_lt_of_cell? w _ hx339_9)).trans hx339_9
       replace hx339_10 := (HB.out.cell (World.block_lt_of_cell? w _ hx339_10)).trans hx339_10
       replace hx339_11 := (HB.out.cell (World.block_lt_of_cell? w _ hx339_11)).trans hx339_11
       replace hx339_12 := (HB.out.cell (World.block_lt_of_cell? w _ hx339_12)).trans hx339_12
       replace hx339_13 := (HB.out.cell (World.block_lt_of_cell? w _ hx339_13)).trans hx339_13
       replace hx339_14 := (HB.out.cell (World.block_lt_of_cell? w _ hx339_14)).trans hx339_14
       have HR339_5 := zaa.mk hi339_5; have HC339_5 := zaa.mk hl339_5; clear hi339_5 hl339_5; have HR339_7 := zaa.mk hi339_7; have HC339_7 := zaa.mk hl339_7; clear hi339_7 hl339_7; have HR339_12 := zaa.mk hi339_12; have HC339_12 := zaa.mk hl339_12; clear hi339_12 hl339_12; have HR339_13 := zaa.mk hi339_13; have HC339_13 := zaa.mk hl339_13; clear hi339_13 hl339_13
       replace p339 := eq_true p339
       replace q339 := eq_true q339
       refine start_ (n := 10) (S := fun w' => w'.cell? (ad338.add ((x5_1).toNat * 15)) = some (.string ((zao l0 x5_1).f0)) ∧ w'.cell? ⟨(ad338.add ((x5_1).toNat * 15)).block, (ad338.add ((x5_1).toNat * 15)).off + 1, none⟩ = some (.string ((zao l0 x5_1).f1)) ∧ w'.cell? ⟨(ad338.add ((x5_1).toNat * 15)).block, (ad338.add ((x5_1).toNat * 15)).off + 2, none⟩ = some (.string ((zao l0 x5_1).f2)) ∧ w'.cell? ⟨(ad338.add ((x5_1).toNat * 15)).block, (ad338.add ((x5_1).toNat * 15)).off + 3, none⟩ = some (.string ((zao l0 x5_1).f3)) ∧ w'.cell? ⟨(ad338.add ((x5_1).toNat * 15)).block, (ad338.add ((x5_1).toNat * 15)).off + 4, none⟩ = some (.string ((zao l0 x5_1).f4)) ∧ w'.cell? ⟨(ad338.add ((x5_1).toNat * 15)).block, (ad338.add ((x5_1).toNat * 15)).off + 5, none⟩ = some (.slice A338_5 ((zao l0 x5_1).f5).length c338_5) ∧ w'.cell? ⟨(ad338.add ((x5_1).toNat * 15)).block, (ad338.add ((x5_1).toNat * 15)).off + 6, none⟩ = some (.int .i64 ((zao l0 x5_1).f6)) ∧ w'.cell? ⟨(ad338.add ((x5_1).toNat * 15)).block, (ad338.add ((x5_1).toNat * 15)).off + 7, none⟩ = some (.slice A338_7 ((zao l0 x5_1).f7).length c338_7) ∧ w'.cell? ⟨(ad338.add ((x5_1).toNat * 15)).block, (ad338.add ((x5_1).toNat * 15)).off + 8, none⟩ = some (.string ((zao l0 x5_1).f8)) ∧ w'.cell? ⟨(ad338.add ((x5_1).toNat * 15)).block, (ad338.add ((x5_1).toNat * 15)).off + 9, none⟩ = some (.string ((zao l0 x5_1).f9)) ∧ w'.cell? ⟨(ad338.add ((x5_1).toNat * 15)).block, (ad338.add ((x5_1).toNat * 15)).off + 10, none⟩ = some (.string ((zao l0 x5_1).f10)) ∧ w'.cell? ⟨(ad338.add ((x5_1).toNat * 15)).block, (ad338.add ((x5_1).toNat * 15)).off + 11, none⟩ = some (.string ((zao l0 x5_1).f11)) ∧ w'.cell? ⟨(ad338.add ((x5_1).toNat * 15)).block, (ad338.add ((x5_1).toNat * 15)).off + 12, none⟩ = some (.slice A338_12 ((zao l0 x5_1).f12).length c338_12) ∧ w'.cell? ⟨(ad338.add ((x5_1).toNat * 15)).block, (ad338.add ((x5_1).toNat * 15)).off + 13, none⟩ = some (.slice A338_13 ((zao l0 x5_1).f13).length c338_13) ∧ w'.cell? ⟨(ad338.add ((x5_1).toNat * 15)).block, (ad338.add ((x5_1).toNat * 15)).off + 14, none⟩ = some (.string ((zao l0 x5_1).f14)) ∧ w'.cell? (ad339.add ((x5_1).toNat * 15)) = some (.string ((zao l1 x5_1).f0)) ∧ w'.cell? ⟨(ad339.add ((x5_1).toNat * 15)).block, (ad339.add ((x5_1).toNat * 15)).off + 1, none⟩ = some (.string ((zao l1 x5_1).f1)) ∧ w'.cell? ⟨(ad339.add ((x5_1).toNat * 15)).block, (ad339.add ((x5_1).toNat * 15)).off + 2, none⟩ = some (.string ((zao l1 x5_1).f2)) ∧ w'.cell? ⟨(ad339.add ((x5_1).toNat * 15)).block, (ad339.add ((x5_1).toNat * 15)).off + 3, none⟩ = some (.string ((zao l1 x5_1).f3)) ∧ w'.cell? ⟨(ad339.add ((x5_1).toNat * 15)).block, (ad339.add ((x5_1).toNat * 15)).off + 4, none⟩ = some (.string ((zao l1 x5_1).f4)) ∧ w'.cell? ⟨(ad339.add ((x5_1).toNat * 15)).block, (ad339.add ((x5_1).toNat * 15)).off + 5, none⟩ = some (.slice A339_5 ((zao l1 x5_1).f5).length c339_5) ∧ w'.cell? ⟨(ad339.add ((x5_1).toNat * 15)).block, (ad339.add ((x5_1).toNat * 15)).off + 6, none⟩ = some (.int .i64 ((zao l1 x5_1).f6)) ∧ w'.cell? ⟨(ad339.add ((x5_1).toNat * 15)).block, (ad339.add ((x5_1).toNat * 15)).off + 7, none⟩ = some (.slice A339_7 ((zao l1 x5_1).f7).length c339_7) ∧ w'.cell? ⟨(ad339.add ((x5_1).toNat * 15)).block, (ad339.add ((x5_1).toNat * 15)).off + 8, none⟩ = some (.string ((zao l1 x5_1).f8)) ∧ w'.cell? ⟨(ad339.add ((x5_1).toNat * 15)).block, (ad339.add ((x5_1).toNat * 15)).off + 9, none⟩ = some (.string ((zao l1 x5_1).f9)) ∧ w'.cell? ⟨(ad339.add ((x5_1).toNat * 15)).block, (ad339.add ((x5_1).toNat * 15)).off + 10, none⟩ = some (.string ((zao l1 x5_1).f10)) ∧ w'.cell? ⟨(ad339.add ((x5_1).toNat * 15)).block, (ad339.add ((x5_1).toNat * 15)).off + 11, none⟩ = some (.string ((zao l1 x5_1).f11)) ∧ w'.cell? ⟨(ad339.add ((x5_1).toNat * 15)).block, (ad339.add ((x5_1).toNat * 15)).off + 12, none⟩ = some (.slice A339_12 ((zao l1 x5_1).f12).length c339_12) ∧ w'.cell? ⟨(ad339.add ((x5_1).toNat * 15)).block, (ad339.add ((x5_1).toNat * 15)).off + 13, none⟩ = some (.slice A339_13 ((zao l1 x5_1).f13).length c339_13) ∧ w'.cell? ⟨(ad339.add ((x5_1).toNat * 15)).block, (ad339.add ((x5_1).toNat * 15)).off + 14, none⟩ = some (.string ((zao l1 x5_1).f14))) (ds := []) #[false, false, false, false, false, false, false, false, false, false] yq10 rfl rfl ⟨((HB.out.cell (World.block_lt_of_cell? w _ hw338_0)).trans hw338_0), ((HB.out.cell (World.block_lt_of_cell? w _ hw338_1)).trans hw338_1), ((HB.out.cell (World.block_lt_of_cell? w _ hw338_2)).trans hw338_2), ((HB.out.cell (World.block_lt_of_cell? w _ hw338_3)).trans hw338_3), ((HB.out.cell (World.block_lt_of_cell? w _ hw338_4)).trans hw338_4), ((HB.out.cell (World.block_lt_of_cell? w _ hw338_5)).trans hw338_5), ((HB.out.cell (World.block_lt_of_cell? w _ hw338_6)).trans hw338_6), ((HB.out.cell (World.block_lt_of_cell? w _ hw338_7)).trans hw338_7), ((HB.out.cell (World.block_lt_of_cell? w _ hw338_8)).trans hw338_8), ((HB.out.cell (World.block_lt_of_cell? w _ hw338_9)).trans hw338_9), ((HB.out.cell (World.block_lt_of_cell? w _ hw338_10)).trans hw338_10), ((HB.out.cell (World.block_lt_of_cell? w _ hw338_11)).trans hw338_11), ((HB.out.cell (World.block_lt_of_cell? w _ hw338_12)).trans hw338_12), ((HB.out.cell (World.block_lt_of_cell? w _ hw338_13)).trans hw338_13), ((HB.out.cell (World.block_lt_of_cell? w _ hw338_14)).trans hw338_14), ((HB.out.cell (World.block_lt_of_cell? w _ hw339_0)).trans hw339_0), ((HB.out.cell (World.block_lt_of_cell? w _ hw339_1)).trans hw339_1), ((HB.out.cell (World.block_lt_of_cell? w _ hw339_2)).trans hw339_2), ((HB.out.cell (World.block_lt_of_cell? w _ hw339_3)).trans hw339_3), ((HB.out.cell (World.block_lt_of_cell? w _ hw339_4)).trans hw339_4), ((HB.out.cell (World.block_lt_of_cell? w _ hw339_5)).trans hw339_5), ((HB.out.cell (World.block_lt_of_cell? w _ hw339_6)).trans hw339_6), ((HB.out.cell (World.block_lt_of_cell? w _ hw339_7)).trans hw339_7), ((HB.out.cell (World.block_lt_of_cell? w _ hw339_8)).trans hw339_8), ((HB.out.cell (World.block_lt_of_cell? w _ hw339_9)).trans hw339_9), ((HB.out.cell (World.block_lt_of_cell? w _ hw339_10)).trans hw339_10), ((HB.out.cell (World.block_lt_of_cell? w _ hw339_11)).trans hw339_11), ((HB.out.cell (World.block_lt_of_cell? w _ hw339_12)).trans hw339_12), ((HB.out.cell (World.block_lt_of_cell? w _ hw339_13)).trans hw339_13), ((HB.out.cell (World.block_lt_of_cell? w _ hw339_14)).trans hw339_14)⟩ (fun hHeld => ?_); refine zbo zaL.tab6 zaL.bits6 (fun HT_ HW_ => ?_)
       generalize wr.drew = w11 at HB HR338_12 HR338_13 HR338_5 HR338_7 HR339_12 HR339_13 HR339_5 HR339_7 hx338_0 hx338_1 hx338_10 hx338_11 hx338_12 hx338_13 hx338_14 hx338_2 hx338_3 hx338_4 hx338_5 hx338_6 hx338_7 hx338_8 hx338_9 hx339_0 hx339_1 hx339_10 hx339_11 hx339_12 hx339_13 hx339_14 hx339_2 hx339_3 hx339_4 hx339_5 hx339_6 hx339_7 hx339_8 hx339_9 hHeld ⊢
       refine pure_ (i := 0) (N := some 17) (v := ?_) (a' := ?_) #[true, false, false, false, false, false, false, false, false, false] rfl rfl (any_of HT_.out yq10) (fun _ _ _ h => h) (Or.inl ⟨yq30, ?_⟩) ?_ ?_
       rotate_left
       ·intro w'
        go_simp
        with_reducible rfl
       rotate_left
       ·simp only [Act.put, List.setIfInBounds_toArray, List.set_cons_zero, List.set_cons_succ, zaE, zaH]
        rfl
       refine pure_ (i := 1) (N := some 18) (v := ?_) (a' := ?_) #[true, true, false, false, false, false, false, false, false, false] rfl rfl (any_of HT_.out yq10) (fun _ _ _ h => h) (Or.inl ⟨yq30, ?_⟩) ?_ ?_
       rotate_left
       ·intro w'
        go_simp
        with_reducible rfl
       rotate_left
       ·simp only [Act.put, List.setIfInBounds_toArray, List.set_cons_zero, List.set_cons_succ, zaE, zaH]
        rfl
       refine pure_ (i := 2) (N := some 19) (v := ?_) (a' := ?_) #[true, true, true, false, false, false, false, false, false, false] rfl rfl (any_of HT_.out yq10) (fun _ _ _ h => h) (Or.inl ⟨yq30, ?_⟩) ?_ ?_
       rotate_left
       ·intro w'
        go_simp
        with_reducible rfl
       rotate_left
       ·simp only [Act.put, List.setIfInBounds_toArray, List.set_cons_zero, List.set_cons_succ, zaE, zaH]
        rfl
       refine pure_ (i := 4) (N := some 21) (v := ?_) (a' := ?_) #[true, true, true, false, true, false, false, false, false, false] rfl rfl (any_of HT_.out yq10) (fun _ _ _ h => h) (Or.inl ⟨yq30, ?_⟩) ?_ ?_
       rotate_left
       ·intro w'
        go_simp
        with_reducible rfl
       rotate_left
       ·simp only [Act.put, List.setIfInBounds_toArray, List.set_cons_zero, List.set_cons_succ, zaE, zaH]
        rfl
       refine pure_ (i := 5) (N := some 22) (v := ?_) (a' := ?_) #[true, true, true, false, true, true, false, false, false, false] rfl rfl (any_of HT_.out yq10) (fun _ _ _ h => h) (Or.inl ⟨yq30, ?_⟩) ?_ ?_
       rotate_left
       ·intro w'
        go_simp
        with_reducible rfl
       rotate_left
       ·simp only [Act.put, List.setIfInBounds_toArray, List.set_cons_zero, List.set_cons_succ, zaE, zaH]
        rfl
       refine pure_ (i := 6) (N := some 23) (v := ?_) (a' := ?_) #[true, true, true, false, true, true, true, false, false, false] rfl rfl (any_of HT_.out yq10) (fun _ _ _ h => h) (Or.inl ⟨yq30, ?_⟩) ?_ ?_
       rotate_left
       ·intro w'
        go_simp
        with_reducible rfl
       rotate_left
       ·simp only [Act.put, List.setIfInBounds_toArray, List.set_cons_zero, List.set_cons_succ, zaE, zaH]
        rfl
       refine take_ (i := 3) (N := some 20) (v := ?_) (a' := ?_) #[true, true, true, true, true, true, true, false, false, false] rfl rfl (take_ofW HT_.out HW_.out yq10) (fun _ _ _ h => h) (Or.inl ⟨yq30, ?_⟩) hHeld ?_ ?_
       rotate_left
       ·rintro w' ⟨s0, s1, s2, s3, s4, s5, s6, s7, s8, s9, s10, s11, s12, s13, s14, s15, s16, s17, s18, s19, s20, s21, s22, s23, s24, s25, s26, s27, s28, s29⟩
        go_simp
        with_reducible rfl
       rotate_left
       ·simp only [Act.put, List.setIfInBounds_toArray, List.set_cons_zero, List.set_cons_succ, zaE, zaH]
        rfl
       refine take_ (i := 7) (N := some 24) (v := ?_) (a' := ?_) #[true, true, true, true, true, true, true, true, false, false] rfl rfl (take_ofW HT_.out HW_.out yq10) (fun _ _ _ h => h) (Or.inl ⟨yq30, ?_⟩) hHeld ?_ ?_
       rotate_left
       ·rintro w' ⟨s0, s1, s2, s3, s4, s5, s6, s7, s8, s9, s10, s11, s12, s13, s14, s15, s16, s17, s18, s19, s20, s21, s22, s23, s24, s25, s26, s27, s28, s29⟩
        go_simp
        with_reducible rfl
       rotate_left
       ·simp only [Act.put, List.setIfInBounds_toArray, List.set_cons_zero, List.set_cons_succ, zaE, zaH]
        rfl
       refine one_ (i := 8) (N := some 25) #[true, true, true, true, true, true, true, true, true, false] rfl rfl (one_of HT_.out yq10) yq38 (fun K hK => ?_)
       refine goes_ Tryz.func12 yq10 rfl #[.agg #[.string ((zao l0 x5_1).f0), .string ((zao l0 x5_1).f1), .string ((zao l0 x5_1).f2), .string ((zao l0 x5_1).f3), .string ((zao l0 x5_1).f4), .slice A338_5 ((zao l0 x5_1).f5).length c338_5, .int .i64 ((zao l0 x5_1).f6), .slice A338_7 ((zao l0 x5_1).f7).length c338_7, .string ((zao l0 x5_1).f8), .string ((zao l0 x5_1).f9), .string ((zao l0 x5_1).f10), .string ((zao l0 x5_1).f11), .slice A338_12 ((zao l0 x5_1).f12).length c338_12, .slice A338_13 ((zao l0 x5_1).f13).length c338_13, .string ((zao l0 x5_1).f14)], .agg #[.string ((zao l1 x5_1).f0), .string ((zao l1 x5_1).f1), .string ((zao l1 x5_1).f2), .string ((zao l1 x5_1).f3), .string ((zao l1 x5_1).f4), .slice A339_5 ((zao l1 x5_1).f5).length c339_5, .int .i64 ((zao l1 x5_1).f6), .slice A339_7 ((zao l1 x5_1).f7).length c339_7, .string ((zao l1 x5_1).f8), .string ((zao l1 x5_1).f9), .string ((zao l1 x5_1).f10), .string ((zao l1 x5_1).f11), .slice A339_12 ((zao l1 x5_1).f12).length c339_12, .slice A339_13 ((zao l1 x5_1).f13).length c339_13, .string ((zao l1 x5_1).f14)]] yq30 rfl rfl yq2 ?_
       with_reducible refine (laws_eqLocale.calls ((zao l0 x5_1).f0) ((zao l0 x5_1).f1) ((zao l0 x5_1).f2) ((zao l0 x5_1).f3) ((zao l0 x5_1).f4) _ _ ((zao l0 x5_1).f5) ((zao l0 x5_1).f6) _ _ ((zao l0 x5_1).f7) ((zao l0 x5_1).f8) ((zao l0 x5_1).f9) ((zao l0 x5_1).f10) ((zao l0 x5_1).f11) _ _ ((zao l0 x5_1).f12) _ _ ((zao l0 x5_1).f13) ((zao l0 x5_1).f14) ((zao l1 x5_1).f0) ((zao l1 x5_1).f1) ((zao l1 x5_1).f2) ((zao l1 x5_1).f3) ((zao l1 x5_1).f4) _ _ ((zao l1 x5_1).f5) ((zao l1 x5_1).f6) _ _ ((zao l1 x5_1).f7) ((zao l1 x5_1).f8) ((zao l1 x5_1).f9) ((zao l1 x5_1).f10) ((zao l1 x5_1).f11) _ _ ((zao l1 x5_1).f12) _ _ ((zao l1 x5_1).f13) ((zao l1 x5_1).f14) false _ ?side1 ?side2 ?side3 ?side4 ?side5 ?side6 ?side7 ?side8 ?side9 ?side10 ?side11 ?side12 ?side13 ?side14 ?side15 ?side16 A7.out).mono ?_
       (case side1 => repeat (first | exact (Kd.zaS HR338_5.out HB.out) | (with_reducible refine Kd.C_alloc ?_ _) | (with_reducible refine Kd.C_drewN ?_ _) | (with_reducible refine Kd.C_drew ?_)))
       (case side2 => exact HC338_5.out)
       (case side3 => repeat (first | exact (Kd.zaS HR338_7.out HB.out) | (with_reducible refine Kd.C_alloc ?_ _) | (with_reducible refine Kd.C_drewN ?_ _) | (with_reducible refine Kd.C_drew ?_)))
       (case side4 => exact HC338_7.out)
       (case side5 => repeat (first | exact (Kd.zaS HR338_12.out HB.out) | (with_reducible refine Kd.C_alloc ?_ _) | (with_reducible refine Kd.C_drewN ?_ _) | (with_reducible refine Kd.C_drew ?_)))
       (case side6 => exact HC338_12.out)
       (case side7 => repeat (first | exact (Kd.zaS HR338_13.out HB.out) | (with_reducible refine Kd.C_alloc ?_ _) | (with_reducible refine Kd.C_drewN ?_ _) | (with_reducible refine Kd.C_drew ?_)))
       (case side8 => exact HC338_13.out)
       (case side9 => repeat (first | exact (Kd.zaS HR339_5.out HB.out) | (with_reducible refine Kd.C_alloc ?_ _) | (with_reducible refine Kd.C_drewN ?_ _) | (with_reducible refine Kd.C_drew ?_)))
       (case side10 => exact HC339_5.out)
       (case side11 => repeat (first | exact (Kd.zaS HR339_7.out HB.out) | (with_reducible refine Kd.C_alloc ?_ _) | (with_reducible refine Kd.C_drewN ?_ _) | (with_reducible refine Kd.C_drew ?_)))
       (case side12 => exact HC339_7.out)
       (case side13 => repeat (first | exact (Kd.zaS HR339_12.out HB.out) | (with_reducible refine Kd.C_alloc ?_ _) | (with_reducible refine Kd.C_drewN ?_ _) | (with_reducible refine Kd.C_drew ?_)))
       (case side14 => exact HC339_12.out)
       (case side15 => repeat (first | exact (Kd.zaS HR339_13.out HB.out) | (with_reducible refine Kd.C_alloc ?_ _) | (with_reducible refine Kd.C_drewN ?_ _) | (with_reducible refine Kd.C_drew ?_)))
       (case side16 => exact HC339_13.out)
       rintro e w12 ⟨rfl, hb⟩
       refine ⟨_, rfl, ?_⟩
       have n0_ := zaa.mk (zam (yq0 HB.out) hb)
       clear HB
       have HB := n0_
       clear n0_
       (try clear hb)
       (try clear hb2)
       (try clear hk)
       (try clear hi)
       refine hK.out _ _ ⟨((HB.out.cell (World.block_lt_of_cell? w _ hw338_0)).trans hw338_0), ((HB.out.cell (World.block_lt_of_cell? w _ hw338_1)).trans hw338_1), ((HB.out.cell (World.block_lt_of_cell? w _ hw338_2)).trans hw338_2), ((HB.out.cell (World.block_lt_of_cell? w _ hw338_3)).trans hw338_3), ((HB.out.cell (World.block_lt_of_cell? w _ hw338_4)).trans hw338_4), ((HB.out.cell (World.block_lt_of_cell? w _ hw338_5)).trans hw338_5), ((HB.out.cell (World.block_lt_of_cell? w _ hw338_6)).trans hw338_6), ((HB.out.cell (World.block_lt_of_cell? w _ hw338_7)).trans hw338_7), ((HB.out.cell (World.block_lt_of_cell? w _ hw338_8)).trans hw338_8), ((HB.out.cell (World.block_lt_of_cell? w _ hw338_9)).trans hw338_9), ((HB.out.cell (World.block_lt_of_cell? w _ hw338_10)).trans hw338_10), ((HB.out.cell (World.block_lt_of_cell? w _ hw338_11)).trans hw338_11), ((HB.out.cell (World.block_lt_of_cell? w _ hw338_12)).trans hw338_12), ((HB.out.cell (World.block_lt_of_cell? w _ hw338_13)).trans hw338_13), ((HB.out.cell (World.block_lt_of_cell? w _ hw338_14)).trans hw338_14), ((HB.out.cell (World.block_lt_of_cell? w _ hw339_0)).trans hw339_0), ((HB.out.cell (World.block_lt_of_cell? w _ hw339_1)).trans hw339_1), ((HB.out.cell (World.block_lt_of_cell? w _ hw339_2)).trans hw339_2), ((HB.out.cell (World.block_lt_of_cell? w _ hw339_3)).trans hw339_3), ((HB.out.cell (World.block_lt_of_cell? w _ hw339_4)).trans hw339_4), ((HB.out.cell (World.block_lt_of_cell? w _ hw339_5)).trans hw339_5), ((HB.out.cell (World.block_lt_of_cell? w _ hw339_6)).trans hw339_6), ((HB.out.cell (World.block_lt_of_cell? w _ hw339_7)).trans hw339_7), ((HB.out.cell (World.block_lt_of_cell? w _ hw339_8)).trans hw339_8), ((HB.out.cell (World.block_lt_of_cell? w _ hw339_9)).trans hw339_9), ((HB.out.cell (World.block_lt_of_cell? w _ hw339_10)).trans hw339_10), ((HB.out.cell (World.block_lt_of_cell? w _ hw339_11)).trans hw339_11), ((HB.out.cell (World.block_lt_of_cell? w _ hw339_12)).trans hw339_12), ((HB.out.cell (World.block_lt_of_cell? w _ hw339_13)).trans hw339_13), ((HB.out.cell (World.block_lt_of_cell? w _ hw339_14)).trans hw339_14)⟩ (fun hHeld => ?_)
       clear hK K
       refine norm_ (a' := ?_) ?_ ?_
       rotate_left
       ·show Act.put _ (some 25) _ = _
        simp only [Act.put, List.setIfInBounds_toArray, List.set_cons_zero, List.set_cons_succ, zaE, zaH]
        rfl
       refine pure_ (i := 9) (N := some 26) (v := ?_) (a' := ?_) #[true, true, true, true, true, true, true, true, true, true] rfl rfl (any_of HT_.out yq10) (fun _ _ _ h => h) (Or.inl ⟨yq30, ?_⟩) ?_ ?_
       rotate_left
       ·intro w'
        go_simp
        with_reducible rfl
       rotate_left
       ·simp only [Act.put, List.setIfInBounds_toArray, List.set_cons_zero, List.set_cons_succ, zaE, zaH]
        rfl
       refine done_ (done_of HT_.out yq10) ?_
       try go_wp2
       go_ret
       exact ⟨yq4, yq0 HB.out⟩
      rw [if_neg c6] at H
      exact absurd H yq21
     rw [if_neg c5] at H
     exact absurd H yq21
    rw [if_neg c4] at H
    have c4b0 : decide (x5_1 < (l0.length : Int)) = false := decide_eq_false c4
    clear c4; obtain rfl := Option.some.inj H
    go_wp2
    go_ret
    exact ⟨yq4, yq0 HB.out⟩
 rw [if_neg c3] at H
 have c3b0 : ((l0.length : Int) == (l1.length : Int)) = false := beq_eq_false_iff_ne.mpr c3
 have c3b1 : ((l0.length : Int) != (l1.length : Int)) = true := bne_iff_ne.mpr c3
 have c3b2 : (l0.length == l1.length) = false := by first | simpa using c3 | (simp at c3 ⊢; omega)
 obtain rfl := Option.some.inj H
 go_enter Tryz.func17, Tryz.ntmps17
 go_wp2
 go_ret
 exact ⟨yq4, yq0 HB.out⟩
end Go.Proofs.YtfafjbolmeimmaaGreatDoor.P
