/- Written by a program of this session: plain Lean functions for Go functions, and for each the proof that the call comes to what the function says. -/
import Derived.Test.YtbppeepihlajoaaDoorB0
import Derived.Test.YtbppeepihlajoaaDoorB6
import Derived.Test.YtbppeepihlajoaaDoorB7
import Derived.Test.YtbppeepihlajoaaDoorB8
import Derived.Test.YtbppeepihlajoaaDoorB9
import Derived.Test.YtbppeepihlajoaaDoorXEnc
namespace Go.Proofs.YtbppeepihlajoaaDoor.P
open Go.RowKit Go.Proofs.YtbppeepihlajoaaDoorW.PrintWords Go.Proofs.YtbppeepihlajoaaDoorW.PrintLast Go.Proofs.YtbppeepihlajoaaDoorW.PrintMore
attribute [local go_sem] max2_int min2_int max_two min_two max_three min_three max_four min_four
set_option linter.unusedVariables false
set_option linter.unusedSimpArgs false
def zar.j0 : Nat → List Int → Bool → Option (ByteArray)
 | 0, _, _ => none
 | k + 1, x3, x17 => if x17 = true then (some (⟨#[]⟩ : ByteArray)) else ((zaX.f k x3).bind fun t498 => ((impl_short.f t498).bind fun t499 => (some t499)))
def zar.f (k : Nat) (a0 : ByteArray) : Option (ByteArray) := (za0.f k a0).bind fun t493 => ((zaV.f a0).bind fun t496 => (if t496 = true then (zar.j0 k t493 true) else ((impl_well.f a0).bind fun t497 => (if t497 = true then (zar.j0 k t493 (decide ((t493.length : Int) > 1000))) else (zar.j0 k t493 true)))))
set_option maxHeartbeats 8000000 in
set_option maxRecDepth 100000 in
theorem zar.calls (k : Nat) (a0 : ByteArray) (r : ByteArray) (w : World) (hG : GT w) (h : zar.f k a0 = some r) :
  Calls Tryd.prog 12 #[.string a0] w fun e w' => e = .returned (.string r) ∧ Below w.heap.size w w' := by
 have HG := zac.mk hG; clear hG
 have HB := zac.mk (Below.refl w.heap.size w)
 have H : ((za0.f k a0).bind fun t493 => ((zaV.f a0).bind fun t496 => (if t496 = true then (zar.j0 k t493 true) else ((impl_well.f a0).bind fun t497 => (if t497 = true then (zar.j0 k t493 (decide ((t493.length : Int) > 1000))) else (zar.j0 k t493 true)))))) = some r := h
 clear h; replace H := Option.bind_eq_some_iff.mp H
 obtain ⟨t493, A20, H⟩ := H
 replace H : ((zaV.f a0).bind fun t496 => (if t496 = true then (zar.j0 k t493 true) else ((impl_well.f a0).bind fun t497 => (if t497 = true then (zar.j0 k t493 (decide ((t493.length : Int) > 1000))) else (zar.j0 k t493 true))))) = some r := H
 have A2 := zac.mk A20; clear A20; have HC3 := zac.mk H; clear H
 go_enter Tryd.func12, Tryd.ntmps12
 go_upto_region 2 with (first | ((with_reducible refine zak (f := 47) rfl ?_); refine zaG (some 5) rfl rfl Tryd.func47 (by kernel_rfl) rfl #[.string a0] rfl (by (try simp only [List.map_toArray, List.map_cons, List.map_nil]); first | done | rfl | (simp only [List.length_drop, List.length_take]; rfl)) ?_; (with_reducible refine (za0.calls k a0 t493 _ ?side1 A2.out).mono ?_); (case side1 => exact GT_below HG.out (by repeat (first | (with_reducible first | exact HB.out | apply zae | apply zaa | apply zad) | exact HB.out))); rintro e w4 ⟨v494, rfl, ho0, hb⟩; refine ⟨_, rfl, ?_⟩; have n0_ := zac.mk (Kd.R_lower ho0 (zaJ (by repeat (first | (with_reducible first | exact HB.out | apply zae | apply zaa | apply zad) | exact HB.out)))); have n1_ := zac.mk (zaw (by repeat (first | (with_reducible first | exact HB.out | apply zae | apply zaa | apply zad) | exact HB.out)) hb); clear HB; have HO495 := n0_; have HB := n1_; clear n0_ n1_; (try clear hb); (try clear hb2); (try clear hk); (try clear hi); (try clear ho0)))
 (try simp only [Act.put, List.setIfInBounds_toArray, List.set_cons_zero, List.set_cons_succ])
 go_cut [17] (fun v17 wc => ∃ (kq : Nat) (x17_2 : Bool), v17 = .bool x17_2 ∧ zac (zar.j0 kq t493 x17_2 = some r) ∧ zac (kq ≤ k) ∧ zac (Kd.R (Kd.int .i64) 2 wc w.heap.size (fun _ => True) v494 t493) ∧ zac (Below w.heap.size w wc))
 case first =>
  have H := HC3.out; clear HC3; replace H := Option.bind_eq_some_iff.mp H
  obtain ⟨t496, A50, H⟩ := H
  replace H : (if t496 = true then (zar.j0 k t493 true) else ((impl_well.f a0).bind fun t497 => (if t497 = true then (zar.j0 k t493 (decide ((t493.length : Int) > 1000))) else (zar.j0 k t493 true)))) = some r := H
  have A5 := zac.mk A50; clear A50
  by_cases c6 : t496 = true
  ·subst c6
   replace H : (zar.j0 k t493 true) = some r := by rw [if_pos rfl] at H; exact H
   have H' := zac.mk H; clear H
   go_wp2_with (first | ((with_reducible refine zak (f := 48) rfl ?_); refine zaG (some 7) rfl rfl Tryd.func48 (by kernel_rfl) rfl #[.string a0] rfl (by (try simp only [List.map_toArray, List.map_cons, List.map_nil]); first | done | rfl | (simp only [List.length_drop, List.length_take]; rfl)) ?_; (with_reducible refine (zaV.calls a0 true _ A5.out).mono ?_); rintro e w' ⟨rfl, ⟨nd, rfl⟩⟩; refine ⟨_, rfl, ?_⟩))
   go_meet
   case rel => exact ⟨_, (true), (by first | rfl | (simp; done) | (simp [*]; done)), H', ⟨by first | omega | exact Nat.le_refl _⟩, ⟨by (with_reducible repeat (first | apply Kd.zav | apply Kd.zau | apply Kd.R_drew)); exact HO495.out⟩, ⟨by repeat (first | (with_reducible first | exact HB.out | apply zae | apply zaa | apply zad) | exact HB.out)⟩⟩
  replace c6 := Bool.eq_false_iff.mpr c6
  subst c6
  replace H : ((impl_well.f a0).bind fun t497 => (if t497 = true then (zar.j0 k t493 (decide ((t493.length : Int) > 1000))) else (zar.j0 k t493 true))) = some r := by rw [if_neg (show ¬ (false = true) by decide)] at H; exact H
  replace H := Option.bind_eq_some_iff.mp H
  obtain ⟨t497, A70, H⟩ := H
  replace H : (if t497 = true then (zar.j0 k t493 (decide ((t493.length : Int) > 1000))) else (zar.j0 k t493 true)) = some r := H
  have A7 := zac.mk A70; clear A70
  by_cases c8 : t497 = true
  ·subst c8
   replace H : (zar.j0 k t493 (decide ((t493.length : Int) > 1000))) = some r := by rw [if_pos rfl] at H; exact H
   have H' := zac.mk H; clear H
   go_wp2_with (first | ((with_reducible refine zak (f := 48) rfl ?_); refine zaG (some 7) rfl rfl Tryd.func48 (by kernel_rfl) rfl #[.string a0] rfl (by (try simp only [List.map_toArray, List.map_cons, List.map_nil]); first | done | rfl | (simp only [List.length_drop, List.length_take]; rfl)) ?_; (with_reducible refine (zaV.calls a0 false _ A5.out).mono ?_); rintro e w' ⟨rfl, ⟨nd, rfl⟩⟩; refine ⟨_, rfl, ?_⟩) | (go_at_call 49; (with_reducible refine (impl_well.calls a0 true _ ?side1 A7.out).mono ?_); (case side1 => exact GT_below HG.out (by repeat (first | (with_reducible first | exact HB.out | apply zae | apply zaa | apply zad) | exact HB.out))); rintro e w9 ⟨rfl, hb⟩; have n0_ := zac.mk (Kd.R_below (by (with_reducible repeat (first | apply Kd.zav | apply Kd.zau | apply Kd.R_drew)); exact HO495.out) hb); have n1_ := zac.mk (zaw (by repeat (first | (with_reducible first | exact HB.out | apply zae | apply zaa | apply zad) | exact HB.out)) hb); clear HO495 HB; have HO495 := n0_; have HB := n1_; clear n0_ n1_; (try clear hb); (try clear hb2); (try clear hk); (try clear hi); obtain ⟨Ao10, co10, eo10⟩ := Kd.R_slice HO495.out; subst eo10))
   go_meet
   case rel => exact ⟨_, (decide ((t493.length : Int) > 1000)), (by first | rfl | (simp; done) | (simp [*]; done)), H', ⟨by first | omega | exact Nat.le_refl _⟩, ⟨by (with_reducible repeat (first | apply Kd.zav | apply Kd.zau | apply Kd.R_drew)); exact HO495.out⟩, ⟨by repeat (first | (with_reducible first | exact HB.out | apply zae | apply zaa | apply zad) | exact HB.out)⟩⟩
  replace c8 := Bool.eq_false_iff.mpr c8
  subst c8
  replace H : (zar.j0 k t493 true) = some r := by rw [if_neg (show ¬ (false = true) by decide)] at H; exact H
  have H' := zac.mk H; clear H
  go_wp2_with (first | ((with_reducible refine zak (f := 48) rfl ?_); refine zaG (some 7) rfl rfl Tryd.func48 (by kernel_rfl) rfl #[.string a0] rfl (by (try simp only [List.map_toArray, List.map_cons, List.map_nil]); first | done | rfl | (simp only [List.length_drop, List.length_take]; rfl)) ?_; (with_reducible refine (zaV.calls a0 false _ A5.out).mono ?_); rintro e w' ⟨rfl, ⟨nd, rfl⟩⟩; refine ⟨_, rfl, ?_⟩) | (go_at_call 49; (with_reducible refine (impl_well.calls a0 false _ ?side1 A7.out).mono ?_); (case side1 => exact GT_below HG.out (by repeat (first | (with_reducible first | exact HB.out | apply zae | apply zaa | apply zad) | exact HB.out))); rintro e w11 ⟨rfl, hb⟩; have n0_ := zac.mk (Kd.R_below (by (with_reducible repeat (first | apply Kd.zav | apply Kd.zau | apply Kd.R_drew)); exact HO495.out) hb); have n1_ := zac.mk (zaw (by repeat (first | (with_reducible first | exact HB.out | apply zae | apply zaa | apply zad) | exact HB.out)) hb); clear HO495 HB; have HO495 := n0_; have HB := n1_; clear n0_ n1_; (try clear hb); (try clear hb2); (try clear hk); (try clear hi)))
  go_meet
  case rel => exact ⟨_, (true), (by first | rfl | (simp; done) | (simp [*]; done)), H', ⟨by first | omega | exact Nat.le_refl _⟩, ⟨by (with_reducible repeat (first | apply Kd.zav | apply Kd.zau | apply Kd.R_drew)); exact HO495.out⟩, ⟨by repeat (first | (with_reducible first | exact HB.out | apply zae | apply zaa | apply zad) | exact HB.out)⟩⟩
 case rest =>
  clear HC3
  obtain ⟨kq, x17_2, rfl, HA, HJ2, HO_3, HB⟩ := hcut
  cases kq with
  | zero => exact absurd HA.out (by simp [zar.j0])
  | succ kj2 =>
   have H := HA.out; clear HA
   simp only [zar.j0] at H
   by_cases c12 : x17_2 = true
   ·subst c12
    replace H : (some (⟨#[]⟩ : ByteArray)) = some r := by rw [if_pos rfl] at H; exact H
    obtain rfl := Option.some.inj H
    go_wp2
    go_ret
    exact ⟨by first | rfl | (simp [zan, zam] <;> rfl) | (simp [*, zan, zam] <;> rfl), by repeat (first | (with_reducible first | exact HB.out | apply zae | apply zaa | apply zad) | exact HB.out)⟩
   replace c12 := Bool.eq_false_iff.mpr c12
   subst c12
   replace H : ((zaX.f kj2 t493).bind fun t498 => ((impl_short.f t498).bind fun t499 => (some t499))) = some r := by rw [if_neg (show ¬ (false = true) by decide)] at H; exact H
   replace H := Option.bind_eq_some_iff.mp H
   obtain ⟨t498, A130, H⟩ := H
   replace H : ((impl_short.f t498).bind fun t499 => (some t499)) = some r := H
   have A13 := zac.mk A130; clear A130; replace H := Option.bind_eq_some_iff.mp H
   obtain ⟨t499, A140, H⟩ := H
   replace H : (some t499) = some r := H
   have A14 := zac.mk A140; clear A140; obtain rfl := Option.some.inj H
   obtain ⟨Ao15, co15, eo15⟩ := Kd.R_slice HO_3.out
   subst eo15
   go_wp2_with (first | ((with_reducible refine zak (f := 51) rfl ?_); refine zaG (some 19) rfl rfl Tryd.func51 (by kernel_rfl) rfl #[.slice Ao15 t493.length co15] rfl (by (try simp only [List.map_toArray, List.map_cons, List.map_nil]); first | done | rfl | (simp only [List.length_drop, List.length_take]; rfl)) ?_; (with_reducible refine (zaX.calls kj2 _ _ t493 t498 _ ?side1 ?side2 A13.out).mono ?_); (case side1 => repeat (first | exact (Kd.zaY HO_3.out).2.2 | (with_reducible refine Kd.C_alloc ?_ _) | (with_reducible refine Kd.C_drewN ?_ _) | (with_reducible refine Kd.C_drew ?_))); (case side2 => exact (Kd.zaY HO_3.out).2.1); rintro e w16 ⟨rfl, hb⟩; refine ⟨_, rfl, ?_⟩; have n0_ := zac.mk (Kd.R_below (by (with_reducible repeat (first | apply Kd.zav | apply Kd.zau | apply Kd.R_drew)); exact HO_3.out) hb); have n1_ := zac.mk (zaw (by repeat (first | (with_reducible first | exact HB.out | apply zae | apply zaa | apply zad) | exact HB.out)) hb); clear HO_3 HB; have HO_3 := n0_; have HB := n1_; clear n0_ n1_; (try clear hb); (try clear hb2); (try clear hk); (try clear hi)) | ((with_reducible refine zak (f := 50) rfl ?_); refine zaG (some 20) rfl rfl Tryd.func50 (by kernel_rfl) rfl #[.string t498] rfl (by (try simp only [List.map_toArray, List.map_cons, List.map_nil]); first | done | rfl | (simp only [List.length_drop, List.length_take]; rfl)) ?_; (with_reducible refine (impl_short.calls t498 t499 _ A14.out).mono ?_); rintro e w' ⟨rfl, ⟨nd, rfl⟩⟩; refine ⟨_, rfl, ?_⟩))
   go_ret
   exact ⟨by first | rfl | (simp [zan, zam] <;> rfl) | (simp [*, zan, zam] <;> rfl), by repeat (first | (with_reducible first | exact HB.out | apply zae | apply zaa | apply zad) | exact HB.out)⟩
end Go.Proofs.YtbppeepihlajoaaDoor.P
