/- Written by a program of this session: plain Lean functions for Go functions, and for each the proof that the call comes to what the function says. -/
import Derived.Test.YtfafjbolmeimmaaGreatDoorAb
import Derived.Test.YtfafjbolmeimmaaGreatDoorF4
import Derived.Test.YtfafjbolmeimmaaGreatDoorJ30
import Derived.Test.YtfafjbolmeimmaaGreatDoorF10
namespace Go.Proofs.YtfafjbolmeimmaaGreatDoor.P
open Go.RowKit Go.Proofs.YtfafjbolmeimmaaGreatDoorW.PrintWords Go.Proofs.YtfafjbolmeimmaaGreatDoorW.PrintLast Go.Proofs.YtfafjbolmeimmaaGreatDoorW.PrintMore
attribute [local go_sem] zbw zbx max_two min_two zbe zbd zbu zbv
set_option linter.unusedVariables false
set_option linter.unusedSimpArgs false
def impl_short.f (a0 : ByteArray) : Option (ByteArray) := (impl_long.f a0).bind fun t376 => (if t376 = true then (some (⟨#[]⟩ : ByteArray)) else (some a0))
set_option maxHeartbeats 8000000 in
set_option maxRecDepth 100000 in
theorem impl_short.calls (a0 : ByteArray) (r : ByteArray) (w : World) (h : impl_short.f a0 = some r) :
  Calls Tryz.prog 56 #[.string a0] w fun e w' => e = .returned (.string r) ∧ zas w w' := by
 have H : ((impl_long.f a0).bind fun t376 => (if t376 = true then (some (⟨#[]⟩ : ByteArray)) else (some a0))) = some r := h
 clear h; replace H := Option.bind_eq_some_iff.mp H
 obtain ⟨t376, A20, H⟩ := H
 replace H : (if t376 = true then (some (⟨#[]⟩ : ByteArray)) else (some a0)) = some r := H
 have A2 := zaa.mk A20; clear A20
 by_cases c3 : t376 = true
 ·subst c3
  replace H : (some (⟨#[]⟩ : ByteArray)) = some r := by rw [if_pos rfl] at H; exact H
  obtain rfl := Option.some.inj H
  go_enter Tryz.func56, Tryz.ntmps56
  go_wp2_with (first | ((with_reducible refine zaz (f := 87) rfl ?_); refine zbh (some 4) rfl rfl Tryz.func87 yq9 rfl #[.string a0] rfl yq2 ?_; (with_reducible refine (impl_long.calls a0 true _ A2.out).mono ?_); rintro e w' ⟨rfl, ⟨nd, rfl⟩⟩; refine ⟨_, rfl, ?_⟩))
  go_ret
  exact ⟨yq4, yq10⟩
 replace c3 := Bool.eq_false_iff.mpr c3
 subst c3
 replace H : (some a0) = some r := by rw [if_neg (show ¬ (false = true) by decide)] at H; exact H
 obtain rfl := Option.some.inj H
 go_enter Tryz.func56, Tryz.ntmps56
 go_wp2_with (first | ((with_reducible refine zaz (f := 87) rfl ?_); refine zbh (some 4) rfl rfl Tryz.func87 yq9 rfl #[.string a0] rfl yq2 ?_; (with_reducible refine (impl_long.calls a0 false _ A2.out).mono ?_); rintro e w' ⟨rfl, ⟨nd, rfl⟩⟩; refine ⟨_, rfl, ?_⟩))
 go_ret
 exact ⟨yq4, yq10⟩
def impl_filled.f (a0 : ByteArray) (a1 : ByteArray) (a2 : ByteArray) : Option (ByteArray) := (strings_Cut2.f a0 (⟨#[123, 48, 125]⟩ : ByteArray)).bind fun bt377 => ((strings_Cut2.f bt377.2.1 (⟨#[123, 49, 125]⟩ : ByteArray)).bind fun bt380 => (if a0.toList = ([] : List UInt8) then (some (⟨#[]⟩ : ByteArray)) else (if bt377.1.size + a1.size ≤ 9223372036854775807 then (if (bt377.1 ++ a1).size + bt380.1.size ≤ 9223372036854775807 then (if ((bt377.1 ++ a1) ++ bt380.1).size + a2.size ≤ 9223372036854775807 then (if (((bt377.1 ++ a1) ++ bt380.1) ++ a2).size + bt380.2.1.size ≤ 9223372036854775807 then (some ((((bt377.1 ++ a1) ++ bt380.1) ++ a2) ++ bt380.2.1)) else (none)) else (none)) else (none)) else (none))))
set_option maxHeartbeats 8000000 in
set_option maxRecDepth 100000 in
theorem impl_filled.calls (a0 : ByteArray) (a1 : ByteArray) (a2 : ByteArray) (r : ByteArray) (w : World) (hG : GT w) (h : impl_filled.f a0 a1 a2 = some r) :
  Calls Tryz.prog 57 #[.string a0, .string a1, .string a2] w fun e w' => e = .returned (.string r) ∧ Below w.heap.size w w' := by
 have HG := zaa.mk hG; clear hG
 have HB := zaa.mk (Below.refl w.heap.size w)
 have H : ((strings_Cut2.f a0 (⟨#[123, 48, 125]⟩ : ByteArray)).bind fun bt377 => ((strings_Cut2.f bt377.2.1 (⟨#[123, 49, 125]⟩ : ByteArray)).bind fun bt380 => (if a0.toList = ([] : List UInt8) then (some (⟨#[]⟩ : ByteArray)) else (if bt377.1.size + a1.size ≤ 9223372036854775807 then (if (bt377.1 ++ a1).size + bt380.1.size ≤ 9223372036854775807 then (if ((bt377.1 ++ a1) ++ bt380.1).size + a2.size ≤ 9223372036854775807 then (if (((bt377.1 ++ a1) ++ bt380.1) ++ a2).size + bt380.2.1.size ≤ 9223372036854775807 then (some ((((bt377.1 ++ a1) ++ bt380.1) ++ a2) ++ bt380.2.1)) else (none)) else (none)) else (none)) else (none))))) = some r := h
 clear h; replace H := Option.bind_eq_some_iff.mp H
 obtain ⟨⟨t377, t378, t379⟩, A40, H⟩ := H
 replace H : ((strings_Cut2.f t378 (⟨#[123, 49, 125]⟩ : ByteArray)).bind fun bt380 => (if a0.toList = ([] : List UInt8) then (some (⟨#[]⟩ : ByteArray)) else (if t377.size + a1.size ≤ 9223372036854775807 then (if (t377 ++ a1).size + bt380.1.size ≤ 9223372036854775807 then (if ((t377 ++ a1) ++ bt380.1).size + a2.size ≤ 9223372036854775807 then (if (((t377 ++ a1) ++ bt380.1) ++ a2).size + bt380.2.1.size ≤ 9223372036854775807 then (some ((((t377 ++ a1) ++ bt380.1) ++ a2) ++ bt380.2.1)) else (none)) else (none)) else (none)) else (none)))) = some r := H
 have A4 := zaa.mk A40; clear A40; replace H := Option.bind_eq_some_iff.mp H
 obtain ⟨⟨t380, t381, t382⟩, A50, H⟩ := H
 replace H : (if a0.toList = ([] : List UInt8) then (some (⟨#[]⟩ : ByteArray)) else (if t377.size + a1.size ≤ 9223372036854775807 then (if (t377 ++ a1).size + t380.size ≤ 9223372036854775807 then (if ((t377 ++ a1) ++ t380).size + a2.size ≤ 9223372036854775807 then (if (((t377 ++ a1) ++ t380) ++ a2).size + t381.size ≤ 9223372036854775807 then (some ((((t377 ++ a1) ++ t380) ++ a2) ++ t381)) else (none)) else (none)) else (none)) else (none))) = some r := H
 have A5 := zaa.mk A50; clear A50
 by_cases c6 : a0.toList = ([] : List UInt8)
 ·rw [if_pos c6] at H
  have c6b0 : (a0.toList == ([] : List UInt8)) = true := beq_iff_eq.mpr c6
  have c6b1 : (a0.toList != ([] : List UInt8)) = false := bne_eq_false_iff_eq.mpr c6
  clear c6; obtain rfl := Option.some.inj H
  go_enter Tryz.func57, Tryz.ntmps57
  go_wp2_with (first | ((with_reducible refine zaz (f := 88) rfl ?_); refine zbh (some 15) rfl rfl Tryz.func88 yq9 rfl #[.string a0, .string (⟨#[123, 48, 125]⟩ : ByteArray)] rfl yq2 ?_; (with_reducible refine (strings_Cut2.calls a0 (⟨#[123, 48, 125]⟩ : ByteArray) t377 t378 t379 _ ?side1 A4.out).mono ?_); (case side1 => exact zby HG.out (yq0 HB.out)); rintro e w7 ⟨rfl, hb⟩; refine ⟨_, rfl, ?_⟩; have n0_ := zaa.mk (zao (yq0 HB.out) hb); clear HB; have HB := n0_; clear n0_; (try clear hb); (try clear hb2); (try clear hk); (try clear hi)) | ((with_reducible refine zaz (f := 88) rfl ?_); refine zbh (some 21) rfl rfl Tryz.func88 yq9 rfl #[.string t378, .string (⟨#[123, 49, 125]⟩ : ByteArray)] rfl yq2 ?_; (with_reducible refine (strings_Cut2.calls t378 (⟨#[123, 49, 125]⟩ : ByteArray) t380 t381 t382 _ ?side1 A5.out).mono ?_); (case side1 => exact zby HG.out (yq0 HB.out)); rintro e w8 ⟨rfl, hb⟩; refine ⟨_, rfl, ?_⟩; have n0_ := zaa.mk (zao (yq0 HB.out) hb); clear HB; have HB := n0_; clear n0_; (try clear hb); (try clear hb2); (try clear hk); (try clear hi)))
  go_ret
  exact ⟨yq6, yq0 HB.out⟩
 rw [if_neg c6] at H
 have c6b0 : (a0.toList == ([] : List UInt8)) = false := beq_eq_false_iff_ne.mpr c6
 have c6b1 : (a0.toList != ([] : List UInt8)) = true := bne_iff_ne.mpr c6
 by_cases c9 : t377.size + a1.size ≤ 9223372036854775807
 ·rw [if_pos c9] at H
  have c9b0 := eq_true c9
  have c9b1 : decide (t377.size + a1.size ≤ 9223372036854775807) = true := decide_eq_true c9
  try have c9b2 : (9223372036854775807 < t377.size + a1.size) = False := eq_false (Nat.not_lt.2 c9)
  by_cases c10 : (t377 ++ a1).size + t380.size ≤ 9223372036854775807
  ·rw [if_pos c10] at H
   have c10b0 := eq_true c10
   have c10b1 : decide ((t377 ++ a1).size + t380.size ≤ 9223372036854775807) = true := decide_eq_true c10
   try have c10b2 : (9223372036854775807 < (t377 ++ a1).size + t380.size) = False := eq_false (Nat.not_lt.2 c10)
   by_cases c11 : ((t377 ++ a1) ++ t380).size + a2.size ≤ 9223372036854775807
   ·rw [if_pos c11] at H
    have c11b0 := eq_true c11
    have c11b1 : decide (((t377 ++ a1) ++ t380).size + a2.size ≤ 9223372036854775807) = true := decide_eq_true c11
    try have c11b2 : (9223372036854775807 < ((t377 ++ a1) ++ t380).size + a2.size) = False := eq_false (Nat.not_lt.2 c11)
    by_cases c12 : (((t377 ++ a1) ++ t380) ++ a2).size + t381.size ≤ 9223372036854775807
    ·rw [if_pos c12] at H
     have c12b0 := eq_true c12
     have c12b1 : decide ((((t377 ++ a1) ++ t380) ++ a2).size + t381.size ≤ 9223372036854775807) = true := decide_eq_true c12
     try have c12b2 : (9223372036854775807 < (((t377 ++ a1) ++ t380) ++ a2).size + t381.size) = False := eq_false (Nat.not_lt.2 c12)
     obtain rfl := Option.some.inj H
     go_enter Tryz.func57, Tryz.ntmps57
     go_wp2_with (first | ((with_reducible refine zaz (f := 88) rfl ?_); refine zbh (some 15) rfl rfl Tryz.func88 yq9 rfl #[.string a0, .string (⟨#[123, 48, 125]⟩ : ByteArray)] rfl yq2 ?_; (with_reducible refine (strings_Cut2.calls a0 (⟨#[123, 48, 125]⟩ : ByteArray) t377 t378 t379 _ ?side1 A4.out).mono ?_); (case side1 => exact zby HG.out (yq0 HB.out)); rintro e w13 ⟨rfl, hb⟩; refine ⟨_, rfl, ?_⟩; have n0_ := zaa.mk (zao (yq0 HB.out) hb); clear HB; have HB := n0_; clear n0_; (try clear hb); (try clear hb2); (try clear hk); (try clear hi)) | ((with_reducible refine zaz (f := 88) rfl ?_); refine zbh (some 21) rfl rfl Tryz.func88 yq9 rfl #[.string t378, .string (⟨#[123, 49, 125]⟩ : ByteArray)] rfl yq2 ?_; (with_reducible refine (strings_Cut2.calls t378 (⟨#[123, 49, 125]⟩ : ByteArray) t380 t381 t382 _ ?side1 A5.out).mono ?_); (case side1 => exact zby HG.out (yq0 HB.out)); rintro e w14 ⟨rfl, hb⟩; refine ⟨_, rfl, ?_⟩; have n0_ := zaa.mk (zao (yq0 HB.out) hb); clear HB; have HB := n0_; clear n0_; (try clear hb); (try clear hb2); (try clear hk); (try clear hi)))
     go_ret
     exact ⟨yq6, yq0 HB.out⟩
    rw [if_neg c12] at H
    exact absurd H yq26
   rw [if_neg c11] at H
   exact absurd H yq26
  rw [if_neg c10] at H
  exact absurd H yq26
 rw [if_neg c9] at H
 exact absurd H yq26
end Go.Proofs.YtfafjbolmeimmaaGreatDoor.P
