/- laws.szLocale, walked. -/
import Derived.Test.YtfafjbolmeimmaaGreatDoorF7
import Derived.Test.YtfafjbolmeimmaaGreatDoorF8
namespace Go.Proofs.YtfafjbolmeimmaaGreatDoor.P
open Go.RowKit Go.Proofs.YtfafjbolmeimmaaGreatDoorW.PrintWords Go.Proofs.YtfafjbolmeimmaaGreatDoorW.PrintLast Go.Proofs.YtfafjbolmeimmaaGreatDoorW.PrintMore
set_option linter.unusedVariables false
set_option linter.unusedSimpArgs false
def laws_szLocale.f (k : Nat) (a0_0 : ByteArray) (a0_1 : ByteArray) (a0_2 : ByteArray) (a0_3 : ByteArray) (a0_4 : ByteArray) (l0_5 : List Int) (a0_6 : Int) (l0_7 : List S79) (a0_8 : ByteArray) (a0_9 : ByteArray) (a0_10 : ByteArray) (a0_11 : ByteArray) (l0_12 : List ByteArray) (l0_13 : List ByteArray) (a0_14 : ByteArray) (a1 : Int) : Option Int := (if (wrap64 (a1 - (a0_0.size : Int))) < 0 then some (-1) else (if (wrap64 ((wrap64 (a1 - (a0_0.size : Int))) - (a0_1.size : Int))) < 0 then some (-1) else (if (wrap64 ((wrap64 ((wrap64 (a1 - (a0_0.size : Int))) - (a0_1.size : Int))) - (a0_2.size : Int))) < 0 then some (-1) else (if (wrap64 ((wrap64 ((wrap64 ((wrap64 (a1 - (a0_0.size : Int))) - (a0_1.size : Int))) - (a0_2.size : Int))) - (a0_3.size : Int))) < 0 then some (-1) else (if (wrap64 ((wrap64 ((wrap64 ((wrap64 ((wrap64 (a1 - (a0_0.size : Int))) - (a0_1.size : Int))) - (a0_2.size : Int))) - (a0_3.size : Int))) - (a0_4.size : Int))) < 0 then some (-1) else (laws_szInt64S.f l0_5 (wrap64 ((wrap64 ((wrap64 ((wrap64 ((wrap64 (a1 - (a0_0.size : Int))) - (a0_1.size : Int))) - (a0_2.size : Int))) - (a0_3.size : Int))) - (a0_4.size : Int)))).bind fun t5 => (if t5 < 0 then some (-1) else (zaN.f k l0_7 t5).bind fun t7 => (if t7 < 0 then some (-1) else (if (wrap64 (t7 - (a0_8.size : Int))) < 0 then some (-1) else (if (wrap64 ((wrap64 (t7 - (a0_8.size : Int))) - (a0_9.size : Int))) < 0 then some (-1) else (if (wrap64 ((wrap64 ((wrap64 (t7 - (a0_8.size : Int))) - (a0_9.size : Int))) - (a0_10.size : Int))) < 0 then some (-1) else (if (wrap64 ((wrap64 ((wrap64 ((wrap64 (t7 - (a0_8.size : Int))) - (a0_9.size : Int))) - (a0_10.size : Int))) - (a0_11.size : Int))) < 0 then some (-1) else (zaZ.f k l0_12 (wrap64 ((wrap64 ((wrap64 ((wrap64 (t7 - (a0_8.size : Int))) - (a0_9.size : Int))) - (a0_10.size : Int))) - (a0_11.size : Int)))).bind fun t12 => (if t12 < 0 then some (-1) else (zaZ.f k l0_13 t12).bind fun t13 => (if t13 < 0 then some (-1) else (if (wrap64 (t13 - (a0_14.size : Int))) < 0 then some (-1) else some (wrap64 (t13 - (a0_14.size : Int)))))))))))))))))
set_option maxHeartbeats 8000000 in
set_option maxRecDepth 1000000 in
theorem laws_szLocale.calls (k : Nat) (a0_0 : ByteArray) (a0_1 : ByteArray) (a0_2 : ByteArray) (a0_3 : ByteArray) (a0_4 : ByteArray) (A0_5 : Option Addr) (c0_5 : Nat) (l0_5 : List Int) (a0_6 : Int) (A0_7 : Option Addr) (c0_7 : Nat) (l0_7 : List S79) (a0_8 : ByteArray) (a0_9 : ByteArray) (a0_10 : ByteArray) (a0_11 : ByteArray) (A0_12 : Option Addr) (c0_12 : Nat) (l0_12 : List ByteArray) (A0_13 : Option Addr) (c0_13 : Nat) (l0_13 : List ByteArray) (a0_14 : ByteArray) (a1 : Int) (r : Int) (w : World) (hr0_5 : Kd.C (Kd.int .i64) w A0_5 l0_5.length l0_5) (hc0_5 : l0_5.length ≤ c0_5) (hr0_7 : Kd.C k79 w A0_7 l0_7.length l0_7) (hc0_7 : l0_7.length ≤ c0_7) (hr0_12 : Kd.C Kd.string w A0_12 l0_12.length l0_12) (hc0_12 : l0_12.length ≤ c0_12) (hr0_13 : Kd.C Kd.string w A0_13 l0_13.length l0_13) (hc0_13 : l0_13.length ≤ c0_13) (h : laws_szLocale.f k a0_0 a0_1 a0_2 a0_3 a0_4 l0_5 a0_6 l0_7 a0_8 a0_9 a0_10 a0_11 l0_12 l0_13 a0_14 a1 = some r) :
  Calls Tryz.prog 8 #[.agg #[.string a0_0, .string a0_1, .string a0_2, .string a0_3, .string a0_4, .slice A0_5 l0_5.length c0_5, .int .i64 a0_6, .slice A0_7 l0_7.length c0_7, .string a0_8, .string a0_9, .string a0_10, .string a0_11, .slice A0_12 l0_12.length c0_12, .slice A0_13 l0_13.length c0_13, .string a0_14], .int .i64 a1] w fun e w' => e = .returned (.int .i64 r) ∧ Below w.heap.size w w' := by
 have H := h; clear h
 unfold laws_szLocale.f at H
 obtain ⟨x1, q1⟩ : ∃ q, wrap64 (a1 - (a0_0.size : Int)) = q := ⟨_, rfl⟩
 rw [q1] at H
 have e1 : IntKind.i64.wrap (a1 - (a0_0.size : Int)) = x1 := (zaE _).trans q1
 clear q1
 by_cases d1 : x1 < 0
 (rw [if_pos d1] at H; replace d1 := eq_true d1)
 rotate_left
 rw [if_neg d1] at H
 replace d1 := eq_false d1
 obtain ⟨x2, q2⟩ : ∃ q, wrap64 (x1 - (a0_1.size : Int)) = q := ⟨_, rfl⟩
 rw [q2] at H
 have e2 : IntKind.i64.wrap (x1 - (a0_1.size : Int)) = x2 := (zaE _).trans q2
 clear q2
 by_cases d2 : x2 < 0
 (rw [if_pos d2] at H; replace d2 := eq_true d2)
 rotate_left
 rw [if_neg d2] at H
 replace d2 := eq_false d2
 obtain ⟨x3, q3⟩ : ∃ q, wrap64 (x2 - (a0_2.size : Int)) = q := ⟨_, rfl⟩
 rw [q3] at H
 have e3 : IntKind.i64.wrap (x2 - (a0_2.size : Int)) = x3 := (zaE _).trans q3
 clear q3
 by_cases d3 : x3 < 0
 (rw [if_pos d3] at H; replace d3 := eq_true d3)
 rotate_left
 rw [if_neg d3] at H
 replace d3 := eq_false d3
 obtain ⟨x4, q4⟩ : ∃ q, wrap64 (x3 - (a0_3.size : Int)) = q := ⟨_, rfl⟩
 rw [q4] at H
 have e4 : IntKind.i64.wrap (x3 - (a0_3.size : Int)) = x4 := (zaE _).trans q4
 clear q4
 by_cases d4 : x4 < 0
 (rw [if_pos d4] at H; replace d4 := eq_true d4)
 rotate_left
 rw [if_neg d4] at H
 replace d4 := eq_false d4
 obtain ⟨x5, q5⟩ : ∃ q, wrap64 (x4 - (a0_4.size : Int)) = q := ⟨_, rfl⟩
 rw [q5] at H
 have e5 : IntKind.i64.wrap (x4 - (a0_4.size : Int)) = x5 := (zaE _).trans q5
 clear q5
 by_cases d5 : x5 < 0
 (rw [if_pos d5] at H; replace d5 := eq_true d5)
 rotate_left
 rw [if_neg d5] at H
 replace d5 := eq_false d5
 replace H := Option.bind_eq_some_iff.mp H
 obtain ⟨x6, E5, H⟩ := H
 have C5 : zaa (CW w 30 #[.slice A0_5 l0_5.length c0_5, .int .i64 x5] (.int .i64 x6)) := ⟨fun w1 hb => (laws_szInt64S.calls A0_5 c0_5 l0_5 x5 x6 w1 (Kd.zaS hr0_5 hb) hc0_5 E5).mono fun _ _ h => by first | exact h | exact ⟨h.1, drawn_bl h.2⟩⟩
 clear E5
 by_cases d6 : x6 < 0
 (rw [if_pos d6] at H; replace d6 := eq_true d6)
 rotate_left
 rw [if_neg d6] at H
 replace d6 := eq_false d6
 replace H := Option.bind_eq_some_iff.mp H
 obtain ⟨x7, E7, H⟩ := H
 have C7 : zaa (CW w 31 #[.slice A0_7 l0_7.length c0_7, .int .i64 x6] (.int .i64 x7)) := ⟨fun w1 hb => (zaN.calls k A0_7 c0_7 l0_7 x6 x7 w1 (Kd.zaS hr0_7 hb) hc0_7 E7).mono fun _ _ h => by first | exact h | exact ⟨h.1, drawn_bl h.2⟩⟩
 clear E7
 by_cases d7 : x7 < 0
 (rw [if_pos d7] at H; replace d7 := eq_true d7)
 rotate_left
 rw [if_neg d7] at H
 replace d7 := eq_false d7
 obtain ⟨x8, q8⟩ : ∃ q, wrap64 (x7 - (a0_8.size : Int)) = q := ⟨_, rfl⟩
 rw [q8] at H
 have e8 : IntKind.i64.wrap (x7 - (a0_8.size : Int)) = x8 := (zaE _).trans q8
 clear q8
 by_cases d8 : x8 < 0
 (rw [if_pos d8] at H; replace d8 := eq_true d8)
 rotate_left
 rw [if_neg d8] at H
 replace d8 := eq_false d8
 obtain ⟨x9, q9⟩ : ∃ q, wrap64 (x8 - (a0_9.size : Int)) = q := ⟨_, rfl⟩
 rw [q9] at H
 have e9 : IntKind.i64.wrap (x8 - (a0_9.size : Int)) = x9 := (zaE _).trans q9
 clear q9
 by_cases d9 : x9 < 0
 (rw [if_pos d9] at H; replace d9 := eq_true d9)
 rotate_left
 rw [if_neg d9] at H
 replace d9 := eq_false d9
 obtain ⟨x10, q10⟩ : ∃ q, wrap64 (x9 - (a0_10.size : Int)) = q := ⟨_, rfl⟩
 rw [q10] at H
 have e10 : IntKind.i64.wrap (x9 - (a0_10.size : Int)) = x10 := (zaE _).trans q10
 clear q10
 by_cases d10 : x10 < 0
 (rw [if_pos d10] at H; replace d10 := eq_true d10)
 rotate_left
 rw [if_neg d10] at H
 replace d10 := eq_false d10
 obtain ⟨x11, q11⟩ : ∃ q, wrap64 (x10 - (a0_11.size : Int)) = q := ⟨_, rfl⟩
 rw [q11] at H
 have e11 : IntKind.i64.wrap (x10 - (a0_11.size : Int)) = x11 := (zaE _).trans q11
 clear q11
 by_cases d11 : x11 < 0
 (rw [if_pos d11] at H; replace d11 := eq_true d11)
 rotate_left
 rw [if_neg d11] at H
 replace d11 := eq_false d11
 replace H := Option.bind_eq_some_iff.mp H
 obtain ⟨x12, E12, H⟩ := H
 have C12 : zaa (CW w 18 #[.slice A0_12 l0_12.length c0_12, .int .i64 x11] (.int .i64 x12)) := ⟨fun w1 hb => (zaZ.calls k A0_12 c0_12 l0_12 x11 x12 w1 (Kd.zaS hr0_12 hb) hc0_12 E12).mono fun _ _ h => by first | exact h | exact ⟨h.1, drawn_bl h.2⟩⟩
 clear E12
 by_cases d12 : x12 < 0
 (rw [if_pos d12] at H; replace d12 := eq_true d12)
 rotate_left
 rw [if_neg d12] at H
 replace d12 := eq_false d12
 replace H := Option.bind_eq_some_iff.mp H
 obtain ⟨x13, E13, H⟩ := H
 have C13 : zaa (CW w 18 #[.slice A0_13 l0_13.length c0_13, .int .i64 x12] (.int .i64 x13)) := ⟨fun w1 hb => (zaZ.calls k A0_13 c0_13 l0_13 x12 x13 w1 (Kd.zaS hr0_13 hb) hc0_13 E13).mono fun _ _ h => by first | exact h | exact ⟨h.1, drawn_bl h.2⟩⟩
 clear E13
 by_cases d13 : x13 < 0
 (rw [if_pos d13] at H; replace d13 := eq_true d13)
 rotate_left
 rw [if_neg d13] at H
 replace d13 := eq_false d13
 obtain ⟨x14, q14⟩ : ∃ q, wrap64 (x13 - (a0_14.size : Int)) = q := ⟨_, rfl⟩
 rw [q14] at H
 have e14 : IntKind.i64.wrap (x13 - (a0_14.size : Int)) = x14 := (zaE _).trans q14
 clear q14
 by_cases d14 : x14 < 0
 (rw [if_pos d14] at H; replace d14 := eq_true d14)
 rotate_left
 rw [if_neg d14] at H
 replace d14 := eq_false d14
 all_goals
  obtain rfl := Option.some.inj H; clear H hr0_5 hc0_5 hr0_7 hc0_7 hr0_12 hc0_12 hr0_13 hc0_13
  go_enter Tryz.func8, Tryz.ntmps8
  go_wp2_with (first | ((with_reducible refine zaU (N := 2) rfl ?_); refine zba ?hg (N := 2) ?hd (cs := #[.string a0_0, .string a0_1, .string a0_2, .string a0_3, .string a0_4, .slice A0_5 l0_5.length c0_5, .int .i64 a0_6, .slice A0_7 l0_7.length c0_7, .string a0_8, .string a0_9, .string a0_10, .string a0_11, .slice A0_12 l0_12.length c0_12, .slice A0_13 l0_13.length c0_13, .string a0_14]) (t := 26) ?hr ?_; (case hd => rfl); (case hg => rfl); (case hr => first | (go_simp; done) | (go_simp; rfl)); intro gb hg wb hbox hb; have L : zaa (BX w wb gb 26 #[.string a0_0, .string a0_1, .string a0_2, .string a0_3, .string a0_4, .slice A0_5 l0_5.length c0_5, .int .i64 a0_6, .slice A0_7 l0_7.length c0_7, .string a0_8, .string a0_9, .string a0_10, .string a0_11, .slice A0_12 l0_12.length c0_12, .slice A0_13 l0_13.length c0_13, .string a0_14]) := ⟨⟨zam (Below.refl _ _) hb, hbox, by rw [hg]; exact Nat.le_refl _⟩⟩; clear hb hbox hg; obtain ⟨k0, k1, k2, k3, k4, k5, k6, k7, k8, k9, k10, k11, k12, k13, k14⟩ := L.out.at) | ((go_at_call 30; with_reducible refine (CW.go C5.out L.out.b).mono ?_); (rintro e wn ⟨rfl, hb⟩; have L1 := zaa.mk (L.out.step hb); clear L hb k0 k1 k2 k3 k4 k5 k6 k7 k8 k9 k10 k11 k12 k13 k14; have L := L1; clear L1; obtain ⟨k0, k1, k2, k3, k4, k5, k6, k7, k8, k9, k10, k11, k12, k13, k14⟩ := L.out.at)) | ((go_at_call 31; with_reducible refine (CW.go C7.out L.out.b).mono ?_); (rintro e wn ⟨rfl, hb⟩; have L1 := zaa.mk (L.out.step hb); clear L hb k0 k1 k2 k3 k4 k5 k6 k7 k8 k9 k10 k11 k12 k13 k14; have L := L1; clear L1; obtain ⟨k0, k1, k2, k3, k4, k5, k6, k7, k8, k9, k10, k11, k12, k13, k14⟩ := L.out.at)) | ((go_at_call 18; with_reducible refine (CW.go C12.out L.out.b).mono ?_); (rintro e wn ⟨rfl, hb⟩; have L1 := zaa.mk (L.out.step hb); clear L hb k0 k1 k2 k3 k4 k5 k6 k7 k8 k9 k10 k11 k12 k13 k14; have L := L1; clear L1; obtain ⟨k0, k1, k2, k3, k4, k5, k6, k7, k8, k9, k10, k11, k12, k13, k14⟩ := L.out.at)) | ((go_at_call 18; with_reducible refine (CW.go C13.out L.out.b).mono ?_); (rintro e wn ⟨rfl, hb⟩; have L1 := zaa.mk (L.out.step hb); clear L hb k0 k1 k2 k3 k4 k5 k6 k7 k8 k9 k10 k11 k12 k13 k14; have L := L1; clear L1; obtain ⟨k0, k1, k2, k3, k4, k5, k6, k7, k8, k9, k10, k11, k12, k13, k14⟩ := L.out.at)) | fail)
  go_ret
  exact ⟨rfl, L.out.b⟩
end Go.Proofs.YtfafjbolmeimmaaGreatDoor.P
