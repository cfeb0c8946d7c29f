/- Written by a program of this session: plain Lean functions for Go functions, and for each the proof that the call comes to what the function says. -/
import Derived.Test.YtbppeepihlajoaaDoorL0
import Derived.Test.YtbppeepihlajoaaDoorL4
import Derived.Test.YtbppeepihlajoaaDoorL7
import Derived.Test.YtbppeepihlajoaaDoorL8
namespace Go.Proofs.YtbppeepihlajoaaDoor.P
open Go.RowKit Go.Proofs.YtbppeepihlajoaaDoorW.PrintWords Go.Proofs.YtbppeepihlajoaaDoorW.PrintLast Go.Proofs.YtbppeepihlajoaaDoorW.PrintMore
attribute [local go_sem] max2_int min2_int max_two min_two max_three min_three max_four min_four
set_option linter.unusedVariables false
set_option linter.unusedSimpArgs false
mutual
def zaA.j0 : Nat → List Int → Int → Int → Int → Bool → Option (Bool)
 | 0, _, _, _, _, _ => none
 | k + 1, x0, x1, x5, x6, x17 => if x17 = true then (some false) else ((zbD.f k x5).bind fun t230 => (if t230 = true then (zaA.j1 k x0 x1 x5 x6 true) else ((zbD.f k x6).bind fun t231 => (zaA.j1 k x0 x1 x5 x6 t231))))
def zaA.j1 : Nat → List Int → Int → Int → Int → Bool → Option (Bool)
 | 0, _, _, _, _, _ => none
 | k + 1, x0, x1, x5, x6, x24 => if x24 = true then (some true) else ((zbd.f k x5 x6).bind fun t232 => (if t232 = true then (zaA.j2 k x0 x1 x5 x6 true) else ((spec_l07Mark.f k x6).bind fun t233 => (zaA.j2 k x0 x1 x5 x6 t233))))
def zaA.j2 : Nat → List Int → Int → Int → Int → Bool → Option (Bool)
 | 0, _, _, _, _, _ => none
 | k + 1, x0, x1, x5, x6, x31 => if x31 = true then (some false) else (if x6 ≥ 1536 then (if x6 ≤ 1567 then ((zbL.f k x0 (wrap64 (x1 - 1))).bind fun t234 => (zaA.j3 k x0 x1 x5 x6 t234)) else (zaA.j3 k x0 x1 x5 x6 false)) else (zaA.j3 k x0 x1 x5 x6 false))
def zaA.j3 : Nat → List Int → Int → Int → Int → Bool → Option (Bool)
 | 0, _, _, _, _, _ => none
 | k + 1, x0, x1, x5, x6, x39 => if x39 = true then (some false) else (if x5 = 7936 then ((zbt.f x6).bind fun t235 => (zaA.j4 k x0 x1 x5 x6 t235)) else (zaA.j4 k x0 x1 x5 x6 false))
def zaA.j4 : Nat → List Int → Int → Int → Int → Bool → Option (Bool)
 | 0, _, _, _, _, _ => none
 | k + 1, x0, x1, x5, x6, x52 => if x52 = true then (zaA.l0 k x0 (wrap64 (x1 - 2))) else ((zbe.f x5).bind fun t242 => (if t242 = true then ((zbe.f x6).bind fun t243 => (if t243 = true then ((zbq.f k x0 (wrap64 (x1 - 1))).bind fun t244 => (some ((Int.tmod t244 2) == 0))) else (some true))) else (some true)))
def zaA.l0 : Nat → List Int → Int → Option (Bool)
 | 0, _, _ => none
 | k + 1, x0, x7 => if x7 ≥ 0 then (if 0 ≤ x7 then (if x7 < (x0.length : Int) then ((spec_l07Mark.f k (rd x0 x7)).bind fun t237 => (if t237 = true then (zaA.l0 k x0 (wrap64 (x7 - 1))) else (if x7 < 0 then (some true) else ((zbt.f (rd x0 x7)).bind fun t239 => (some (!t239)))))) else (none)) else (none)) else (if x7 < 0 then (some true) else (if 0 ≤ x7 then (if x7 < (x0.length : Int) then ((zbt.f (rd x0 x7)).bind fun t241 => (some (!t241))) else (none)) else (none)))
end
def zaA.f (k : Nat) (l0 : List Int) (a1 : Int) : Option (Bool) := if 0 ≤ (wrap64 (a1 - 1)) then (if (wrap64 (a1 - 1)) < (l0.length : Int) then (if 0 ≤ a1 then (if a1 < (l0.length : Int) then (if (rd l0 (wrap64 (a1 - 1))) = 13 then (zaA.j0 k l0 a1 (rd l0 (wrap64 (a1 - 1))) (rd l0 a1) ((rd l0 a1) == 10)) else (zaA.j0 k l0 a1 (rd l0 (wrap64 (a1 - 1))) (rd l0 a1) false)) else (none)) else (none)) else (none)) else (none)
set_option maxHeartbeats 8000000 in
set_option maxRecDepth 100000 in
theorem zaA.calls (k : Nat) (A0 : Option Addr) (c0 : Nat) (l0 : List Int) (a1 : Int) (r : Bool) (w : World) (hr0 : Kd.C (Kd.int .i64) w A0 l0.length l0) (hc0 : l0.length ≤ c0) (h : zaA.f k l0 a1 = some r) :
  Calls Tryd.prog 117 #[.slice A0 l0.length c0, .int .i64 a1] w fun e w' => e = .returned (.bool r) ∧ Below w.heap.size w w' := by
 have HR0 := zab.mk hr0; have HC0 := zab.mk hc0; clear hr0 hc0
 have HB := zab.mk (Below.refl w.heap.size w)
 have H : (if 0 ≤ (wrap64 (a1 - 1)) then (if (wrap64 (a1 - 1)) < (l0.length : Int) then (if 0 ≤ a1 then (if a1 < (l0.length : Int) then (if (rd l0 (wrap64 (a1 - 1))) = 13 then (zaA.j0 k l0 a1 (rd l0 (wrap64 (a1 - 1))) (rd l0 a1) ((rd l0 a1) == 10)) else (zaA.j0 k l0 a1 (rd l0 (wrap64 (a1 - 1))) (rd l0 a1) false)) else (none)) else (none)) else (none)) else (none)) = some r := h
 clear h
 obtain ⟨ji3, hji3⟩ : ∃ j_ : Int, (wrap64 (a1 - 1)) = j_ := ⟨_, rfl⟩
 replace H : (if 0 ≤ (ji3) then (if (ji3) < (l0.length : Int) then (if 0 ≤ a1 then (if a1 < (l0.length : Int) then (if (rd l0 (ji3)) = 13 then (zaA.j0 k l0 a1 (rd l0 (ji3)) (rd l0 a1) ((rd l0 a1) == 10)) else (zaA.j0 k l0 a1 (rd l0 (ji3)) (rd l0 a1) false)) else (none)) else (none)) else (none)) else (none)) = some r := by first | (rw [hji3] at H; exact H) | (simp only [hji3] at H ⊢; exact H)
 have hji3w : (IntKind.i64.wrap (a1 - 1)) = ji3 := (zbo _).trans hji3
 by_cases c4 : 0 ≤ (ji3)
 ·rw [if_pos c4] at H
  have c4b0 : decide (0 ≤ (ji3)) = true := decide_eq_true c4
  clear c4
  by_cases c5 : (ji3) < (l0.length : Int)
  ·rw [if_pos c5] at H
   have c5b0 : decide ((ji3) < (l0.length : Int)) = true := decide_eq_true c5
   clear c5
   by_cases c6 : 0 ≤ a1
   ·rw [if_pos c6] at H
    have c6b0 : decide (0 ≤ a1) = true := decide_eq_true c6
    clear c6
    by_cases c7 : a1 < (l0.length : Int)
    ·rw [if_pos c7] at H
     have c7b0 : decide (a1 < (l0.length : Int)) = true := decide_eq_true c7
     clear c7; have HC8 := zab.mk H; clear H
     have p228 : 0 ≤ ((ji3) : Int) := of_decide_eq_true (by first | (with_reducible assumption) | assumption)
     have q228 : (ji3) < (l0.length : Int) := of_decide_eq_true (by first | (with_reducible assumption) | assumption)
     obtain ⟨ad228, e228, hx228_0⟩ := Kd.zbF HR0.out (ji3) p228 q228
     cases e228
     replace p228 := eq_true p228
     replace q228 := eq_true q228
     have p229 : 0 ≤ (a1 : Int) := of_decide_eq_true (by first | (with_reducible assumption) | assumption)
     have q229 : a1 < (l0.length : Int) := of_decide_eq_true (by first | (with_reducible assumption) | assumption)
     obtain ⟨ad229, e229, hx229_0⟩ := Kd.zbF HR0.out a1 p229 q229
     obtain rfl : ad228 = ad229 := (by injection e229)
     replace p229 := eq_true p229
     replace q229 := eq_true q229
     go_enter Tryd.func117, Tryd.ntmps117
     go_upto_region 3 with (fail)
     go_cut [17] (fun v17 wc => ∃ (kq : Nat) (x17_7 : Bool), v17 = .bool x17_7 ∧ zab (zaA.j0 kq l0 a1 (rd l0 (ji3)) (rd l0 a1) x17_7 = some r) ∧ zab (kq ≤ k) ∧ zab (Below w.heap.size w wc))
     case first =>
      have H := HC8.out; clear HC8
      by_cases c9 : (rd l0 (ji3)) = 13
      ·rw [if_pos c9] at H
       have c9b0 : ((rd l0 (ji3)) == 13) = true := beq_iff_eq.mpr c9
       have c9b1 : ((rd l0 (ji3)) != 13) = false := bne_eq_false_iff_eq.mpr c9
       clear c9
       (first | rw [c9b0] | rw [c9b1] | (simp only [zbo, i32_w]; rw [c9b0]) | skip)
       have H' := zab.mk H; clear H
       go_wp2
       go_meet
       case rel => exact ⟨_, (((rd l0 a1) == 10)), (by first | rfl | (simp; done) | (simp [*]; done)), H', ⟨by first | omega | exact Nat.le_refl _⟩, ⟨by repeat (first | (with_reducible first | exact HB.out | apply zac | apply zaa | apply zad) | exact HB.out)⟩⟩
      rw [if_neg c9] at H
      have c9b0 : ((rd l0 (ji3)) == 13) = false := beq_eq_false_iff_ne.mpr c9
      have c9b1 : ((rd l0 (ji3)) != 13) = true := bne_iff_ne.mpr c9
      (first | rw [c9b0] | rw [c9b1] | (simp only [zbo, i32_w]; rw [c9b0]) | skip)
      have H' := zab.mk H; clear H
      go_wp2
      go_meet
      case rel => exact ⟨_, (false), (by first | rfl | (simp; done) | (simp [*]; done)), H', ⟨by first | omega | exact Nat.le_refl _⟩, ⟨by repeat (first | (with_reducible first | exact HB.out | apply zac | apply zaa | apply zad) | exact HB.out)⟩⟩
     case rest =>
      clear HC8
      try clear c4b0
      try clear c5b0
      try clear c6b0
      try clear c7b0
      try clear hx228_0
      try clear hx229_0
      try clear p228
      try clear p229
      try clear q228
      try clear q229
      obtain ⟨kq, x17_7, rfl, HA, HJ7, HB⟩ := hcut
      cases kq with
      | zero => exact absurd HA.out (by simp [zaA.j0])
      | succ kj7 =>
       have H := HA.out; clear HA
       simp only [zaA.j0] at H
       by_cases c10 : x17_7 = true
       ·subst c10
        replace H : (some false) = some r := by rw [if_pos rfl] at H; exact H
        obtain rfl := Option.some.inj H
        go_wp2
        go_ret
        exact ⟨by first | rfl | (simp [zam, zal] <;> rfl) | (simp only [← hji3]; first | rfl | (simp [zam, zal] <;> rfl)) | (simp [*, zam, zal] <;> rfl), by repeat (first | (with_reducible first | exact HB.out | apply zac | apply zaa | apply zad) | exact HB.out)⟩
       replace c10 := Bool.eq_false_iff.mpr c10
       subst c10
       replace H : ((zbD.f kj7 (rd l0 (ji3))).bind fun t230 => (if t230 = true then (zaA.j1 kj7 l0 a1 (rd l0 (ji3)) (rd l0 a1) true) else ((zbD.f kj7 (rd l0 a1)).bind fun t231 => (zaA.j1 kj7 l0 a1 (rd l0 (ji3)) (rd l0 a1) t231)))) = some r := by rw [if_neg (show ¬ (false = true) by decide)] at H; exact H
       have HC11 := zab.mk H; clear H
       go_upto_region 5 with (fail)
       go_cut [24] (fun v24 wc => ∃ (kq : Nat) (x24_10 : Bool), v24 = .bool x24_10 ∧ zab (zaA.j1 kq l0 a1 (rd l0 (ji3)) (rd l0 a1) x24_10 = some r) ∧ zab (kq ≤ kj7) ∧ zab (Below w.heap.size w wc))
       case first =>
        have H := HC11.out; clear HC11; replace H := Option.bind_eq_some_iff.mp H
        obtain ⟨t230, A120, H⟩ := H
        replace H : (if t230 = true then (zaA.j1 kj7 l0 a1 (rd l0 (ji3)) (rd l0 a1) true) else ((zbD.f kj7 (rd l0 a1)).bind fun t231 => (zaA.j1 kj7 l0 a1 (rd l0 (ji3)) (rd l0 a1) t231))) = some r := H
        have A12 := zab.mk A120; clear A120
        by_cases c13 : t230 = true
        ·subst c13
         replace H : (zaA.j1 kj7 l0 a1 (rd l0 (ji3)) (rd l0 a1) true) = some r := by rw [if_pos rfl] at H; exact H
         have H' := zab.mk H; clear H
         go_wp2_with (first | ((with_reducible refine zae (f := 154) rfl ?_); refine zaB (some 26) rfl rfl Tryd.func154 (by kernel_rfl) rfl #[.int .i64 (rd l0 (ji3))] rfl (by (try simp only [List.map_toArray, List.map_cons, List.map_nil]); first | done | (simp only [hji3]; rfl) | rfl | (simp only [List.length_drop, List.length_take]; rfl)) ?_; (with_reducible refine (zbD.calls kj7 (rd l0 (ji3)) true _ A12.out).mono ?_); rintro e w14 ⟨rfl, hb⟩; refine ⟨_, rfl, ?_⟩; have n0_ := zab.mk (zaw (by repeat (first | (with_reducible first | exact HB.out | apply zac | apply zaa | apply zad) | exact HB.out)) hb); clear HB; have HB := n0_; clear n0_; (try clear hb); (try clear hb2); (try clear hk); (try clear hi)))
         go_meet
         case rel => exact ⟨_, (true), (by first | rfl | (simp; done) | (simp [*]; done)), H', ⟨by have := HJ7.out; first | omega | exact Nat.le_refl _⟩, ⟨by repeat (first | (with_reducible first | exact HB.out | apply zac | apply zaa | apply zad) | exact HB.out)⟩⟩
        replace c13 := Bool.eq_false_iff.mpr c13
        subst c13
        replace H : ((zbD.f kj7 (rd l0 a1)).bind fun t231 => (zaA.j1 kj7 l0 a1 (rd l0 (ji3)) (rd l0 a1) t231)) = some r := by rw [if_neg (show ¬ (false = true) by decide)] at H; exact H
        replace H := Option.bind_eq_some_iff.mp H
        obtain ⟨t231, A150, H⟩ := H
        replace H : (zaA.j1 kj7 l0 a1 (rd l0 (ji3)) (rd l0 a1) t231) = some r := H
        have A15 := zab.mk A150; clear A150; have H' := zab.mk H; clear H
        go_wp2_with (first | ((with_reducible refine zae (f := 154) rfl ?_); refine zaB (some 26) rfl rfl Tryd.func154 (by kernel_rfl) rfl #[.int .i64 (rd l0 (ji3))] rfl (by (try simp only [List.map_toArray, List.map_cons, List.map_nil]); first | done | (simp only [hji3]; rfl) | rfl | (simp only [List.length_drop, List.length_take]; rfl)) ?_; (with_reducible refine (zbD.calls kj7 (rd l0 (ji3)) false _ A12.out).mono ?_); rintro e w16 ⟨rfl, hb⟩; refine ⟨_, rfl, ?_⟩; have n0_ := zab.mk (zaw (by repeat (first | (with_reducible first | exact HB.out | apply zac | apply zaa | apply zad) | exact HB.out)) hb); clear HB; have HB := n0_; clear n0_; (try clear hb); (try clear hb2); (try clear hk); (try clear hi)) | (go_at_call 154; (with_reducible refine (zbD.calls kj7 (rd l0 a1) t231 _ A15.out).mono ?_); rintro e w17 ⟨rfl, hb⟩; have n0_ := zab.mk (zaw (by repeat (first | (with_reducible first | exact HB.out | apply zac | apply zaa | apply zad) | exact HB.out)) hb); clear HB; have HB := n0_; clear n0_; (try clear hb); (try clear hb2); (try clear hk); (try clear hi)))
        go_meet
        case rel => exact ⟨_, (t231), (by first | rfl | (simp; done) | (simp [*]; done)), H', ⟨by have := HJ7.out; first | omega | exact Nat.le_refl _⟩, ⟨by repeat (first | (with_reducible first | exact HB.out | apply zac | apply zaa | apply zad) | exact HB.out)⟩⟩
       case rest =>
        clear HC11
        try clear c4b0
        try clear c5b0
        try clear c6b0
        try clear c7b0
        try clear c10
        try clear hx228_0
        try clear hx229_0
        try clear p228
        try clear p229
        try clear q228
        try clear q229
        obtain ⟨kq, x24_10, rfl, HA, HJ10, HB⟩ := hcut
        cases kq with
        | zero => exact absurd HA.out (by simp [zaA.j1])
        | succ kj10 =>
         have H := HA.out; clear HA
         simp only [zaA.j1] at H
         by_cases c18 : x24_10 = true
         ·subst c18
          replace H : (some true) = some r := by rw [if_pos rfl] at H; exact H
          obtain rfl := Option.some.inj H
          go_wp2
          go_ret
          exact ⟨by first | rfl | (simp [zam, zal] <;> rfl) | (simp only [← hji3]; first | rfl | (simp [zam, zal] <;> rfl)) | (simp [*, zam, zal] <;> rfl), by repeat (first | (with_reducible first | exact HB.out | apply zac | apply zaa | apply zad) | exact HB.out)⟩
         replace c18 := Bool.eq_false_iff.mpr c18
         subst c18
         replace H : ((zbd.f kj10 (rd l0 (ji3)) (rd l0 a1)).bind fun t232 => (if t232 = true then (zaA.j2 kj10 l0 a1 (rd l0 (ji3)) (rd l0 a1) true) else ((spec_l07Mark.f kj10 (rd l0 a1)).bind fun t233 => (zaA.j2 kj10 l0 a1 (rd l0 (ji3)) (rd l0 a1) t233)))) = some r := by rw [if_neg (show ¬ (false = true) by decide)] at H; exact H
         have HC19 := zab.mk H; clear H
         go_upto_region 7 with (fail)
         go_cut [31] (fun v31 wc => ∃ (kq : Nat) (x31_18 : Bool), v31 = .bool x31_18 ∧ zab (zaA.j2 kq l0 a1 (rd l0 (ji3)) (rd l0 a1) x31_18 = some r) ∧ zab (kq ≤ kj10) ∧ zab (Below w.heap.size w wc))
         case first =>
          have H := HC19.out; clear HC19; replace H := Option.bind_eq_some_iff.mp H
          obtain ⟨t232, A200, H⟩ := H
          replace H : (if t232 = true then (zaA.j2 kj10 l0 a1 (rd l0 (ji3)) (rd l0 a1) true) else ((spec_l07Mark.f kj10 (rd l0 a1)).bind fun t233 => (zaA.j2 kj10 l0 a1 (rd l0 (ji3)) (rd l0 a1) t233))) = some r := H
          have A20 := zab.mk A200; clear A200
          by_cases c21 : t232 = true
          ·subst c21
           replace H : (zaA.j2 kj10 l0 a1 (rd l0 (ji3)) (rd l0 a1) true) = some r := by rw [if_pos rfl] at H; exact H
           have H' := zab.mk H; clear H
           go_wp2_with (first | ((with_reducible refine zae (f := 155) rfl ?_); refine zaB (some 34) rfl rfl Tryd.func155 (by kernel_rfl) rfl #[.int .i64 (rd l0 (ji3)), .int .i64 (rd l0 a1)] rfl (by (try simp only [List.map_toArray, List.map_cons, List.map_nil]); first | done | (simp only [hji3]; rfl) | rfl | (simp only [List.length_drop, List.length_take]; rfl)) ?_; (with_reducible refine (zbd.calls kj10 (rd l0 (ji3)) (rd l0 a1) true _ A20.out).mono ?_); rintro e w' ⟨rfl, ⟨nd, rfl⟩⟩; refine ⟨_, rfl, ?_⟩))
           go_meet
           case rel => exact ⟨_, (true), (by first | rfl | (simp; done) | (simp [*]; done)), H', ⟨by have := HJ7.out; have := HJ10.out; first | omega | exact Nat.le_refl _⟩, ⟨by repeat (first | (with_reducible first | exact HB.out | apply zac | apply zaa | apply zad) | exact HB.out)⟩⟩
          replace c21 := Bool.eq_false_iff.mpr c21
          subst c21
          replace H : ((spec_l07Mark.f kj10 (rd l0 a1)).bind fun t233 => (zaA.j2 kj10 l0 a1 (rd l0 (ji3)) (rd l0 a1) t233)) = some r := by rw [if_neg (show ¬ (false = true) by decide)] at H; exact H
          replace H := Option.bind_eq_some_iff.mp H
          obtain ⟨t233, A220, H⟩ := H
          replace H : (zaA.j2 kj10 l0 a1 (rd l0 (ji3)) (rd l0 a1) t233) = some r := H
          have A22 := zab.mk A220; clear A220; have H' := zab.mk H; clear H
          go_wp2_with (first | ((with_reducible refine zae (f := 155) rfl ?_); refine zaB (some 34) rfl rfl Tryd.func155 (by kernel_rfl) rfl #[.int .i64 (rd l0 (ji3)), .int .i64 (rd l0 a1)] rfl (by (try simp only [List.map_toArray, List.map_cons, List.map_nil]); first | done | (simp only [hji3]; rfl) | rfl | (simp only [List.length_drop, List.length_take]; rfl)) ?_; (with_reducible refine (zbd.calls kj10 (rd l0 (ji3)) (rd l0 a1) false _ A20.out).mono ?_); rintro e w' ⟨rfl, ⟨nd, rfl⟩⟩; refine ⟨_, rfl, ?_⟩) | (go_at_call 156; (with_reducible refine (spec_l07Mark.calls kj10 (rd l0 a1) t233 _ A22.out).mono ?_); rintro e w23 ⟨rfl, hb⟩; have n0_ := zab.mk (zaw (by repeat (first | (with_reducible first | exact HB.out | apply zac | apply zaa | apply zad) | exact HB.out)) hb); clear HB; have HB := n0_; clear n0_; (try clear hb); (try clear hb2); (try clear hk); (try clear hi)))
          go_meet
          case rel => exact ⟨_, (t233), (by first | rfl | (simp; done) | (simp [*]; done)), H', ⟨by have := HJ7.out; have := HJ10.out; first | omega | exact Nat.le_refl _⟩, ⟨by repeat (first | (with_reducible first | exact HB.out | apply zac | apply zaa | apply zad) | exact HB.out)⟩⟩
         case rest =>
          clear HC19
          try clear c4b0
          try clear c5b0
          try clear c6b0
          try clear c7b0
          try clear c10
          try clear c18
          try clear hx228_0
          try clear hx229_0
          try clear p228
          try clear p229
          try clear q228
          try clear q229
          obtain ⟨kq, x31_18, rfl, HA, HJ18, HB⟩ := hcut
          cases kq with
          | zero => exact absurd HA.out (by simp [zaA.j2])
          | succ kj18 =>
           have H := HA.out; clear HA
           simp only [zaA.j2] at H
           by_cases c24 : x31_18 = true
           ·subst c24
            replace H : (some false) = some r := by rw [if_pos rfl] at H; exact H
            obtain rfl := Option.some.inj H
            go_wp2
            go_ret
            exact ⟨by first | rfl | (simp [zam, zal] <;> rfl) | (simp only [← hji3]; first | rfl | (simp [zam, zal] <;> rfl)) | (simp [*, zam, zal] <;> rfl), by repeat (first | (with_reducible first | exact HB.out | apply zac | apply zaa | apply zad) | exact HB.out)⟩
           replace c24 := Bool.eq_false_iff.mpr c24
           subst c24
           replace H : (if (rd l0 a1) ≥ 1536 then (if (rd l0 a1) ≤ 1567 then ((zbL.f kj18 l0 (wrap64 (a1 - 1))).bind fun t234 => (zaA.j3 kj18 l0 a1 (rd l0 (ji3)) (rd l0 a1) t234)) else (zaA.j3 kj18 l0 a1 (rd l0 (ji3)) (rd l0 a1) false)) else (zaA.j3 kj18 l0 a1 (rd l0 (ji3)) (rd l0 a1) false)) = some r := by rw [if_neg (show ¬ (false = true) by decide)] at H; exact H
           have HC25 := zab.mk H; clear H
           go_upto_region 9 with (fail)
           go_cut [39] (fun v39 wc => ∃ (kq : Nat) (x39_24 : Bool), v39 = .bool x39_24 ∧ zab (zaA.j3 kq l0 a1 (rd l0 (ji3)) (rd l0 a1) x39_24 = some r) ∧ zab (kq ≤ kj18) ∧ zab (Below w.heap.size w wc))
           case first =>
            have H := HC25.out; clear HC25
            by_cases c26 : (rd l0 a1) ≥ 1536
            ·rw [if_pos c26] at H
             have c26b0 : decide (1536 ≤ (rd l0 a1)) = true := decide_eq_true c26
             clear c26
             (first | rw [c26b0] | rw [c26b1] | (simp only [zbo, i32_w]; rw [c26b0]) | skip)
             by_cases c27 : (rd l0 a1) ≤ 1567
             ·rw [if_pos c27] at H
              have c27b0 : decide ((rd l0 a1) ≤ 1567) = true := decide_eq_true c27
              clear c27; replace H := Option.bind_eq_some_iff.mp H
              obtain ⟨t234, A280, H⟩ := H
              rw [hji3] at A280
              replace H : (zaA.j3 kj18 l0 a1 (rd l0 (ji3)) (rd l0 a1) t234) = some r := H
              have A28 := zab.mk A280; clear A280; have H' := zab.mk H; clear H
              go_wp2_with (first | (go_at_call 157; (with_reducible refine (zbL.calls kj18 _ _ l0 ji3 t234 _ ?side1 ?side2 A28.out).mono ?_); (case side1 => repeat (first | exact (Kd.C_below HR0.out HB.out) | (with_reducible refine Kd.C_alloc ?_ _) | (with_reducible refine Kd.C_drewN ?_ _) | (with_reducible refine Kd.C_drew ?_))); (case side2 => exact HC0.out); rintro e w' ⟨rfl, ⟨nd, rfl⟩⟩))
              go_meet
              case rel => exact ⟨_, (t234), (by first | rfl | (simp; done) | (simp [*]; done)), H', ⟨by have := HJ7.out; have := HJ10.out; have := HJ18.out; first | omega | exact Nat.le_refl _⟩, ⟨by repeat (first | (with_reducible first | exact HB.out | apply zac | apply zaa | apply zad) | exact HB.out)⟩⟩
             rw [if_neg c27] at H
             have c27b0 : decide ((rd l0 a1) ≤ 1567) = false := decide_eq_false c27
             clear c27; have H' := zab.mk H; clear H
             go_wp2
             go_meet
             case rel => exact ⟨_, (false), (by first | rfl | (simp; done) | (simp [*]; done)), H', ⟨by have := HJ7.out; have := HJ10.out; have := HJ18.out; first | omega | exact Nat.le_refl _⟩, ⟨by repeat (first | (with_reducible first | exact HB.out | apply zac | apply zaa | apply zad) | exact HB.out)⟩⟩
            rw [if_neg c26] at H
            have c26b0 : decide (1536 ≤ (rd l0 a1)) = false := decide_eq_false c26
            clear c26
            (first | rw [c26b0] | rw [c26b1] | (simp only [zbo, i32_w]; rw [c26b0]) | skip)
            have H' := zab.mk H; clear H
            go_wp2
            go_meet
            case rel => exact ⟨_, (false), (by first | rfl | (simp; done) | (simp [*]; done)), H', ⟨by have := HJ7.out; have := HJ10.out; have := HJ18.out; first | omega | exact Nat.le_refl _⟩, ⟨by repeat (first | (with_reducible first | exact HB.out | apply zac | apply zaa | apply zad) | exact HB.out)⟩⟩
           case rest =>
            clear HC25
            try clear c4b0
            try clear c5b0
            try clear c6b0
            try clear c7b0
            try clear c10
            try clear c18
            try clear c24
            try clear hx228_0
            try clear hx229_0
            try clear p228
            try clear p229
            try clear q228
            try clear q229
            obtain ⟨kq, x39_24, rfl, HA, HJ24, HB⟩ := hcut
            cases kq with
            | zero => exact absurd HA.out (by simp [zaA.j3])
            | succ kj24 =>
             have H := HA.out; clear HA
             simp only [zaA.j3] at H
             by_cases c29 : x39_24 = true
             ·subst c29
              replace H : (some false) = some r := by rw [if_pos rfl] at H; exact H
              obtain rfl := Option.some.inj H
              go_wp2
              go_ret
              exact ⟨by first | rfl | (simp [zam, zal] <;> rfl) | (simp only [← hji3]; first | rfl | (simp [zam, zal] <;> rfl)) | (simp [*, zam, zal] <;> rfl), by repeat (first | (with_reducible first | exact HB.out | apply zac | apply zaa | apply zad) | exact HB.out)⟩
             replace c29 := Bool.eq_false_iff.mpr c29
             subst c29
             replace H : (if (rd l0 (ji3)) = 7936 then ((zbt.f (rd l0 a1)).bind fun t235 => (zaA.j4 kj24 l0 a1 (rd l0 (ji3)) (rd l0 a1) t235)) else (zaA.j4 kj24 l0 a1 (rd l0 (ji3)) (rd l0 a1) false)) = some r := by rw [if_neg (show ¬ (false = true) by decide)] at H; exact H
             have HC30 := zab.mk H; clear H
             go_upto_region 11 with (fail)
             go_cut [52] (fun v52 wc => ∃ (kq : Nat) (x52_29 : Bool), v52 = .bool x52_29 ∧ zab (zaA.j4 kq l0 a1 (rd l0 (ji3)) (rd l0 a1) x52_29 = some r) ∧ zab (kq ≤ kj24) ∧ zab (Below w.heap.size w wc))
             case first =>
              have H := HC30.out; clear HC30
              by_cases c31 : (rd l0 (ji3)) = 7936
              ·rw [if_pos c31] at H
               have c31b0 : ((rd l0 (ji3)) == 7936) = true := beq_iff_eq.mpr c31
               have c31b1 : ((rd l0 (ji3)) != 7936) = false := bne_eq_false_iff_eq.mpr c31
               clear c31
               (first | rw [c31b0] | rw [c31b1] | (simp only [zbo, i32_w]; rw [c31b0]) | skip)
               replace H := Option.bind_eq_some_iff.mp H
               obtain ⟨t235, A320, H⟩ := H
               replace H : (zaA.j4 kj24 l0 a1 (rd l0 (ji3)) (rd l0 a1) t235) = some r := H
               have A32 := zab.mk A320; clear A320; have H' := zab.mk H; clear H
               go_wp2_with (first | (go_at_call 158; (with_reducible refine (zbt.calls (rd l0 a1) t235 _ A32.out).mono ?_); rintro e w' ⟨rfl, ⟨nd, rfl⟩⟩))
               go_meet
               case rel => exact ⟨_, (t235), (by first | rfl | (simp; done) | (simp [*]; done)), H', ⟨by have := HJ7.out; have := HJ10.out; have := HJ18.out; have := HJ24.out; first | omega | exact Nat.le_refl _⟩, ⟨by repeat (first | (with_reducible first | exact HB.out | apply zac | apply zaa | apply zad) | exact HB.out)⟩⟩
              rw [if_neg c31] at H
              have c31b0 : ((rd l0 (ji3)) == 7936) = false := beq_eq_false_iff_ne.mpr c31
              have c31b1 : ((rd l0 (ji3)) != 7936) = true := bne_iff_ne.mpr c31
              (first | rw [c31b0] | rw [c31b1] | (simp only [zbo, i32_w]; rw [c31b0]) | skip)
              have H' := zab.mk H; clear H
              go_wp2
              go_meet
              case rel => exact ⟨_, (false), (by first | rfl | (simp; done) | (simp [*]; done)), H', ⟨by have := HJ7.out; have := HJ10.out; have := HJ18.out; have := HJ24.out; first | omega | exact Nat.le_refl _⟩, ⟨by repeat (first | (with_reducible first | exact HB.out | apply zac | apply zaa | apply zad) | exact HB.out)⟩⟩
             case rest =>
              clear HC30
              try clear c4b0
              try clear c5b0
              try clear c6b0
              try clear c7b0
              try clear c10
              try clear c18
              try clear c24
              try clear c29
              try clear hx228_0
              try clear hx229_0
              try clear p228
              try clear p229
              try clear q228
              try clear q229
              obtain ⟨kq, x52_29, rfl, HA, HJ29, HB⟩ := hcut
              cases kq with
              | zero => exact absurd HA.out (by simp [zaA.j4])
              | succ kj29 =>
               have H := HA.out; clear HA
               simp only [zaA.j4] at H
               by_cases c33 : x52_29 = true
               ·subst c33
                replace H : (zaA.l0 kj29 l0 (wrap64 (a1 - 2))) = some r := by rw [if_pos rfl] at H; exact H
                have H' := zab.mk H; clear H
                go_wp2
                go_loopg [7] kj29 (fun kq v7 w' => ∃ (x7_6 : Int), v7 = .int .i64 x7_6 ∧ zab (zaA.l0 kq l0 x7_6 = some r) ∧ zab (kq ≤ kj29) ∧ zab (Below w.heap.size w w'))
                case atStart => exact ⟨(wrap64 (a1 - 2)), (by first | rfl | (simp; done) | (simp [*]; done)), H', ⟨Nat.le_refl _⟩, ⟨by repeat (first | (with_reducible first | exact HB.out | apply zac | apply zaa | apply zad) | exact HB.out)⟩⟩
                case round =>
                 clear H'
                 try clear c4b0
                 try clear c5b0
                 try clear c6b0
                 try clear c7b0
                 try clear c10
                 try clear c18
                 try clear c24
                 try clear c29
                 try clear c33
                 try clear hx228_0
                 try clear hx229_0
                 try clear p228
                 try clear p229
                 try clear q228
                 try clear q229
                 obtain ⟨x7_6, rfl, HA, HK6, HB⟩ := hrel
                 cases gk with
                 | zero => exact absurd HA.out (by simp [zaA.l0])
                 | succ k6 =>
                  have H := HA.out; clear HA
                  simp only [zaA.l0] at H
                  by_cases c34 : x7_6 ≥ 0
                  ·rw [if_pos c34] at H
                   have c34b0 : decide (0 ≤ x7_6) = true := decide_eq_true c34
                   clear c34
                   by_cases c35 : 0 ≤ x7_6
                   ·rw [if_pos c35] at H
                    have c35b0 : decide (0 ≤ x7_6) = true := decide_eq_true c35
                    clear c35
                    by_cases c36 : x7_6 < (l0.length : Int)
                    ·rw [if_pos c36] at H
                     have c36b0 : decide (x7_6 < (l0.length : Int)) = true := decide_eq_true c36
                     clear c36; replace H := Option.bind_eq_some_iff.mp H
                     obtain ⟨t237, A370, H⟩ := H
                     replace H : (if t237 = true then (zaA.l0 k6 l0 (wrap64 (x7_6 - 1))) else (if x7_6 < 0 then (some true) else ((zbt.f (rd l0 x7_6)).bind fun t239 => (some (!t239))))) = some r := H
                     have A37 := zab.mk A370; clear A370
                     by_cases c38 : t237 = true
                     ·subst c38
                      replace H : (zaA.l0 k6 l0 (wrap64 (x7_6 - 1))) = some r := by rw [if_pos rfl] at H; exact H
                      have H' := zab.mk H; clear H
                      have p236 : 0 ≤ (x7_6 : Int) := of_decide_eq_true (by first | (with_reducible assumption) | assumption)
                      have q236 : x7_6 < (l0.length : Int) := of_decide_eq_true (by first | (with_reducible assumption) | assumption)
                      obtain ⟨ad236, e236, hx236_0⟩ := Kd.zbF HR0.out x7_6 p236 q236
                      obtain rfl : ad228 = ad236 := (by injection e236)
                      replace hx236_0 := (HB.out.cell (World.block_lt_of_cell? w _ hx236_0)).trans hx236_0
                      replace p236 := eq_true p236
                      replace q236 := eq_true q236
                      go_wp2_with (first | (go_at_call 156; (with_reducible refine (spec_l07Mark.calls k6 (rd l0 x7_6) true _ A37.out).mono ?_); rintro e w39 ⟨rfl, hb⟩; have n0_ := zab.mk (zaw (by repeat (first | (with_reducible first | exact HB.out | apply zac | apply zaa | apply zad) | exact HB.out)) hb); clear HB; have HB := n0_; clear n0_; (try clear hb); (try clear hb2); (try clear hk); (try clear hi)))
                      go_roundg k6
                      case measure => have := HJ7.out; have := HJ10.out; have := HJ18.out; have := HJ24.out; have := HJ29.out; have := HK6.out; omega
                      case rel => exact ⟨(wrap64 (x7_6 - 1)), (by first | rfl | (simp; done) | (simp [*]; done)), H', ⟨by have := HJ7.out; have := HJ10.out; have := HJ18.out; have := HJ24.out; have := HJ29.out; have := HK6.out; omega⟩, ⟨by repeat (first | (with_reducible first | exact HB.out | apply zac | apply zaa | apply zad) | exact HB.out)⟩⟩
                     replace c38 := Bool.eq_false_iff.mpr c38
                     subst c38
                     replace H : (if x7_6 < 0 then (some true) else ((zbt.f (rd l0 x7_6)).bind fun t239 => (some (!t239)))) = some r := by rw [if_neg (show ¬ (false = true) by decide)] at H; exact H
                     by_cases c40 : x7_6 < 0
                     ·rw [if_pos c40] at H
                      have c40b0 : decide (x7_6 < 0) = true := decide_eq_true c40
                      clear c40; obtain rfl := Option.some.inj H
                      have p236 : 0 ≤ (x7_6 : Int) := of_decide_eq_true (by first | (with_reducible assumption) | assumption)
                      have q236 : x7_6 < (l0.length : Int) := of_decide_eq_true (by first | (with_reducible assumption) | assumption)
                      obtain ⟨ad236, e236, hx236_0⟩ := Kd.zbF HR0.out x7_6 p236 q236
                      obtain rfl : ad228 = ad236 := (by injection e236)
                      replace hx236_0 := (HB.out.cell (World.block_lt_of_cell? w _ hx236_0)).trans hx236_0
                      replace p236 := eq_true p236
                      replace q236 := eq_true q236
                      go_wp2_with (first | (go_at_call 156; (with_reducible refine (spec_l07Mark.calls k6 (rd l0 x7_6) false _ A37.out).mono ?_); rintro e w41 ⟨rfl, hb⟩; have n0_ := zab.mk (zaw (by repeat (first | (with_reducible first | exact HB.out | apply zac | apply zaa | apply zad) | exact HB.out)) hb); clear HB; have HB := n0_; clear n0_; (try clear hb); (try clear hb2); (try clear hk); (try clear hi)))
                      go_ret
                      exact ⟨by first | rfl | (simp [zam, zal] <;> rfl) | (simp only [← hji3]; first | rfl | (simp [zam, zal] <;> rfl)) | (simp [*, zam, zal] <;> rfl), by repeat (first | (with_reducible first | exact HB.out | apply zac | apply zaa | apply zad) | exact HB.out)⟩
                     rw [if_neg c40] at H
                     have c40b0 : decide (x7_6 < 0) = false := decide_eq_false c40
                     clear c40; replace H := Option.bind_eq_some_iff.mp H
                     obtain ⟨t239, A420, H⟩ := H
                     replace H : (some (!t239)) = some r := H
                     have A42 := zab.mk A420; clear A420; obtain rfl := Option.some.inj H
                     have p236 : 0 ≤ (x7_6 : Int) := of_decide_eq_true (by first | (with_reducible assumption) | assumption)
                     have q236 : x7_6 < (l0.length : Int) := of_decide_eq_true (by first | (with_reducible assumption) | assumption)
                     obtain ⟨ad236, e236, hx236_0⟩ := Kd.zbF HR0.out x7_6 p236 q236
                     obtain rfl : ad228 = ad236 := (by injection e236)
                     replace hx236_0 := (HB.out.cell (World.block_lt_of_cell? w _ hx236_0)).trans hx236_0
                     replace p236 := eq_true p236
                     replace q236 := eq_true q236
                     go_wp2_with (first | (go_at_call 156; (with_reducible refine (spec_l07Mark.calls k6 (rd l0 x7_6) false _ A37.out).mono ?_); rintro e w43 ⟨rfl, hb⟩; have n0_ := zab.mk (zaw (by repeat (first | (with_reducible first | exact HB.out | apply zac | apply zaa | apply zad) | exact HB.out)) hb); clear HB; have HB := n0_; clear n0_; (try clear hb); (try clear hb2); (try clear hk); (try clear hi); have p238 : 0 ≤ (x7_6 : Int) := of_decide_eq_true (by first | (with_reducible assumption) | assumption); have q238 : x7_6 < (l0.length : Int) := of_decide_eq_true (by first | (with_reducible assumption) | assumption); obtain ⟨ad238, e238, hx238_0⟩ := Kd.zbF HR0.out x7_6 p238 q238; obtain rfl : ad228 = ad238 := (by injection e238); replace hx238_0 := (HB.out.cell (World.block_lt_of_cell? w _ hx238_0)).trans hx238_0; replace p238 := eq_true p238; replace q238 := eq_true q238) | (go_at_call 158; (with_reducible refine (zbt.calls (rd l0 x7_6) t239 _ A42.out).mono ?_); rintro e w' ⟨rfl, ⟨nd, rfl⟩⟩))
                     go_ret
                     exact ⟨by first | rfl | (simp [zam, zal] <;> rfl) | (simp only [← hji3]; first | rfl | (simp [zam, zal] <;> rfl)) | (simp [*, zam, zal] <;> rfl), by repeat (first | (with_reducible first | exact HB.out | apply zac | apply zaa | apply zad) | exact HB.out)⟩
                    rw [if_neg c36] at H
                    exact absurd H (by simp)
                   rw [if_neg c35] at H
                   exact absurd H (by simp)
                  rw [if_neg c34] at H
                  have c34b0 : decide (0 ≤ x7_6) = false := decide_eq_false c34
                  clear c34
                  by_cases c44 : x7_6 < 0
                  ·rw [if_pos c44] at H
                   have c44b0 : decide (x7_6 < 0) = true := decide_eq_true c44
                   clear c44; obtain rfl := Option.some.inj H
                   go_wp2
                   go_ret
                   exact ⟨by first | rfl | (simp [zam, zal] <;> rfl) | (simp only [← hji3]; first | rfl | (simp [zam, zal] <;> rfl)) | (simp [*, zam, zal] <;> rfl), by repeat (first | (with_reducible first | exact HB.out | apply zac | apply zaa | apply zad) | exact HB.out)⟩
                  rw [if_neg c44] at H
                  have c44b0 : decide (x7_6 < 0) = false := decide_eq_false c44
                  clear c44
                  by_cases c45 : 0 ≤ x7_6
                  ·exact absurd c45 (of_decide_eq_false c34b0)
                  rw [if_neg c45] at H
                  exact absurd H (by simp)
               replace c33 := Bool.eq_false_iff.mpr c33
               subst c33
               replace H : ((zbe.f (rd l0 (ji3))).bind fun t242 => (if t242 = true then ((zbe.f (rd l0 a1)).bind fun t243 => (if t243 = true then ((zbq.f kj29 l0 (wrap64 (a1 - 1))).bind fun t244 => (some ((Int.tmod t244 2) == 0))) else (some true))) else (some true))) = some r := by rw [if_neg (show ¬ (false = true) by decide)] at H; exact H
               replace H := Option.bind_eq_some_iff.mp H
               obtain ⟨t242, A480, H⟩ := H
               replace H : (if t242 = true then ((zbe.f (rd l0 a1)).bind fun t243 => (if t243 = true then ((zbq.f kj29 l0 (wrap64 (a1 - 1))).bind fun t244 => (some ((Int.tmod t244 2) == 0))) else (some true))) else (some true)) = some r := H
               have A48 := zab.mk A480; clear A480
               by_cases c49 : t242 = true
               ·subst c49
                replace H : ((zbe.f (rd l0 a1)).bind fun t243 => (if t243 = true then ((zbq.f kj29 l0 (wrap64 (a1 - 1))).bind fun t244 => (some ((Int.tmod t244 2) == 0))) else (some true))) = some r := by rw [if_pos rfl] at H; exact H
                replace H := Option.bind_eq_some_iff.mp H
                obtain ⟨t243, A500, H⟩ := H
                replace H : (if t243 = true then ((zbq.f kj29 l0 (wrap64 (a1 - 1))).bind fun t244 => (some ((Int.tmod t244 2) == 0))) else (some true)) = some r := H
                have A50 := zab.mk A500; clear A500
                by_cases c51 : t243 = true
                ·subst c51
                 replace H : ((zbq.f kj29 l0 (wrap64 (a1 - 1))).bind fun t244 => (some ((Int.tmod t244 2) == 0))) = some r := by rw [if_pos rfl] at H; exact H
                 replace H := Option.bind_eq_some_iff.mp H
                 obtain ⟨t244, A520, H⟩ := H
                 rw [hji3] at A520
                 replace H : (some ((Int.tmod t244 2) == 0)) = some r := H
                 have A52 := zab.mk A520; clear A520; obtain rfl := Option.some.inj H
                 go_wp2_with (first | ((with_reducible refine zae (f := 159) rfl ?_); refine zaB (some 84) rfl rfl Tryd.func159 (by kernel_rfl) rfl #[.int .i64 (rd l0 (ji3))] rfl (by (try simp only [List.map_toArray, List.map_cons, List.map_nil]); first | done | (simp only [hji3]; rfl) | rfl | (simp only [List.length_drop, List.length_take]; rfl)) ?_; (with_reducible refine (zbe.calls (rd l0 (ji3)) true _ A48.out).mono ?_); rintro e w' ⟨rfl, ⟨nd, rfl⟩⟩; refine ⟨_, rfl, ?_⟩) | (go_at_call 159; (with_reducible refine (zbe.calls (rd l0 a1) true _ A50.out).mono ?_); rintro e w' ⟨rfl, ⟨nd, rfl⟩⟩) | ((with_reducible refine zae (f := 160) rfl ?_); refine zaB (some 92) rfl rfl Tryd.func160 (by kernel_rfl) rfl #[.slice (some ad228) l0.length c0, .int .i64 ji3] rfl (by (try simp only [List.map_toArray, List.map_cons, List.map_nil]); first | done | rfl | (simp only [List.length_drop, List.length_take]; rfl)) ?_; (with_reducible refine (zbq.calls kj29 _ _ l0 ji3 t244 _ ?side1 ?side2 A52.out).mono ?_); (case side1 => repeat (first | exact (Kd.C_below HR0.out (by repeat (first | (with_reducible first | exact HB.out | apply zac | apply zaa | apply zad) | exact HB.out))) | (with_reducible refine Kd.C_alloc ?_ _) | (with_reducible refine Kd.C_drewN ?_ _) | (with_reducible refine Kd.C_drew ?_))); (case side2 => exact HC0.out); rintro e w' ⟨rfl, ⟨nd, rfl⟩⟩; refine ⟨_, rfl, ?_⟩))
                 go_ret
                 exact ⟨by first | rfl | (simp [zam, zal] <;> rfl) | (simp only [← hji3]; first | rfl | (simp [zam, zal] <;> rfl)) | (simp [*, zam, zal] <;> rfl), by repeat (first | (with_reducible first | exact HB.out | apply zac | apply zaa | apply zad) | exact HB.out)⟩
                replace c51 := Bool.eq_false_iff.mpr c51
                subst c51
                replace H : (some true) = some r := by rw [if_neg (show ¬ (false = true) by decide)] at H; exact H
                obtain rfl := Option.some.inj H
                go_wp2_with (first | ((with_reducible refine zae (f := 159) rfl ?_); refine zaB (some 84) rfl rfl Tryd.func159 (by kernel_rfl) rfl #[.int .i64 (rd l0 (ji3))] rfl (by (try simp only [List.map_toArray, List.map_cons, List.map_nil]); first | done | (simp only [hji3]; rfl) | rfl | (simp only [List.length_drop, List.length_take]; rfl)) ?_; (with_reducible refine (zbe.calls (rd l0 (ji3)) true _ A48.out).mono ?_); rintro e w' ⟨rfl, ⟨nd, rfl⟩⟩; refine ⟨_, rfl, ?_⟩) | (go_at_call 159; (with_reducible refine (zbe.calls (rd l0 a1) false _ A50.out).mono ?_); rintro e w' ⟨rfl, ⟨nd, rfl⟩⟩))
                go_ret
                exact ⟨by first | rfl | (simp [zam, zal] <;> rfl) | (simp only [← hji3]; first | rfl | (simp [zam, zal] <;> rfl)) | (simp [*, zam, zal] <;> rfl), by repeat (first | (with_reducible first | exact HB.out | apply zac | apply zaa | apply zad) | exact HB.out)⟩
               replace c49 := Bool.eq_false_iff.mpr c49
               subst c49
               replace H : (some true) = some r := by rw [if_neg (show ¬ (false = true) by decide)] at H; exact H
               obtain rfl := Option.some.inj H
               go_wp2_with (first | ((with_reducible refine zae (f := 159) rfl ?_); refine zaB (some 84) rfl rfl Tryd.func159 (by kernel_rfl) rfl #[.int .i64 (rd l0 (ji3))] rfl (by (try simp only [List.map_toArray, List.map_cons, List.map_nil]); first | done | (simp only [hji3]; rfl) | rfl | (simp only [List.length_drop, List.length_take]; rfl)) ?_; (with_reducible refine (zbe.calls (rd l0 (ji3)) false _ A48.out).mono ?_); rintro e w' ⟨rfl, ⟨nd, rfl⟩⟩; refine ⟨_, rfl, ?_⟩))
               go_ret
               exact ⟨by first | rfl | (simp [zam, zal] <;> rfl) | (simp only [← hji3]; first | rfl | (simp [zam, zal] <;> rfl)) | (simp [*, zam, zal] <;> rfl), by repeat (first | (with_reducible first | exact HB.out | apply zac | apply zaa | apply zad) | exact HB.out)⟩
    rw [if_neg c7] at H
    exact absurd H (by simp)
   rw [if_neg c6] at H
   exact absurd H (by simp)
  rw [if_neg c5] at H
  exact absurd H (by simp)
 rw [if_neg c4] at H
 exact absurd H (by simp)
end Go.Proofs.YtbppeepihlajoaaDoor.P
