/- Written by a program of this session: plain Lean functions for Go functions, and for each the proof that the call comes to what the function says. -/
import Derived.Test.YtbppeepihlajoaaDoorL0
import Derived.Test.YtbppeepihlajoaaDoorL1
namespace Go.Proofs.YtbppeepihlajoaaDoor.P
open Go.RowKit Go.Proofs.YtbppeepihlajoaaDoorW.PrintWords Go.Proofs.YtbppeepihlajoaaDoorW.PrintLast Go.Proofs.YtbppeepihlajoaaDoorW.PrintMore
attribute [local go_sem] max2_int min2_int max_two min_two max_three min_three max_four min_four
set_option linter.unusedVariables false
set_option linter.unusedSimpArgs false
def spec_l08Row_must.f (l0_0 : List Int) (l0_1 : List Int) (l0_2 : List Int) (l0_3 : List Bool) (a1 : Int) : Option (Bool) := if 0 ≤ (wrap64 (a1 - 1)) then (if (wrap64 (a1 - 1)) < (l0_0.length : Int) then (if (rd l0_0 (wrap64 (a1 - 1))) = 10 then (some true) else (if (rd l0_0 (wrap64 (a1 - 1))) = 13 then (if 0 ≤ a1 then (if a1 < (l0_0.length : Int) then (some ((rd l0_0 a1) != 10)) else (none)) else (none)) else (some false))) else (none)) else (none)
set_option maxHeartbeats 8000000 in
set_option maxRecDepth 100000 in
theorem spec_l08Row_must.calls (A0_0 : Option Addr) (c0_0 : Nat) (l0_0 : List Int) (A0_1 : Option Addr) (c0_1 : Nat) (l0_1 : List Int) (A0_2 : Option Addr) (c0_2 : Nat) (l0_2 : List Int) (A0_3 : Option Addr) (c0_3 : Nat) (l0_3 : List Bool) (a1 : Int) (r : Bool) (w : World) (hr0_0 : Kd.C (Kd.int .i64) w A0_0 l0_0.length l0_0) (hc0_0 : l0_0.length ≤ c0_0) (hr0_1 : Kd.C (Kd.int .i64) w A0_1 l0_1.length l0_1) (hc0_1 : l0_1.length ≤ c0_1) (hr0_2 : Kd.C (Kd.int .i64) w A0_2 l0_2.length l0_2) (hc0_2 : l0_2.length ≤ c0_2) (hr0_3 : Kd.C Kd.bool w A0_3 l0_3.length l0_3) (hc0_3 : l0_3.length ≤ c0_3) (h : spec_l08Row_must.f l0_0 l0_1 l0_2 l0_3 a1 = some r) :
  Calls Tryd.prog 116 #[.agg #[.slice A0_0 l0_0.length c0_0, .slice A0_1 l0_1.length c0_1, .slice A0_2 l0_2.length c0_2, .slice A0_3 l0_3.length c0_3], .int .i64 a1] w fun e w' => e = .returned (.bool r) ∧ Below w.heap.size w w' := by
 have hu128 := Tryd.underlying128
 have HR0_0 := zab.mk hr0_0; have HC0_0 := zab.mk hc0_0; clear hr0_0 hc0_0; have HR0_1 := zab.mk hr0_1; have HC0_1 := zab.mk hc0_1; clear hr0_1 hc0_1; have HR0_2 := zab.mk hr0_2; have HC0_2 := zab.mk hc0_2; clear hr0_2 hc0_2; have HR0_3 := zab.mk hr0_3; have HC0_3 := zab.mk hc0_3; clear hr0_3 hc0_3
 have HB := zab.mk (Below.refl w.heap.size w)
 have H : (if 0 ≤ (wrap64 (a1 - 1)) then (if (wrap64 (a1 - 1)) < (l0_0.length : Int) then (if (rd l0_0 (wrap64 (a1 - 1))) = 10 then (some true) else (if (rd l0_0 (wrap64 (a1 - 1))) = 13 then (if 0 ≤ a1 then (if a1 < (l0_0.length : Int) then (some ((rd l0_0 a1) != 10)) else (none)) else (none)) else (some false))) else (none)) else (none)) = some r := h
 clear h
 obtain ⟨ji3, hji3⟩ : ∃ j_ : Int, (wrap64 (a1 - 1)) = j_ := ⟨_, rfl⟩
 replace H : (if 0 ≤ (ji3) then (if (ji3) < (l0_0.length : Int) then (if (rd l0_0 (ji3)) = 10 then (some true) else (if (rd l0_0 (ji3)) = 13 then (if 0 ≤ a1 then (if a1 < (l0_0.length : Int) then (some ((rd l0_0 a1) != 10)) else (none)) else (none)) else (some false))) else (none)) else (none)) = some r := by first | (rw [hji3] at H; exact H) | (simp only [hji3] at H ⊢; exact H)
 have hji3w : (IntKind.i64.wrap (a1 - 1)) = ji3 := (zbo _).trans hji3
 by_cases c4 : 0 ≤ (ji3)
 ·rw [if_pos c4] at H
  have c4b0 : decide (0 ≤ (ji3)) = true := decide_eq_true c4
  clear c4
  by_cases c5 : (ji3) < (l0_0.length : Int)
  ·rw [if_pos c5] at H
   have c5b0 : decide ((ji3) < (l0_0.length : Int)) = true := decide_eq_true c5
   clear c5
   by_cases c6 : (rd l0_0 (ji3)) = 10
   ·rw [if_pos c6] at H
    have c6b0 : ((rd l0_0 (ji3)) == 10) = true := beq_iff_eq.mpr c6
    have c6b1 : ((rd l0_0 (ji3)) != 10) = false := bne_eq_false_iff_eq.mpr c6
    clear c6; obtain rfl := Option.some.inj H
    go_enter Tryd.func116, Tryd.ntmps116
    go_wp2_with (first | ((with_reducible refine zbC (N := 2) rfl ?_); refine box_event ?hg (N := 2) ?hd (cs := #[.slice A0_0 l0_0.length c0_0, .slice A0_1 l0_1.length c0_1, .slice A0_2 l0_2.length c0_2, .slice A0_3 l0_3.length c0_3]) (t := 128) ?hr ?_; (case hd => rfl); (case hg => rfl); (case hr => first | (go_simp; done) | (go_simp; rfl)); intro gb215 hg w7 hbox hb; have n0_ := zab.mk (zaw (by repeat (first | (with_reducible first | exact HB.out | apply zac | apply zaa | apply zad) | exact HB.out)) hb); have n1_ := zab.mk (hbox); have n2_ := zab.mk ((by rw [hg]; exact (zaC (by repeat (first | (with_reducible first | exact HB.out | apply zac | apply zaa | apply zad) | exact HB.out))) : w.heap.size ≤ gb215)); have n3_ := zab.mk ((by rw [hg]; exact (zaC (by repeat (first | (with_reducible first | exact HB.out | apply zac | apply zaa | apply zad) | exact HB.out))) : w.heap.size ≤ gb215)); clear HB; have HB := n0_; have BK215 := n1_; have GW215 := n2_; have GE215 := n3_; clear n0_ n1_ n2_ n3_ hb hbox hg; have hcz8_0 : w7.cell? ⟨gb215, 0, none⟩ = some (.slice A0_0 l0_0.length c0_0) := (zak BK215.out 0).trans rfl; have hcz8_1 : w7.cell? ⟨gb215, 1, none⟩ = some (.slice A0_1 l0_1.length c0_1) := (zak BK215.out 1).trans rfl; have hcz8_2 : w7.cell? ⟨gb215, 2, none⟩ = some (.slice A0_2 l0_2.length c0_2) := (zak BK215.out 2).trans rfl; have hcz8_3 : w7.cell? ⟨gb215, 3, none⟩ = some (.slice A0_3 l0_3.length c0_3) := (zak BK215.out 3).trans rfl; have hfz8_0 := zaf BK215.out 0; have hfz8_1 := zaf BK215.out 1; have hfz8_2 := zaf BK215.out 2; have hfz8_3 := zaf BK215.out 3; have p216 : 0 ≤ ((ji3) : Int) := of_decide_eq_true (by first | (with_reducible assumption) | assumption); have q216 : (ji3) < (l0_0.length : Int) := of_decide_eq_true (by first | (with_reducible assumption) | assumption); obtain ⟨ad216, e216, hx216_0⟩ := Kd.zbF HR0_0.out (ji3) p216 q216; cases e216; replace hx216_0 := (HB.out.cell (World.block_lt_of_cell? w _ hx216_0)).trans hx216_0; replace p216 := eq_true p216; replace q216 := eq_true q216))
    go_ret
    exact ⟨by first | rfl | (simp [zam, zal] <;> rfl) | (simp only [← hji3]; first | rfl | (simp [zam, zal] <;> rfl)) | (simp [*, zam, zal] <;> rfl), by repeat (first | (with_reducible first | exact HB.out | apply zac | apply zaa | apply zad | refine zas ?_ GE215.out) | exact HB.out)⟩
   rw [if_neg c6] at H
   have c6b0 : ((rd l0_0 (ji3)) == 10) = false := beq_eq_false_iff_ne.mpr c6
   have c6b1 : ((rd l0_0 (ji3)) != 10) = true := bne_iff_ne.mpr c6
   by_cases c9 : (rd l0_0 (ji3)) = 13
   ·rw [if_pos c9] at H
    have c9b0 : ((rd l0_0 (ji3)) == 13) = true := beq_iff_eq.mpr c9
    have c9b1 : ((rd l0_0 (ji3)) != 13) = false := bne_eq_false_iff_eq.mpr c9
    clear c9
    by_cases c10 : 0 ≤ a1
    ·rw [if_pos c10] at H
     have c10b0 : decide (0 ≤ a1) = true := decide_eq_true c10
     clear c10
     by_cases c11 : a1 < (l0_0.length : Int)
     ·rw [if_pos c11] at H
      have c11b0 : decide (a1 < (l0_0.length : Int)) = true := decide_eq_true c11
      clear c11; obtain rfl := Option.some.inj H
      go_enter Tryd.func116, Tryd.ntmps116
      go_wp2_with (first | ((with_reducible refine zbC (N := 2) rfl ?_); refine box_event ?hg (N := 2) ?hd (cs := #[.slice A0_0 l0_0.length c0_0, .slice A0_1 l0_1.length c0_1, .slice A0_2 l0_2.length c0_2, .slice A0_3 l0_3.length c0_3]) (t := 128) ?hr ?_; (case hd => rfl); (case hg => rfl); (case hr => first | (go_simp; done) | (go_simp; rfl)); intro gb215 hg w12 hbox hb; have n0_ := zab.mk (zaw (by repeat (first | (with_reducible first | exact HB.out | apply zac | apply zaa | apply zad) | exact HB.out)) hb); have n1_ := zab.mk (hbox); have n2_ := zab.mk ((by rw [hg]; exact (zaC (by repeat (first | (with_reducible first | exact HB.out | apply zac | apply zaa | apply zad) | exact HB.out))) : w.heap.size ≤ gb215)); have n3_ := zab.mk ((by rw [hg]; exact (zaC (by repeat (first | (with_reducible first | exact HB.out | apply zac | apply zaa | apply zad) | exact HB.out))) : w.heap.size ≤ gb215)); clear HB; have HB := n0_; have BK215 := n1_; have GW215 := n2_; have GE215 := n3_; clear n0_ n1_ n2_ n3_ hb hbox hg; have hcz13_0 : w12.cell? ⟨gb215, 0, none⟩ = some (.slice A0_0 l0_0.length c0_0) := (zak BK215.out 0).trans rfl; have hcz13_1 : w12.cell? ⟨gb215, 1, none⟩ = some (.slice A0_1 l0_1.length c0_1) := (zak BK215.out 1).trans rfl; have hcz13_2 : w12.cell? ⟨gb215, 2, none⟩ = some (.slice A0_2 l0_2.length c0_2) := (zak BK215.out 2).trans rfl; have hcz13_3 : w12.cell? ⟨gb215, 3, none⟩ = some (.slice A0_3 l0_3.length c0_3) := (zak BK215.out 3).trans rfl; have hfz13_0 := zaf BK215.out 0; have hfz13_1 := zaf BK215.out 1; have hfz13_2 := zaf BK215.out 2; have hfz13_3 := zaf BK215.out 3; have p216 : 0 ≤ ((ji3) : Int) := of_decide_eq_true (by first | (with_reducible assumption) | assumption); have q216 : (ji3) < (l0_0.length : Int) := of_decide_eq_true (by first | (with_reducible assumption) | assumption); obtain ⟨ad216, e216, hx216_0⟩ := Kd.zbF HR0_0.out (ji3) p216 q216; cases e216; replace hx216_0 := (HB.out.cell (World.block_lt_of_cell? w _ hx216_0)).trans hx216_0; replace p216 := eq_true p216; replace q216 := eq_true q216; have p217 : 0 ≤ ((ji3) : Int) := of_decide_eq_true (by first | (with_reducible assumption) | assumption); have q217 : (ji3) < (l0_0.length : Int) := of_decide_eq_true (by first | (with_reducible assumption) | assumption); obtain ⟨ad217, e217, hx217_0⟩ := Kd.zbF HR0_0.out (ji3) p217 q217; obtain rfl : ad216 = ad217 := (by injection e217); replace hx217_0 := (HB.out.cell (World.block_lt_of_cell? w _ hx217_0)).trans hx217_0; replace p217 := eq_true p217; replace q217 := eq_true q217; have p218 : 0 ≤ (a1 : Int) := of_decide_eq_true (by first | (with_reducible assumption) | assumption); have q218 : a1 < (l0_0.length : Int) := of_decide_eq_true (by first | (with_reducible assumption) | assumption); obtain ⟨ad218, e218, hx218_0⟩ := Kd.zbF HR0_0.out a1 p218 q218; obtain rfl : ad216 = ad218 := (by injection e218); replace hx218_0 := (HB.out.cell (World.block_lt_of_cell? w _ hx218_0)).trans hx218_0; replace p218 := eq_true p218; replace q218 := eq_true q218))
      go_ret
      exact ⟨by first | rfl | (simp [zam, zal] <;> rfl) | (simp only [← hji3]; first | rfl | (simp [zam, zal] <;> rfl)) | (simp [*, zam, zal] <;> rfl), by repeat (first | (with_reducible first | exact HB.out | apply zac | apply zaa | apply zad | refine zas ?_ GE215.out) | exact HB.out)⟩
     rw [if_neg c11] at H
     exact absurd H (by simp)
    rw [if_neg c10] at H
    exact absurd H (by simp)
   rw [if_neg c9] at H
   have c9b0 : ((rd l0_0 (ji3)) == 13) = false := beq_eq_false_iff_ne.mpr c9
   have c9b1 : ((rd l0_0 (ji3)) != 13) = true := bne_iff_ne.mpr c9
   obtain rfl := Option.some.inj H
   go_enter Tryd.func116, Tryd.ntmps116
   go_wp2_with (first | ((with_reducible refine zbC (N := 2) rfl ?_); refine box_event ?hg (N := 2) ?hd (cs := #[.slice A0_0 l0_0.length c0_0, .slice A0_1 l0_1.length c0_1, .slice A0_2 l0_2.length c0_2, .slice A0_3 l0_3.length c0_3]) (t := 128) ?hr ?_; (case hd => rfl); (case hg => rfl); (case hr => first | (go_simp; done) | (go_simp; rfl)); intro gb215 hg w14 hbox hb; have n0_ := zab.mk (zaw (by repeat (first | (with_reducible first | exact HB.out | apply zac | apply zaa | apply zad) | exact HB.out)) hb); have n1_ := zab.mk (hbox); have n2_ := zab.mk ((by rw [hg]; exact (zaC (by repeat (first | (with_reducible first | exact HB.out | apply zac | apply zaa | apply zad) | exact HB.out))) : w.heap.size ≤ gb215)); have n3_ := zab.mk ((by rw [hg]; exact (zaC (by repeat (first | (with_reducible first | exact HB.out | apply zac | apply zaa | apply zad) | exact HB.out))) : w.heap.size ≤ gb215)); clear HB; have HB := n0_; have BK215 := n1_; have GW215 := n2_; have GE215 := n3_; clear n0_ n1_ n2_ n3_ hb hbox hg; have hcz15_0 : w14.cell? ⟨gb215, 0, none⟩ = some (.slice A0_0 l0_0.length c0_0) := (zak BK215.out 0).trans rfl; have hcz15_1 : w14.cell? ⟨gb215, 1, none⟩ = some (.slice A0_1 l0_1.length c0_1) := (zak BK215.out 1).trans rfl; have hcz15_2 : w14.cell? ⟨gb215, 2, none⟩ = some (.slice A0_2 l0_2.length c0_2) := (zak BK215.out 2).trans rfl; have hcz15_3 : w14.cell? ⟨gb215, 3, none⟩ = some (.slice A0_3 l0_3.length c0_3) := (zak BK215.out 3).trans rfl; have hfz15_0 := zaf BK215.out 0; have hfz15_1 := zaf BK215.out 1; have hfz15_2 := zaf BK215.out 2; have hfz15_3 := zaf BK215.out 3; have p216 : 0 ≤ ((ji3) : Int) := of_decide_eq_true (by first | (with_reducible assumption) | assumption); have q216 : (ji3) < (l0_0.length : Int) := of_decide_eq_true (by first | (with_reducible assumption) | assumption); obtain ⟨ad216, e216, hx216_0⟩ := Kd.zbF HR0_0.out (ji3) p216 q216; cases e216; replace hx216_0 := (HB.out.cell (World.block_lt_of_cell? w _ hx216_0)).trans hx216_0; replace p216 := eq_true p216; replace q216 := eq_true q216; have p217 : 0 ≤ ((ji3) : Int) := of_decide_eq_true (by first | (with_reducible assumption) | assumption); have q217 : (ji3) < (l0_0.length : Int) := of_decide_eq_true (by first | (with_reducible assumption) | assumption); obtain ⟨ad217, e217, hx217_0⟩ := Kd.zbF HR0_0.out (ji3) p217 q217; obtain rfl : ad216 = ad217 := (by injection e217); replace hx217_0 := (HB.out.cell (World.block_lt_of_cell? w _ hx217_0)).trans hx217_0; replace p217 := eq_true p217; replace q217 := eq_true q217))
   go_ret
   exact ⟨by first | rfl | (simp [zam, zal] <;> rfl) | (simp only [← hji3]; first | rfl | (simp [zam, zal] <;> rfl)) | (simp [*, zam, zal] <;> rfl), by repeat (first | (with_reducible first | exact HB.out | apply zac | apply zaa | apply zad | refine zas ?_ GE215.out) | exact HB.out)⟩
  rw [if_neg c5] at H
  exact absurd H (by simp)
 rw [if_neg c4] at H
 exact absurd H (by simp)
def zbD.f (k : Nat) (a0 : Int) : Option (Bool) := (zbn.f k a0).bind fun t219 => (if t219 = 1 then (some true) else (some (a0 == 7954)))
set_option maxHeartbeats 8000000 in
set_option maxRecDepth 100000 in
theorem zbD.calls (k : Nat) (a0 : Int) (r : Bool) (w : World) (h : zbD.f k a0 = some r) :
  Calls Tryd.prog 154 #[.int .i64 a0] w fun e w' => e = .returned (.bool r) ∧ Below w.heap.size w w' := by
 have HB := zab.mk (Below.refl w.heap.size w)
 have H : ((zbn.f k a0).bind fun t219 => (if t219 = 1 then (some true) else (some (a0 == 7954)))) = some r := h
 clear h; replace H := Option.bind_eq_some_iff.mp H
 obtain ⟨t219, A20, H⟩ := H
 replace H : (if t219 = 1 then (some true) else (some (a0 == 7954))) = some r := H
 have A2 := zab.mk A20; clear A20
 by_cases c3 : t219 = 1
 ·rw [if_pos c3] at H
  have c3b0 : (t219 == 1) = true := beq_iff_eq.mpr c3
  have c3b1 : (t219 != 1) = false := bne_eq_false_iff_eq.mpr c3
  clear c3; obtain rfl := Option.some.inj H
  go_enter Tryd.func154, Tryd.ntmps154
  go_wp2_with (first | ((with_reducible refine zae (f := 105) rfl ?_); refine zaB (some 4) rfl rfl Tryd.func105 (by kernel_rfl) rfl #[.int .i64 a0] rfl (by (try simp only [List.map_toArray, List.map_cons, List.map_nil]); first | done | rfl | (simp only [List.length_drop, List.length_take]; rfl)) ?_; (with_reducible refine (zbn.calls k a0 t219 _ A2.out).mono ?_); rintro e w4 ⟨rfl, hb⟩; refine ⟨_, rfl, ?_⟩; have n0_ := zab.mk (zaw (by repeat (first | (with_reducible first | exact HB.out | apply zac | apply zaa | apply zad) | exact HB.out)) hb); clear HB; have HB := n0_; clear n0_; (try clear hb); (try clear hb2); (try clear hk); (try clear hi)))
  go_ret
  exact ⟨by first | rfl | (simp [zam, zal] <;> rfl) | (simp [*, zam, zal] <;> rfl), by repeat (first | (with_reducible first | exact HB.out | apply zac | apply zaa | apply zad) | exact HB.out)⟩
 rw [if_neg c3] at H
 have c3b0 : (t219 == 1) = false := beq_eq_false_iff_ne.mpr c3
 have c3b1 : (t219 != 1) = true := bne_iff_ne.mpr c3
 obtain rfl := Option.some.inj H
 go_enter Tryd.func154, Tryd.ntmps154
 go_wp2_with (first | ((with_reducible refine zae (f := 105) rfl ?_); refine zaB (some 4) rfl rfl Tryd.func105 (by kernel_rfl) rfl #[.int .i64 a0] rfl (by (try simp only [List.map_toArray, List.map_cons, List.map_nil]); first | done | rfl | (simp only [List.length_drop, List.length_take]; rfl)) ?_; (with_reducible refine (zbn.calls k a0 t219 _ A2.out).mono ?_); rintro e w5 ⟨rfl, hb⟩; refine ⟨_, rfl, ?_⟩; have n0_ := zab.mk (zaw (by repeat (first | (with_reducible first | exact HB.out | apply zac | apply zaa | apply zad) | exact HB.out)) hb); clear HB; have HB := n0_; clear n0_; (try clear hb); (try clear hb2); (try clear hk); (try clear hi)))
 go_ret
 exact ⟨by first | rfl | (simp [zam, zal] <;> rfl) | (simp [*, zam, zal] <;> rfl), by repeat (first | (with_reducible first | exact HB.out | apply zac | apply zaa | apply zad) | exact HB.out)⟩
mutual
def zaJ.j0 : Nat → Int → Bool → Option (Int)
 | 0, _, _ => none
 | k + 1, x0, x3 => if x3 = true then (some 1) else (if x0 ≥ 1824 then (zaJ.j1 k x0 (decide (x0 ≤ 1844))) else (zaJ.j1 k x0 false))
def zaJ.j1 : Nat → Int → Bool → Option (Int)
 | 0, _, _ => none
 | k + 1, x0, x10 => if x10 = true then (some 2) else (if x0 ≥ 1857 then (zaJ.j2 k x0 (decide (x0 ≤ 1883))) else (zaJ.j2 k x0 false))
def zaJ.j2 : Nat → Int → Bool → Option (Int)
 | 0, _, _ => none
 | k + 1, x0, x17 => if x17 = true then (some 3) else (if x0 ≥ 12288 then (if x0 ≤ 23459 then (zaJ.j3 k x0 ((Int.tmod (wrap64 (x0 - 12288)) 28) == 0)) else (zaJ.j3 k x0 false)) else (zaJ.j3 k x0 false))
def zaJ.j3 : Nat → Int → Bool → Option (Int)
 | 0, _, _ => none
 | k + 1, x0, x24 => if x24 = true then (some 4) else (if x0 ≥ 12288 then (if x0 ≤ 23459 then (some 5) else (some 0)) else (some 0))
end
def zaJ.f (k : Nat) (a0 : Int) : Option (Int) := if a0 ≥ 1792 then (zaJ.j0 k a0 (decide (a0 ≤ 1810))) else (zaJ.j0 k a0 false)
set_option maxHeartbeats 8000000 in
set_option maxRecDepth 100000 in
theorem zaJ.calls (k : Nat) (a0 : Int) (r : Int) (w : World) (h : zaJ.f k a0 = some r) :
  Calls Tryd.prog 196 #[.int .i64 a0] w fun e w' => e = .returned (.int .i64 r) ∧ zau w w' := by
 have H : (if a0 ≥ 1792 then (zaJ.j0 k a0 (decide (a0 ≤ 1810))) else (zaJ.j0 k a0 false)) = some r := h
 clear h; have HC2 := zab.mk H; clear H
 go_enter Tryd.func196, Tryd.ntmps196
 go_upto_region 1 with (fail)
 go_cut [3] (fun v3 wc => ∃ (kq : Nat) (x3_1 : Bool), v3 = .bool x3_1 ∧ zab (zaJ.j0 kq a0 x3_1 = some r) ∧ zab (kq ≤ k) ∧ zau w wc)
 case first =>
  have H := HC2.out; clear HC2
  by_cases c3 : a0 ≥ 1792
  ·rw [if_pos c3] at H
   have c3b0 : decide (1792 ≤ a0) = true := decide_eq_true c3
   clear c3
   (first | rw [c3b0] | rw [c3b1] | (simp only [zbo, i32_w]; rw [c3b0]) | skip)
   have H' := zab.mk H; clear H
   go_wp2
   go_meet
   case rel => exact ⟨_, (decide (a0 ≤ 1810)), (by first | rfl | (simp; done) | (simp [*]; done)), H', ⟨by first | omega | exact Nat.le_refl _⟩, by repeat (first | exact zau.refl _ | apply zau.step)⟩
  rw [if_neg c3] at H
  have c3b0 : decide (1792 ≤ a0) = false := decide_eq_false c3
  clear c3
  (first | rw [c3b0] | rw [c3b1] | (simp only [zbo, i32_w]; rw [c3b0]) | skip)
  have H' := zab.mk H; clear H
  go_wp2
  go_meet
  case rel => exact ⟨_, (false), (by first | rfl | (simp; done) | (simp [*]; done)), H', ⟨by first | omega | exact Nat.le_refl _⟩, by repeat (first | exact zau.refl _ | apply zau.step)⟩
 case rest =>
  clear HC2
  obtain ⟨kq, x3_1, rfl, HA, HJ1, ⟨mc1, rfl⟩⟩ := hcut
  cases kq with
  | zero => exact absurd HA.out (by simp [zaJ.j0])
  | succ kj1 =>
   have H := HA.out; clear HA
   simp only [zaJ.j0] at H
   by_cases c4 : x3_1 = true
   ·subst c4
    replace H : (some 1) = some r := by rw [if_pos rfl] at H; exact H
    obtain rfl := Option.some.inj H
    go_wp2
    go_ret
    exact ⟨by first | rfl | (simp; done) | (simp [*]; done), by repeat (first | exact zau.refl _ | apply zau.step)⟩
   replace c4 := Bool.eq_false_iff.mpr c4
   subst c4
   replace H : (if a0 ≥ 1824 then (zaJ.j1 kj1 a0 (decide (a0 ≤ 1844))) else (zaJ.j1 kj1 a0 false)) = some r := by rw [if_neg (show ¬ (false = true) by decide)] at H; exact H
   have HC5 := zab.mk H; clear H
   go_upto_region 3 with (fail)
   go_cut [10] (fun v10 wc => ∃ (kq : Nat) (x10_4 : Bool), v10 = .bool x10_4 ∧ zab (zaJ.j1 kq a0 x10_4 = some r) ∧ zab (kq ≤ kj1) ∧ zau w wc)
   case first =>
    have H := HC5.out; clear HC5
    by_cases c6 : a0 ≥ 1824
    ·rw [if_pos c6] at H
     have c6b0 : decide (1824 ≤ a0) = true := decide_eq_true c6
     clear c6
     (first | rw [c6b0] | rw [c6b1] | (simp only [zbo, i32_w]; rw [c6b0]) | skip)
     have H' := zab.mk H; clear H
     go_wp2
     go_meet
     case rel => exact ⟨_, (decide (a0 ≤ 1844)), (by first | rfl | (simp; done) | (simp [*]; done)), H', ⟨by have := HJ1.out; first | omega | exact Nat.le_refl _⟩, by repeat (first | exact zau.refl _ | apply zau.step)⟩
    rw [if_neg c6] at H
    have c6b0 : decide (1824 ≤ a0) = false := decide_eq_false c6
    clear c6
    (first | rw [c6b0] | rw [c6b1] | (simp only [zbo, i32_w]; rw [c6b0]) | skip)
    have H' := zab.mk H; clear H
    go_wp2
    go_meet
    case rel => exact ⟨_, (false), (by first | rfl | (simp; done) | (simp [*]; done)), H', ⟨by have := HJ1.out; first | omega | exact Nat.le_refl _⟩, by repeat (first | exact zau.refl _ | apply zau.step)⟩
   case rest =>
    clear HC5
    try clear c4
    obtain ⟨kq, x10_4, rfl, HA, HJ4, ⟨mc4, rfl⟩⟩ := hcut
    cases kq with
    | zero => exact absurd HA.out (by simp [zaJ.j1])
    | succ kj4 =>
     have H := HA.out; clear HA
     simp only [zaJ.j1] at H
     by_cases c7 : x10_4 = true
     ·subst c7
      replace H : (some 2) = some r := by rw [if_pos rfl] at H; exact H
      obtain rfl := Option.some.inj H
      go_wp2
      go_ret
      exact ⟨by first | rfl | (simp; done) | (simp [*]; done), by repeat (first | exact zau.refl _ | apply zau.step)⟩
     replace c7 := Bool.eq_false_iff.mpr c7
     subst c7
     replace H : (if a0 ≥ 1857 then (zaJ.j2 kj4 a0 (decide (a0 ≤ 1883))) else (zaJ.j2 kj4 a0 false)) = some r := by rw [if_neg (show ¬ (false = true) by decide)] at H; exact H
     have HC8 := zab.mk H; clear H
     go_upto_region 5 with (fail)
     go_cut [17] (fun v17 wc => ∃ (kq : Nat) (x17_7 : Bool), v17 = .bool x17_7 ∧ zab (zaJ.j2 kq a0 x17_7 = some r) ∧ zab (kq ≤ kj4) ∧ zau w wc)
     case first =>
      have H := HC8.out; clear HC8
      by_cases c9 : a0 ≥ 1857
      ·rw [if_pos c9] at H
       have c9b0 : decide (1857 ≤ a0) = true := decide_eq_true c9
       clear c9
       (first | rw [c9b0] | rw [c9b1] | (simp only [zbo, i32_w]; rw [c9b0]) | skip)
       have H' := zab.mk H; clear H
       go_wp2
       go_meet
       case rel => exact ⟨_, (decide (a0 ≤ 1883)), (by first | rfl | (simp; done) | (simp [*]; done)), H', ⟨by have := HJ1.out; have := HJ4.out; first | omega | exact Nat.le_refl _⟩, by repeat (first | exact zau.refl _ | apply zau.step)⟩
      rw [if_neg c9] at H
      have c9b0 : decide (1857 ≤ a0) = false := decide_eq_false c9
      clear c9
      (first | rw [c9b0] | rw [c9b1] | (simp only [zbo, i32_w]; rw [c9b0]) | skip)
      have H' := zab.mk H; clear H
      go_wp2
      go_meet
      case rel => exact ⟨_, (false), (by first | rfl | (simp; done) | (simp [*]; done)), H', ⟨by have := HJ1.out; have := HJ4.out; first | omega | exact Nat.le_refl _⟩, by repeat (first | exact zau.refl _ | apply zau.step)⟩
     case rest =>
      clear HC8
      try clear c4
      try clear c7
      obtain ⟨kq, x17_7, rfl, HA, HJ7, ⟨mc7, rfl⟩⟩ := hcut
      cases kq with
      | zero => exact absurd HA.out (by simp [zaJ.j2])
      | succ kj7 =>
       have H := HA.out; clear HA
       simp only [zaJ.j2] at H
       by_cases c10 : x17_7 = true
       ·subst c10
        replace H : (some 3) = some r := by rw [if_pos rfl] at H; exact H
        obtain rfl := Option.some.inj H
        go_wp2
        go_ret
        exact ⟨by first | rfl | (simp; done) | (simp [*]; done), by repeat (first | exact zau.refl _ | apply zau.step)⟩
       replace c10 := Bool.eq_false_iff.mpr c10
       subst c10
       replace H : (if a0 ≥ 12288 then (if a0 ≤ 23459 then (zaJ.j3 kj7 a0 ((Int.tmod (wrap64 (a0 - 12288)) 28) == 0)) else (zaJ.j3 kj7 a0 false)) else (zaJ.j3 kj7 a0 false)) = some r := by rw [if_neg (show ¬ (false = true) by decide)] at H; exact H
       have HC11 := zab.mk H; clear H
       go_upto_region 7 with (fail)
       go_cut [24] (fun v24 wc => ∃ (kq : Nat) (x24_10 : Bool), v24 = .bool x24_10 ∧ zab (zaJ.j3 kq a0 x24_10 = some r) ∧ zab (kq ≤ kj7) ∧ zau w wc)
       case first =>
        have H := HC11.out; clear HC11
        by_cases c12 : a0 ≥ 12288
        ·rw [if_pos c12] at H
         have c12b0 : decide (12288 ≤ a0) = true := decide_eq_true c12
         clear c12
         (first | rw [c12b0] | rw [c12b1] | (simp only [zbo, i32_w]; rw [c12b0]) | skip)
         by_cases c13 : a0 ≤ 23459
         ·rw [if_pos c13] at H
          have c13b0 : decide (a0 ≤ 23459) = true := decide_eq_true c13
          clear c13; have H' := zab.mk H; clear H
          go_wp2
          go_meet
          case rel => exact ⟨_, (((Int.tmod (wrap64 (a0 - 12288)) 28) == 0)), (by first | rfl | (simp; done) | (simp [*]; done)), H', ⟨by have := HJ1.out; have := HJ4.out; have := HJ7.out; first | omega | exact Nat.le_refl _⟩, by repeat (first | exact zau.refl _ | apply zau.step)⟩
         rw [if_neg c13] at H
         have c13b0 : decide (a0 ≤ 23459) = false := decide_eq_false c13
         clear c13; have H' := zab.mk H; clear H
         go_wp2
         go_meet
         case rel => exact ⟨_, (false), (by first | rfl | (simp; done) | (simp [*]; done)), H', ⟨by have := HJ1.out; have := HJ4.out; have := HJ7.out; first | omega | exact Nat.le_refl _⟩, by repeat (first | exact zau.refl _ | apply zau.step)⟩
        rw [if_neg c12] at H
        have c12b0 : decide (12288 ≤ a0) = false := decide_eq_false c12
        clear c12
        (first | rw [c12b0] | rw [c12b1] | (simp only [zbo, i32_w]; rw [c12b0]) | skip)
        have H' := zab.mk H; clear H
        go_wp2
        go_meet
        case rel => exact ⟨_, (false), (by first | rfl | (simp; done) | (simp [*]; done)), H', ⟨by have := HJ1.out; have := HJ4.out; have := HJ7.out; first | omega | exact Nat.le_refl _⟩, by repeat (first | exact zau.refl _ | apply zau.step)⟩
       case rest =>
        clear HC11
        try clear c4
        try clear c7
        try clear c10
        obtain ⟨kq, x24_10, rfl, HA, HJ10, ⟨mc10, rfl⟩⟩ := hcut
        cases kq with
        | zero => exact absurd HA.out (by simp [zaJ.j3])
        | succ kj10 =>
         have H := HA.out; clear HA
         simp only [zaJ.j3] at H
         by_cases c14 : x24_10 = true
         ·subst c14
          replace H : (some 4) = some r := by rw [if_pos rfl] at H; exact H
          obtain rfl := Option.some.inj H
          go_wp2
          go_ret
          exact ⟨by first | rfl | (simp; done) | (simp [*]; done), by repeat (first | exact zau.refl _ | apply zau.step)⟩
         replace c14 := Bool.eq_false_iff.mpr c14
         subst c14
         replace H : (if a0 ≥ 12288 then (if a0 ≤ 23459 then (some 5) else (some 0)) else (some 0)) = some r := by rw [if_neg (show ¬ (false = true) by decide)] at H; exact H
         by_cases c15 : a0 ≥ 12288
         ·rw [if_pos c15] at H
          have c15b0 : decide (12288 ≤ a0) = true := decide_eq_true c15
          clear c15
          by_cases c16 : a0 ≤ 23459
          ·rw [if_pos c16] at H
           have c16b0 : decide (a0 ≤ 23459) = true := decide_eq_true c16
           clear c16; obtain rfl := Option.some.inj H
           go_wp2
           go_ret
           exact ⟨by first | rfl | (simp; done) | (simp [*]; done), by repeat (first | exact zau.refl _ | apply zau.step)⟩
          rw [if_neg c16] at H
          have c16b0 : decide (a0 ≤ 23459) = false := decide_eq_false c16
          clear c16; obtain rfl := Option.some.inj H
          go_wp2
          go_ret
          exact ⟨by first | rfl | (simp; done) | (simp [*]; done), by repeat (first | exact zau.refl _ | apply zau.step)⟩
         rw [if_neg c15] at H
         have c15b0 : decide (12288 ≤ a0) = false := decide_eq_false c15
         clear c15; obtain rfl := Option.some.inj H
         go_wp2
         go_ret
         exact ⟨by first | rfl | (simp; done) | (simp [*]; done), by repeat (first | exact zau.refl _ | apply zau.step)⟩
end Go.Proofs.YtbppeepihlajoaaDoor.P
