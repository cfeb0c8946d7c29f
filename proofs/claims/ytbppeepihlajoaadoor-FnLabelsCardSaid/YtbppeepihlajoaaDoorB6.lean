/- Written by a program of this session: plain Lean functions for Go functions, and for each the proof that the call comes to what the function says. -/
import Derived.Test.YtbppeepihlajoaaDoorB0
import Derived.Test.YtbppeepihlajoaaDoorXL
namespace Go.Proofs.YtbppeepihlajoaaDoor.P
open Go.RowKit Go.Proofs.YtbppeepihlajoaaDoorW.PrintWords Go.Proofs.YtbppeepihlajoaaDoorW.PrintLast Go.Proofs.YtbppeepihlajoaaDoorW.PrintMore
attribute [local go_sem] max2_int min2_int max_two min_two max_three min_three max_four min_four
set_option linter.unusedVariables false
set_option linter.unusedSimpArgs false
def impl_read.l0 : Nat → ByteArray → List (S110) → Int → Option ((List (S110)))
 | 0, _, _, _ => none
 | k + 1, x0, x3, x4 => if x4 < (x0.size : Int) then (if 0 ≤ x4 then (if x4 ≤ (x0.size : Int) then ((utf8_DecodeRuneInString.f (x0.extract (x4 : Int).toNat x0.size)).bind fun bt475 => (if bt475.1 = 65533 then (if x3.length < 4398046511104 then (impl_read.l0 k x0 (x3 ++ [(⟨wrap64 (bt475.1), x4, wrap64 (x4 + bt475.2), (bt475.2 == 1)⟩ : S110)]) (wrap64 (x4 + bt475.2))) else (none)) else (if x3.length < 4398046511104 then (impl_read.l0 k x0 (x3 ++ [(⟨wrap64 (bt475.1), x4, wrap64 (x4 + bt475.2), false⟩ : S110)]) (wrap64 (x4 + bt475.2))) else (none)))) else (none)) else (none)) else (some x3)
def impl_read.f (k : Nat) (a0 : ByteArray) : Option ((List (S110))) := impl_read.l0 k a0 ([] : List (S110)) 0
set_option maxHeartbeats 8000000 in
set_option maxRecDepth 100000 in
theorem impl_read.calls (k : Nat) (a0 : ByteArray) (r : List (S110)) (w : World) (hG : GT w) (h : impl_read.f k a0 = some r) :
  Calls Tryd.prog 62 #[.string a0] w fun e w' => ∃ v0_ : Value, e = .returned (v0_) ∧ Kd.R k110 110 w' w.heap.size (fun _ => True) v0_ r ∧ Below w.heap.size w w' := by
 have hu110 := Tryd.underlying110
 have HG := zac.mk hG; clear hG
 have HB := zac.mk (Below.refl w.heap.size w)
 have H : (impl_read.l0 k a0 ([] : List (S110)) 0) = some r := h
 clear h; have H' := zac.mk H; clear H
 go_enter Tryd.func62, Tryd.ntmps62
 go_wp2
 go_loopg [3, 4] k (fun kq v3 v4 w' => ∃ (x3_1 : List (S110)) (x4_1 : Int), v4 = .int .i64 x4_1 ∧ zac (impl_read.l0 kq a0 x3_1 x4_1 = some r) ∧ zac (kq ≤ k) ∧ zac (Kd.R k110 110 w' w.heap.size (fun _ => True) v3 x3_1) ∧ zac (Below w.heap.size w w'))
 case atStart => exact ⟨(([] : List (S110))), (0), (by first | rfl | (simp; done) | (simp [*]; done)), H', ⟨Nat.le_refl _⟩, ⟨by first | exact Kd.R_nil _ _ _ _ _ | exact Kd.N_nil _ _ _ _ _ | exact Kd.V_nil _ _ _ _ _ | exact Kd.Q_nil _ _ _ _ _ | exact Kd.S_nil _ _ _ _ _⟩, ⟨by repeat (first | (with_reducible first | exact HB.out | apply zae | apply zaa | apply zad) | exact HB.out)⟩⟩
 case round =>
  clear H'
  obtain ⟨x3_1, x4_1, rfl, HA, HK1, HO_3, HB⟩ := hrel
  cases gk with
  | zero => exact absurd HA.out (by simp [impl_read.l0])
  | succ k1 =>
   have H := HA.out; clear HA
   simp only [impl_read.l0] at H
   by_cases c2 : x4_1 < (a0.size : Int)
   ·rw [if_pos c2] at H
    have c2b0 : decide (x4_1 < (a0.size : Int)) = true := decide_eq_true c2
    clear c2
    by_cases c3 : 0 ≤ x4_1
    ·rw [if_pos c3] at H
     have c3b0 := eq_true c3
     have c3b1 : decide (0 ≤ x4_1) = true := decide_eq_true c3
     clear c3
     by_cases c4 : x4_1 ≤ (a0.size : Int)
     ·rw [if_pos c4] at H
      have c4b0 := eq_true c4
      have c4b1 : decide (x4_1 ≤ (a0.size : Int)) = true := decide_eq_true c4
      clear c4; replace H := Option.bind_eq_some_iff.mp H
      obtain ⟨⟨t475, t476⟩, A50, H⟩ := H
      replace H : (if t475 = 65533 then (if x3_1.length < 4398046511104 then (impl_read.l0 k1 a0 (x3_1 ++ [(⟨wrap64 (t475), x4_1, wrap64 (x4_1 + t476), (t476 == 1)⟩ : S110)]) (wrap64 (x4_1 + t476))) else (none)) else (if x3_1.length < 4398046511104 then (impl_read.l0 k1 a0 (x3_1 ++ [(⟨wrap64 (t475), x4_1, wrap64 (x4_1 + t476), false⟩ : S110)]) (wrap64 (x4_1 + t476))) else (none))) = some r := H
      have A5 := zac.mk A50; clear A50
      by_cases c6 : t475 = 65533
      ·rw [if_pos c6] at H
       have c6b0 : (t475 == 65533) = true := beq_iff_eq.mpr c6
       have c6b1 : (t475 != 65533) = false := bne_eq_false_iff_eq.mpr c6
       clear c6
       by_cases c7 : x3_1.length < 4398046511104
       ·rw [if_pos c7] at H; have LMc7 := zac.mk c7; clear c7
        obtain ⟨y477, hy477⟩ : ∃ y_ : List (S110), y_ = (x3_1 ++ [(⟨wrap64 (t475), x4_1, wrap64 (x4_1 + t476), (t476 == 1)⟩ : S110)]) := ⟨_, rfl⟩
        replace H : (impl_read.l0 k1 a0 y477 (wrap64 (x4_1 + t476))) = some r := by first | (rw [hy477]; with_reducible exact H) | (have H2_ := (Option.bind_some _ _).symm.trans H; rw [hy477]; with_reducible exact H2_) | (have H2_ := (Option.bind_some _ _).symm.trans H; with_reducible exact H2_) | with_reducible exact H | (rw [hy477]; exact H) | exact H
        have Ny477 := zac.mk hy477; clear hy477; have H' := zac.mk H; clear H
        go_wp2_with (first | ((with_reducible refine zak (f := 119) rfl ?_); refine zaG (some 16) rfl rfl Tryd.func119 (by kernel_rfl) rfl #[.string (a0.extract (x4_1 : Int).toNat a0.size)] rfl (by (try simp only [List.map_toArray, List.map_cons, List.map_nil]); first | done | rfl | (simp only [List.length_drop, List.length_take]; rfl)) ?_; (with_reducible refine (utf8_DecodeRuneInString.calls (a0.extract (x4_1 : Int).toNat a0.size) t475 t476 _ ?side1 A5.out).mono ?_); (case side1 => exact GT_below HG.out (by repeat (first | (with_reducible first | exact HB.out | apply zae | apply zaa | apply zad) | exact HB.out))); rintro e w8 ⟨rfl, hb⟩; refine ⟨_, rfl, ?_⟩; have n0_ := zac.mk (Kd.R_below (by (with_reducible repeat (first | apply Kd.zav | apply Kd.zau | apply Kd.R_drew)); exact HO_3.out) hb); have n1_ := zac.mk (zaw (by repeat (first | (with_reducible first | exact HB.out | apply zae | apply zaa | apply zad) | exact HB.out)) hb); clear HO_3 HB; have HO_3 := n0_; have HB := n1_; clear n0_ n1_; (try clear hb); (try clear hb2); (try clear hk); (try clear hi)) | ((with_reducible refine gate_builtin (b := .append) (xs := #[.tmp 25, .tmp 34]) rfl ?_); at_builtin; refine Kd.R_append k110 (w0 := w) w.heap.size rfl (.tmp 25) (.tmp 34) 77 110 (.agg #[(.int .i64 0), (.int .i64 0), (.int .i64 0), (.bool false)]) 32 rfl Tryd.underlying77 info110 rfl (by decide) (by omega) u3 x3_1 (⟨wrap64 (t475), x4_1, wrap64 (x4_1 + t476), (t476 == 1)⟩ : S110) [.int .i64 (wrap64 (t475)), .int .i64 x4_1, .int .i64 (wrap64 (x4_1 + t476)), .bool (t476 == 1)] (fun _ => True) (fun _ => False) rfl rfl ?aP (fun _ hk => hk.elim) ?aF ?aO ?aB ?aS ?aL ?_; (case aP => exact k110_mkM _ _ _ (⟨wrap64 (t475), x4_1, wrap64 (x4_1 + t476), (t476 == 1)⟩ : S110)); (case aB => exact (by repeat (first | (with_reducible first | exact HB.out | apply zae | apply zaa | apply zad) | exact HB.out))); (case aF => exact (fun _ _ => trivial)); (case aO => exact (by (with_reducible repeat (first | apply Kd.zav | apply Kd.zau | apply Kd.R_drew)); exact HO_3.out)); (case aS => exact (zaJ (by repeat (first | (with_reducible first | exact HB.out | apply zae | apply zaa | apply zad) | exact HB.out)))); (case aL => have := LMc7.out; omega); intro v478 w9 ho hb hg hat; rw [← Ny477.out] at ho; have n0_ := zac.mk (hb); have n1_ := zac.mk (ho); clear HB HO_3; have HB := n0_; have HO479 := n1_; clear n0_ n1_ ho hb hg hat))
        go_roundg k1
        case measure => have := HK1.out; omega
        case rel => exact ⟨(y477), (wrap64 (x4_1 + t476)), (by first | rfl | (simp; done) | (simp [*]; done)), H', ⟨by have := HK1.out; omega⟩, ⟨by (with_reducible repeat (first | apply Kd.zav | apply Kd.zau | apply Kd.R_drew)); exact HO479.out⟩, ⟨by repeat (first | (with_reducible first | exact HB.out | apply zae | apply zaa | apply zad) | exact HB.out)⟩⟩
       rw [if_neg c7] at H
       exact absurd H (by simp)
      rw [if_neg c6] at H
      have c6b0 : (t475 == 65533) = false := beq_eq_false_iff_ne.mpr c6
      have c6b1 : (t475 != 65533) = true := bne_iff_ne.mpr c6
      by_cases c10 : x3_1.length < 4398046511104
      ·rw [if_pos c10] at H; have LMc10 := zac.mk c10; clear c10
       obtain ⟨y480, hy480⟩ : ∃ y_ : List (S110), y_ = (x3_1 ++ [(⟨wrap64 (t475), x4_1, wrap64 (x4_1 + t476), false⟩ : S110)]) := ⟨_, rfl⟩
       replace H : (impl_read.l0 k1 a0 y480 (wrap64 (x4_1 + t476))) = some r := by first | (rw [hy480]; with_reducible exact H) | (have H2_ := (Option.bind_some _ _).symm.trans H; rw [hy480]; with_reducible exact H2_) | (have H2_ := (Option.bind_some _ _).symm.trans H; with_reducible exact H2_) | with_reducible exact H | (rw [hy480]; exact H) | exact H
       have Ny480 := zac.mk hy480; clear hy480; have H' := zac.mk H; clear H
       go_wp2_with (first | ((with_reducible refine zak (f := 119) rfl ?_); refine zaG (some 16) rfl rfl Tryd.func119 (by kernel_rfl) rfl #[.string (a0.extract (x4_1 : Int).toNat a0.size)] rfl (by (try simp only [List.map_toArray, List.map_cons, List.map_nil]); first | done | rfl | (simp only [List.length_drop, List.length_take]; rfl)) ?_; (with_reducible refine (utf8_DecodeRuneInString.calls (a0.extract (x4_1 : Int).toNat a0.size) t475 t476 _ ?side1 A5.out).mono ?_); (case side1 => exact GT_below HG.out (by repeat (first | (with_reducible first | exact HB.out | apply zae | apply zaa | apply zad) | exact HB.out))); rintro e w11 ⟨rfl, hb⟩; refine ⟨_, rfl, ?_⟩; have n0_ := zac.mk (Kd.R_below (by (with_reducible repeat (first | apply Kd.zav | apply Kd.zau | apply Kd.R_drew)); exact HO_3.out) hb); have n1_ := zac.mk (zaw (by repeat (first | (with_reducible first | exact HB.out | apply zae | apply zaa | apply zad) | exact HB.out)) hb); clear HO_3 HB; have HO_3 := n0_; have HB := n1_; clear n0_ n1_; (try clear hb); (try clear hb2); (try clear hk); (try clear hi)) | ((with_reducible refine gate_builtin (b := .append) (xs := #[.tmp 25, .tmp 34]) rfl ?_); at_builtin; refine Kd.R_append k110 (w0 := w) w.heap.size rfl (.tmp 25) (.tmp 34) 77 110 (.agg #[(.int .i64 0), (.int .i64 0), (.int .i64 0), (.bool false)]) 32 rfl Tryd.underlying77 info110 rfl (by decide) (by omega) u3 x3_1 (⟨wrap64 (t475), x4_1, wrap64 (x4_1 + t476), false⟩ : S110) [.int .i64 (wrap64 (t475)), .int .i64 x4_1, .int .i64 (wrap64 (x4_1 + t476)), .bool false] (fun _ => True) (fun _ => False) rfl rfl ?aP (fun _ hk => hk.elim) ?aF ?aO ?aB ?aS ?aL ?_; (case aP => exact k110_mkM _ _ _ (⟨wrap64 (t475), x4_1, wrap64 (x4_1 + t476), false⟩ : S110)); (case aB => exact (by repeat (first | (with_reducible first | exact HB.out | apply zae | apply zaa | apply zad) | exact HB.out))); (case aF => exact (fun _ _ => trivial)); (case aO => exact (by (with_reducible repeat (first | apply Kd.zav | apply Kd.zau | apply Kd.R_drew)); exact HO_3.out)); (case aS => exact (zaJ (by repeat (first | (with_reducible first | exact HB.out | apply zae | apply zaa | apply zad) | exact HB.out)))); (case aL => have := LMc10.out; omega); intro v481 w12 ho hb hg hat; rw [← Ny480.out] at ho; have n0_ := zac.mk (hb); have n1_ := zac.mk (ho); clear HB HO_3; have HB := n0_; have HO482 := n1_; clear n0_ n1_ ho hb hg hat))
       go_roundg k1
       case measure => have := HK1.out; omega
       case rel => exact ⟨(y480), (wrap64 (x4_1 + t476)), (by first | rfl | (simp; done) | (simp [*]; done)), H', ⟨by have := HK1.out; omega⟩, ⟨by (with_reducible repeat (first | apply Kd.zav | apply Kd.zau | apply Kd.R_drew)); exact HO482.out⟩, ⟨by repeat (first | (with_reducible first | exact HB.out | apply zae | apply zaa | apply zad) | exact HB.out)⟩⟩
      rw [if_neg c10] at H
      exact absurd H (by simp)
     rw [if_neg c4] at H
     exact absurd H (by simp)
    rw [if_neg c3] at H
    exact absurd H (by simp)
   rw [if_neg c2] at H
   have c2b0 : decide (x4_1 < (a0.size : Int)) = false := decide_eq_false c2
   clear c2; obtain rfl := Option.some.inj H
   go_wp2
   go_ret
   exact ⟨_, by first | rfl | (simp [zan, zam] <;> rfl) | (simp [*, zan, zam] <;> rfl), by (with_reducible repeat (first | apply Kd.zav | apply Kd.zau | apply Kd.R_drew)); exact HO_3.out, by repeat (first | (with_reducible first | exact HB.out | apply zae | apply zaa | apply zad) | exact HB.out)⟩
def za0.l0 : Nat → List Int → List (S110) → Int → Int → Option (List Int)
 | 0, _, _, _, _ => none
 | k + 1, x3, x7, x8, x9 => if x9 < x8 then (if 0 ≤ x9 then (if x9 < (x7.length : Int) then (if x3.length < 17592186044416 then (za0.l0 k (x3 ++ [(rd_T110 x7 x9).f0]) x7 x8 (wrap64 (x9 + 1))) else (none)) else (none)) else (none)) else (some x3)
def za0.f (k : Nat) (a0 : ByteArray) : Option (List Int) := (impl_read.f k a0).bind fun t483 => (za0.l0 k ([] : List Int) t483 (t483.length : Int) 0)
set_option maxHeartbeats 8000000 in
set_option maxRecDepth 100000 in
theorem za0.calls (k : Nat) (a0 : ByteArray) (r : List Int) (w : World) (hG : GT w) (h : za0.f k a0 = some r) :
  Calls Tryd.prog 47 #[.string a0] w fun e w' => ∃ v0_ : Value, e = .returned (v0_) ∧ Kd.R (Kd.int .i64) 2 w' w.heap.size (fun _ => True) v0_ r ∧ Below w.heap.size w w' := by
 have hu110 := Tryd.underlying110
 have HG := zac.mk hG; clear hG
 have HB := zac.mk (Below.refl w.heap.size w)
 have H : ((impl_read.f k a0).bind fun t483 => (za0.l0 k ([] : List Int) t483 (t483.length : Int) 0)) = some r := h
 clear h; replace H := Option.bind_eq_some_iff.mp H
 obtain ⟨t483, A20, H⟩ := H
 replace H : (za0.l0 k ([] : List Int) t483 (t483.length : Int) 0) = some r := H
 have A2 := zac.mk A20; clear A20; have H' := zac.mk H; clear H
 go_enter Tryd.func47, Tryd.ntmps47
 go_wp2_with (first | ((with_reducible refine zak (f := 62) rfl ?_); refine zaG (some 7) rfl rfl Tryd.func62 (by kernel_rfl) rfl #[.string a0] rfl (by (try simp only [List.map_toArray, List.map_cons, List.map_nil]); first | done | rfl | (simp only [List.length_drop, List.length_take]; rfl)) ?_; (with_reducible refine (impl_read.calls k a0 t483 _ ?side1 A2.out).mono ?_); (case side1 => exact GT_below HG.out (by repeat (first | (with_reducible first | exact HB.out | apply zae | apply zaa | apply zad) | exact HB.out))); rintro e w3 ⟨v484, rfl, ho0, hb⟩; refine ⟨_, rfl, ?_⟩; have n0_ := zac.mk (Kd.R_lower ho0 (zaJ (by repeat (first | (with_reducible first | exact HB.out | apply zae | apply zaa | apply zad) | exact HB.out)))); have n1_ := zac.mk (zaw (by repeat (first | (with_reducible first | exact HB.out | apply zae | apply zaa | apply zad) | exact HB.out)) hb); clear HB; have HO485 := n0_; have HB := n1_; clear n0_ n1_; (try clear hb); (try clear hb2); (try clear hk); (try clear hi); (try clear ho0); obtain ⟨Ao4, co4, eo4⟩ := Kd.R_slice HO485.out; subst eo4))
 go_loopg [3, 9] k (fun kq v3 v9 w' => ∃ (x3_1 : List Int) (x9_1 : Int), v9 = .int .i64 x9_1 ∧ zac (za0.l0 kq x3_1 t483 (t483.length : Int) x9_1 = some r) ∧ zac (kq ≤ k) ∧ zac (Kd.R (Kd.int .i64) 2 w' w.heap.size (fun _ => True) v3 x3_1) ∧ zac (Kd.R k110 110 w' w.heap.size (fun _ => True) (.slice Ao4 t483.length co4) t483) ∧ zac (Below w.heap.size w w'))
 case atStart => exact ⟨(([] : List Int)), (0), (by first | rfl | (simp; done) | (simp [*]; done)), H', ⟨Nat.le_refl _⟩, ⟨by first | exact Kd.R_nil _ _ _ _ _ | exact Kd.N_nil _ _ _ _ _ | exact Kd.V_nil _ _ _ _ _ | exact Kd.Q_nil _ _ _ _ _ | exact Kd.S_nil _ _ _ _ _⟩, ⟨by (with_reducible repeat (first | apply Kd.zav | apply Kd.zau | apply Kd.R_drew)); exact HO485.out⟩, ⟨by repeat (first | (with_reducible first | exact HB.out | apply zae | apply zaa | apply zad) | exact HB.out)⟩⟩
 case round =>
  clear H'
  obtain ⟨x3_1, x9_1, rfl, HA, HK1, HO_3, HO_7, HB⟩ := hrel
  cases gk with
  | zero => exact absurd HA.out (by simp [za0.l0])
  | succ k1 =>
   have H := HA.out; clear HA
   simp only [za0.l0] at H
   by_cases c5 : x9_1 < (t483.length : Int)
   ·rw [if_pos c5] at H
    have c5b0 : decide (x9_1 < (t483.length : Int)) = true := decide_eq_true c5
    clear c5
    by_cases c6 : 0 ≤ x9_1
    ·rw [if_pos c6] at H
     have c6b0 : decide (0 ≤ x9_1) = true := decide_eq_true c6
     clear c6
     by_cases c7 : x9_1 < (t483.length : Int)
     ·rw [if_pos c7] at H
      have c7b0 : decide (x9_1 < (t483.length : Int)) = true := decide_eq_true c7
      clear c7
      by_cases c8 : x3_1.length < 17592186044416
      ·rw [if_pos c8] at H; have LMc8 := zac.mk c8; clear c8
       obtain ⟨y488, hy488⟩ : ∃ y_ : List Int, y_ = (x3_1 ++ [(rd_T110 t483 x9_1).f0]) := ⟨_, rfl⟩
       replace H : (za0.l0 k1 y488 t483 (t483.length : Int) (wrap64 (x9_1 + 1))) = some r := by first | (rw [hy488]; with_reducible exact H) | (have H2_ := (Option.bind_some _ _).symm.trans H; rw [hy488]; with_reducible exact H2_) | (have H2_ := (Option.bind_some _ _).symm.trans H; with_reducible exact H2_) | with_reducible exact H | (rw [hy488]; exact H) | exact H
       have Ny488 := zac.mk hy488; clear hy488; have H' := zac.mk H; clear H
       have p486 : 0 ≤ (x9_1 : Int) := of_decide_eq_true (by first | (with_reducible assumption) | assumption)
       have q486 : x9_1 < (t483.length : Int) := of_decide_eq_true (by first | (with_reducible assumption) | assumption)
       obtain ⟨ad486, e486, hx486_0, hx486_1, hx486_2, hx486_3⟩ := at_T110 (Kd.zaY HO_7.out).2.2 x9_1 p486 q486
       cases e486
       replace p486 := eq_true p486
       replace q486 := eq_true q486
       go_wp2_with (first | ((with_reducible refine zaW (N := 5) rfl ?_); refine box_event ?hg (N := 5) ?hd (cs := #[.int .i64 0, .int .i64 0, .int .i64 0, .bool false]) (t := 110) ?hr ?_; (case hd => rfl); (case hg => rfl); (case hr => first | (go_simp; done) | (go_simp; rfl)); intro gb487 hg w9 hbox hb; have n0_ := zac.mk (Kd.R_below (by (with_reducible repeat (first | apply Kd.zav | apply Kd.zau | apply Kd.R_drew)); exact HO_3.out) hb); have n1_ := zac.mk (Kd.R_below (Kd.R_elderB (by (with_reducible repeat (first | apply Kd.zav | apply Kd.zau | apply Kd.R_drew)); exact HO_7.out) gb487 (Nat.le_of_eq hg.symm)) hb); have n2_ := zac.mk (zaw (by repeat (first | (with_reducible first | exact HB.out | apply zae | apply zaa | apply zad) | exact HB.out)) hb); have n3_ := zac.mk (hbox); have n4_ := zac.mk ((by rw [hg]; exact (zaJ (by repeat (first | (with_reducible first | exact HB.out | apply zae | apply zaa | apply zad) | exact HB.out))) : w.heap.size ≤ gb487)); have n5_ := zac.mk ((by rw [hg]; exact (zaJ (by repeat (first | (with_reducible first | exact HB.out | apply zae | apply zaa | apply zad) | exact HB.out))) : w.heap.size ≤ gb487)); clear HO_3 HO_7 HB; have HO_3 := n0_; have HO_7 := n1_; have HB := n2_; have BK487 := n3_; have GW487 := n4_; have GE487 := n5_; clear n0_ n1_ n2_ n3_ n4_ n5_ hb hbox hg; have hcz10_0 : w9.cell? ⟨gb487, 0, none⟩ = some (.int .i64 0) := (zaO BK487.out 0).trans rfl; have hcz10_1 : w9.cell? ⟨gb487, 1, none⟩ = some (.int .i64 0) := (zaO BK487.out 1).trans rfl; have hcz10_2 : w9.cell? ⟨gb487, 2, none⟩ = some (.int .i64 0) := (zaO BK487.out 2).trans rfl; have hcz10_3 : w9.cell? ⟨gb487, 3, none⟩ = some (.bool false) := (zaO BK487.out 3).trans rfl; have hfz10_0 := zaA BK487.out 0; have hfz10_1 := zaA BK487.out 1; have hfz10_2 := zaA BK487.out 2; have hfz10_3 := zaA BK487.out 3) | ((with_reducible refine gate_builtin (b := .append) (xs := #[.tmp 13, .tmp 16]) rfl ?_); at_builtin; refine Kd.R_append (Kd.int .i64) (w0 := w) w.heap.size rfl (.tmp 13) (.tmp 16) 67 2 (.int .i64 0) 8 rfl Tryd.underlying67 info2 rfl (by decide) (by omega) u3 x3_1 ((rd_T110 t483 x9_1).f0) [.int .i64 ((rd_T110 t483 x9_1).f0)] (fun _ => True) (fun _ => False) rfl (by first | (go_simp; done) | (go_simp; rfl)) ?aP (fun _ hk => hk.elim) ?aF ?aO ?aB ?aS ?aL ?_; (case aP => exact rfl); (case aB => exact (by repeat (first | (with_reducible first | exact HB.out | apply zae | apply zaa | apply zad | refine zai ?_ GE487.out) | exact HB.out))); (case aF => exact (fun _ _ => trivial)); (case aO => exact (by (with_reducible repeat (first | apply Kd.zav | apply Kd.zau | apply Kd.R_drew)); exact Kd.R_mono (Kd.R_far (p := ⟨gb487, 3, none⟩) (Kd.R_far (p := ⟨gb487, 2, none⟩) (Kd.R_far (p := ⟨gb487, 1, none⟩) (Kd.R_far (p := ⟨gb487, 0, none⟩) (Kd.R_types HO_3.out BK487.out (by decide)) (fun _ hk => hk.2) (.int .i64 ((rd_T110 t483 x9_1).f0))) (fun _ hk => hk.2) (.int .i64 ((rd_T110 t483 x9_1).f1))) (fun _ hk => hk.2) (.int .i64 ((rd_T110 t483 x9_1).f2))) (fun _ hk => hk.2) (.bool ((rd_T110 t483 x9_1).f3))) (fun _ hk => trivial))); (case aS => exact (zaJ (by repeat (first | (with_reducible first | exact HB.out | apply zae | apply zaa | apply zad | refine zai ?_ GE487.out) | exact HB.out)))); (case aL => have := LMc8.out; omega); intro v489 w11 ho hb hg hat; rw [← Ny488.out] at ho; have n0_ := zac.mk (Kd.R_over' (by (with_reducible repeat (first | apply Kd.zav | apply Kd.zau | apply Kd.R_drew)); exact (Kd.R_mono (Kd.R_far (p := ⟨gb487, 3, none⟩) (Kd.R_far (p := ⟨gb487, 2, none⟩) (Kd.R_far (p := ⟨gb487, 1, none⟩) (Kd.R_far (p := ⟨gb487, 0, none⟩) (Kd.R_mono HO_7.out (fun k_ hk => (⟨hk, hk.2⟩ : _ ∧ k_ ≠ gb487))) (fun _ hk => hk.2) (.int .i64 ((rd_T110 t483 x9_1).f0))) (fun _ hk => hk.2) (.int .i64 ((rd_T110 t483 x9_1).f1))) (fun _ hk => hk.2) (.int .i64 ((rd_T110 t483 x9_1).f2))) (fun _ hk => hk.2) (.bool ((rd_T110 t483 x9_1).f3))) (fun _ h_ => h_.1))) (Kd.R_typed (by (with_reducible repeat (first | apply Kd.zav | apply Kd.zau | apply Kd.R_drew)); exact (Kd.R_mono (Kd.R_far (p := ⟨gb487, 3, none⟩) (Kd.R_far (p := ⟨gb487, 2, none⟩) (Kd.R_far (p := ⟨gb487, 1, none⟩) (Kd.R_far (p := ⟨gb487, 0, none⟩) (Kd.R_types HO_3.out BK487.out (by decide)) (fun _ hk => hk.2) (.int .i64 ((rd_T110 t483 x9_1).f0))) (fun _ hk => hk.2) (.int .i64 ((rd_T110 t483 x9_1).f1))) (fun _ hk => hk.2) (.int .i64 ((rd_T110 t483 x9_1).f2))) (fun _ hk => hk.2) (.bool ((rd_T110 t483 x9_1).f3))) (fun _ h_ => h_.1)))) (by decide) hg); have n1_ := zac.mk (blk_grown (g := gb487) (o := .cells #[.int .i64 ((rd_T110 t483 x9_1).f0), .int .i64 ((rd_T110 t483 x9_1).f1), .int .i64 ((rd_T110 t483 x9_1).f2), .bool ((rd_T110 t483 x9_1).f3)] 110 (0, 0)) (by (with_reducible repeat (first | refine zaT ?_ _ | refine zaN ?_ | refine blk_alloc ?_ _)); refine blk_put (cs := #[.int .i64 ((rd_T110 t483 x9_1).f0), .int .i64 ((rd_T110 t483 x9_1).f1), .int .i64 ((rd_T110 t483 x9_1).f2), .bool false]) ?_ 3 _ rfl; (with_reducible repeat (first | refine zaT ?_ _ | refine zaN ?_ | refine blk_alloc ?_ _)); refine blk_put (cs := #[.int .i64 ((rd_T110 t483 x9_1).f0), .int .i64 ((rd_T110 t483 x9_1).f1), .int .i64 0, .bool false]) ?_ 2 _ rfl; (with_reducible repeat (first | refine zaT ?_ _ | refine zaN ?_ | refine blk_alloc ?_ _)); refine blk_put (cs := #[.int .i64 ((rd_T110 t483 x9_1).f0), .int .i64 0, .int .i64 0, .bool false]) ?_ 1 _ rfl; (with_reducible repeat (first | refine zaT ?_ _ | refine zaN ?_ | refine blk_alloc ?_ _)); refine blk_put (cs := #[.int .i64 0, .int .i64 0, .int .i64 0, .bool false]) ?_ 0 _ rfl; (with_reducible repeat (first | refine zaT ?_ _ | refine zaN ?_ | refine blk_alloc ?_ _)); exact BK487.out) hg (Kd.R_ne HO_3.out BK487.out (by decide))); have n2_ := zac.mk (hb); have n3_ := zac.mk (ho); clear HO_7 BK487 HB HO_3; have HO_7 := n0_; have BK487 := n1_; have HB := n2_; have HO490 := n3_; clear n0_ n1_ n2_ n3_ ho hb hg hat))
       go_roundg k1
       case measure => have := HK1.out; omega
       case rel => exact ⟨(y488), (wrap64 (x9_1 + 1)), (by first | rfl | (simp; done) | (simp [*]; done)), H', ⟨by have := HK1.out; omega⟩, ⟨by (with_reducible repeat (first | apply Kd.zav | apply Kd.zau | apply Kd.R_drew)); exact HO490.out⟩, ⟨by (with_reducible repeat (first | apply Kd.zav | apply Kd.zau | apply Kd.R_drew)); exact Kd.R_mono HO_7.out (fun _ hk => trivial)⟩, ⟨by repeat (first | (with_reducible first | exact HB.out | apply zae | apply zaa | apply zad | refine zai ?_ GE487.out) | exact HB.out)⟩⟩
      rw [if_neg c8] at H
      exact absurd H (by simp)
     rw [if_neg c7] at H
     exact absurd H (by simp)
    rw [if_neg c6] at H
    exact absurd H (by simp)
   rw [if_neg c5] at H
   have c5b0 : decide (x9_1 < (t483.length : Int)) = false := decide_eq_false c5
   clear c5; obtain rfl := Option.some.inj H
   go_wp2
   go_ret
   exact ⟨_, by first | rfl | (simp [zan, zam] <;> rfl) | (simp [*, zan, zam] <;> rfl), by (with_reducible repeat (first | apply Kd.zav | apply Kd.zau | apply Kd.R_drew)); exact HO_3.out, by repeat (first | (with_reducible first | exact HB.out | apply zae | apply zaa | apply zad) | exact HB.out)⟩
end Go.Proofs.YtbppeepihlajoaaDoor.P
