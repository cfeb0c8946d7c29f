/- Written by a program of this session: plain Lean functions for Go functions, and for each the proof that the call comes to what the function says. -/
import Derived.Test.YtfafjbolmeimmaaDoorF0
import Derived.Test.YtfafjbolmeimmaaDoorF11
import Derived.Test.YtfafjbolmeimmaaDoorF13
import Derived.Test.YtfafjbolmeimmaaDoorF16
import Derived.Test.YtfafjbolmeimmaaDoorXWr
namespace Go.Proofs.YtfafjbolmeimmaaDoor.P
open Go.RowKit Go.Proofs.YtfafjbolmeimmaaDoorW.PrintWords Go.Proofs.YtfafjbolmeimmaaDoorW.PrintLast Go.Proofs.YtfafjbolmeimmaaDoorW.PrintMore
attribute [local go_sem] max2_int min2_int max_two min_two max_three min_three max_four min_four
set_option linter.unusedVariables false
set_option linter.unusedSimpArgs false
mutual
def zaQ.l0 : Nat → Int → ByteArray → Bool → List Int → List Int → Int → Option (ByteArray × List Int × ByteArray)
 | 0, _, _, _, _, _, _ => none
 | k + 1, x0, x1, x2, x7, x9, x10 => if x10 < (x1.size : Int) then (if 0 ≤ x10 then (if x10 ≤ (x1.size : Int) then ((impl_piece.f k x0 (x1.extract (x10 : Int).toNat x1.size)).bind fun bt559 => (if bt559.2.2.2 = true then (zaQ.j1 k x0 x1 x2 x7 x9 x10 bt559.1 bt559.2.1 bt559.2.2.1 x2) else (zaQ.j1 k x0 x1 x2 x7 x9 x10 bt559.1 bt559.2.1 bt559.2.2.1 false))) else (none)) else (none)) else ((impl_write.f k x9).bind fun t558 => (if 0 ≤ x10 then (if x10 ≤ (x1.size : Int) then (some (t558, x7, x1.extract (x10 : Int).toNat x1.size)) else (none)) else (none)))
def zaQ.j1 : Nat → Int → ByteArray → Bool → List Int → List Int → Int → Int → Int → Bool → Bool → Option (ByteArray × List Int × ByteArray)
 | 0, _, _, _, _, _, _, _, _, _, _ => none
 | k + 1, x0, x1, x2, x7, x9, x10, x11, x12, x13, x32 => if x32 = true then ((impl_write.f k x9).bind fun t563 => (if 0 ≤ x10 then (if x10 ≤ (x1.size : Int) then (some (t563, x7, x1.extract (x10 : Int).toNat x1.size)) else (none)) else (none))) else (if x13 = true then (if x7.length < 17592186044416 then (if x9.length < 17592186044416 then (zaQ.l0 k x0 x1 x2 (x7 ++ [x10]) (x9 ++ [x11]) (wrap64 (x10 + x12))) else (none)) else (none)) else (if x9.length < 17592186044416 then (zaQ.l0 k x0 x1 x2 x7 (x9 ++ [x11]) (wrap64 (x10 + x12))) else (none)))
end
def zaQ.f (k : Nat) (a0 : Int) (a1 : ByteArray) (a2 : Bool) : Option (ByteArray × List Int × ByteArray) := zaQ.l0 k a0 a1 a2 ([] : List Int) ([] : List Int) 0
def zaQ.T10 : Bool × List (List Nat × List Nat) := (true, [([], []), ([0], [0]), ([], []), ([], []), ([], []), ([3, 4], [3, 4]), ([1, 1, 0, 1], [1]), ([2, 6, 0, 1, 2, 6], [2]), ([5, 7, 0, 1, 2, 3, 4, 5, 6, 7], [5])])
def zaQ.B10 : List Nat := [0, 1, 0, 0, 0, 24, 3, 71, 255]
theorem zaQ.tab10 : rtab .any (opsOf Tryd.f26 10) = zaQ.T10 := by kernel_rfl
theorem zaQ.bits10 : waitsOk zaQ.T10.2 zaQ.B10 = true := by kernel_rfl
set_option maxHeartbeats 8000000 in
set_option maxRecDepth 100000 in
theorem zaQ.calls (k : Nat) (a0 : Int) (a1 : ByteArray) (a2 : Bool) (r1 : ByteArray) (r2 : List Int) (r3 : ByteArray) (w : World) (hG : GT w) (h : zaQ.f k a0 a1 a2 = some (r1, r2, r3)) :
  Calls Tryd.prog 26 #[.int .i64 a0, .string a1, .bool a2] w fun e w' => ∃ v1_ : Value, e = .returned (.tuple #[.string r1, v1_, .string r3]) ∧ Kd.R (Kd.int .i64) 2 w' w.heap.size (fun _ => True) v1_ r2 ∧ Below w.heap.size w w' := by
 have HG := zab.mk hG; clear hG
 have HB := zab.mk (Below.refl w.heap.size w)
 have H : (zaQ.l0 k a0 a1 a2 ([] : List Int) ([] : List Int) 0) = some (r1, r2, r3) := h
 clear h; have H' := zab.mk H; clear H
 go_enter Tryd.func26, Tryd.ntmps26
 go_wp2
 go_loopg [7, 9, 10] k (fun kq v7 v9 v10 w' => ∃ (x7_1 : List Int) (x9_1 : List Int) (x10_1 : Int), v10 = .int .i64 x10_1 ∧ zab (zaQ.l0 kq a0 a1 a2 x7_1 x9_1 x10_1 = some (r1, r2, r3)) ∧ zab (kq ≤ k) ∧ zab (Kd.R (Kd.int .i64) 2 w' w.heap.size (fun k_ => some k_ ≠ (v9 : Value).ownBlock) v7 x7_1) ∧ zab (Kd.R (Kd.int .i64) 2 w' w.heap.size (fun k_ => some k_ ≠ (v7 : Value).ownBlock) v9 x9_1) ∧ zab (Below w.heap.size w w'))
 case atStart => exact ⟨(([] : List Int)), (([] : List Int)), (0), rfl, H', ⟨Nat.le_refl _⟩, ⟨by first | exact Kd.R_nil _ _ _ _ _ | exact Kd.N_nil _ _ _ _ _ | exact Kd.V_nil _ _ _ _ _ | exact Kd.Q_nil _ _ _ _ _ | exact Kd.S_nil _ _ _ _ _⟩, ⟨by first | exact Kd.R_nil _ _ _ _ _ | exact Kd.N_nil _ _ _ _ _ | exact Kd.V_nil _ _ _ _ _ | exact Kd.Q_nil _ _ _ _ _ | exact Kd.S_nil _ _ _ _ _⟩, ⟨by repeat (first | (with_reducible first | exact HB.out | apply zad | apply zaa | apply zac) | exact HB.out)⟩⟩
 case round =>
  clear H'
  obtain ⟨x7_1, x9_1, x10_1, rfl, HA, HK1, HO_7, HO_9, HB⟩ := hrel
  cases gk with
  | zero => exact absurd HA.out (by simp [zaQ.l0])
  | succ k1 =>
   have H := HA.out; clear HA
   simp only [zaQ.l0] at H
   by_cases c4 : x10_1 < (a1.size : Int)
   ·rw [if_pos c4] at H
    have c4b0 : decide (x10_1 < (a1.size : Int)) = true := decide_eq_true c4
    clear c4
    by_cases c5 : 0 ≤ x10_1
    ·rw [if_pos c5] at H
     have c5b0 := eq_true c5
     have c5b1 : decide (0 ≤ x10_1) = true := decide_eq_true c5
     clear c5
     by_cases c6 : x10_1 ≤ (a1.size : Int)
     ·rw [if_pos c6] at H
      have c6b0 := eq_true c6
      have c6b1 : decide (x10_1 ≤ (a1.size : Int)) = true := decide_eq_true c6
      clear c6; replace H := Option.bind_eq_some_iff.mp H
      obtain ⟨⟨t559, t560, t561, t562⟩, A70, H⟩ := H
      replace H : (if t562 = true then (zaQ.j1 k1 a0 a1 a2 x7_1 x9_1 x10_1 t559 t560 t561 a2) else (zaQ.j1 k1 a0 a1 a2 x7_1 x9_1 x10_1 t559 t560 t561 false)) = some (r1, r2, r3) := H
      have A7 := zab.mk A70; clear A70; have HC8 := zab.mk H; clear H
      go_upto_region 5 with (first | ((with_reducible refine zan (f := 28) rfl ?_); refine zaN (some 24) rfl rfl Tryd.func28 (by kernel_rfl) rfl #[.int .i64 a0, .string (a1.extract (x10_1 : Int).toNat a1.size)] rfl (by (try simp only [List.map_toArray, List.map_cons, List.map_nil]); first | done | rfl | (simp only [List.length_drop, List.length_take]; rfl)) ?_; (with_reducible refine (impl_piece.calls k1 a0 (a1.extract (x10_1 : Int).toNat a1.size) t559 t560 t561 t562 _ ?side1 A7.out).mono ?_); (case side1 => exact GT_below HG.out HB.out); rintro e w9 ⟨rfl, hb⟩; refine ⟨_, rfl, ?_⟩; have n0_ := zab.mk (Kd.zbi HO_7.out hb); have n1_ := zab.mk (Kd.zbi HO_9.out hb); have n2_ := zab.mk (zau HB.out hb); clear HO_7 HO_9 HB; have HO_7 := n0_; have HO_9 := n1_; have HB := n2_; clear n0_ n1_ n2_; (try clear hb); (try clear hb2); (try clear hk); (try clear hi)))
      (try simp only [Act.put, List.setIfInBounds_toArray, List.set_cons_zero, List.set_cons_succ])
      go_cut [32] (fun v32 wc => ∃ (kq : Nat) (x32_7 : Bool), v32 = .bool x32_7 ∧ zab (zaQ.j1 kq a0 a1 a2 x7_1 x9_1 x10_1 t559 t560 t561 x32_7 = some (r1, r2, r3)) ∧ zab (kq ≤ k1) ∧ zab (Kd.R (Kd.int .i64) 2 wc w.heap.size (fun k_ => some k_ ≠ (u9 : Value).ownBlock) u7 x7_1) ∧ zab (Kd.R (Kd.int .i64) 2 wc w.heap.size (fun k_ => some k_ ≠ (u7 : Value).ownBlock) u9 x9_1) ∧ zab (Below w.heap.size w wc))
      case first =>
       have H := HC8.out; clear HC8
       by_cases c10 : t562 = true
       ·subst c10
        replace H : (zaQ.j1 k1 a0 a1 a2 x7_1 x9_1 x10_1 t559 t560 t561 a2) = some (r1, r2, r3) := by rw [if_pos rfl] at H; exact H
        have H' := zab.mk H; clear H
        go_wp2
        go_meet
        case rel => exact ⟨_, (a2), rfl, H', ⟨by have := HK1.out; first | omega | exact Nat.le_refl _⟩, ⟨by (with_reducible repeat (first | apply Kd.R_alloc | apply Kd.zat | apply Kd.zaw)); exact HO_7.out⟩, ⟨by (with_reducible repeat (first | apply Kd.R_alloc | apply Kd.zat | apply Kd.zaw)); exact HO_9.out⟩, ⟨by repeat (first | (with_reducible first | exact HB.out | apply zad | apply zaa | apply zac) | exact HB.out)⟩⟩
       replace c10 := Bool.eq_false_iff.mpr c10
       subst c10
       replace H : (zaQ.j1 k1 a0 a1 a2 x7_1 x9_1 x10_1 t559 t560 t561 false) = some (r1, r2, r3) := by rw [if_neg (show ¬ (false = true) by decide)] at H; exact H
       have H' := zab.mk H; clear H
       go_wp2
       go_meet
       case rel => exact ⟨_, (false), rfl, H', ⟨by have := HK1.out; first | omega | exact Nat.le_refl _⟩, ⟨by (with_reducible repeat (first | apply Kd.R_alloc | apply Kd.zat | apply Kd.zaw)); exact HO_7.out⟩, ⟨by (with_reducible repeat (first | apply Kd.R_alloc | apply Kd.zat | apply Kd.zaw)); exact HO_9.out⟩, ⟨by repeat (first | (with_reducible first | exact HB.out | apply zad | apply zaa | apply zac) | exact HB.out)⟩⟩
      case rest =>
       clear HC8
       try clear c4b0
       try clear c5b0
       try clear c5b1
       try clear c6b0
       try clear c6b1
       obtain ⟨kq, x32_7, rfl, HA, HJ7, HO_7, HO_9, HB⟩ := hcut
       cases kq with
       | zero => exact absurd HA.out (by simp [zaQ.j1])
       | succ kj7 =>
        have H := HA.out; clear HA
        simp only [zaQ.j1] at H
        by_cases c11 : x32_7 = true
        ·subst c11
         replace H : ((impl_write.f kj7 x9_1).bind fun t563 => (if 0 ≤ x10_1 then (if x10_1 ≤ (a1.size : Int) then (some (t563, x7_1, a1.extract (x10_1 : Int).toNat a1.size)) else (none)) else (none))) = some (r1, r2, r3) := by rw [if_pos rfl] at H; exact H
         replace H := Option.bind_eq_some_iff.mp H
         obtain ⟨t563, A120, H⟩ := H
         replace H : (if 0 ≤ x10_1 then (if x10_1 ≤ (a1.size : Int) then (some (t563, x7_1, a1.extract (x10_1 : Int).toNat a1.size)) else (none)) else (none)) = some (r1, r2, r3) := H
         have A12 := zab.mk A120; clear A120
         by_cases c13 : 0 ≤ x10_1
         ·rw [if_pos c13] at H
          have c13b0 := eq_true c13
          have c13b1 : decide (0 ≤ x10_1) = true := decide_eq_true c13
          clear c13
          by_cases c14 : x10_1 ≤ (a1.size : Int)
          ·rw [if_pos c14] at H
           have c14b0 := eq_true c14
           have c14b1 : decide (x10_1 ≤ (a1.size : Int)) = true := decide_eq_true c14
           clear c14
           simp only [Option.some.injEq, Prod.mk.injEq] at H
           obtain ⟨rfl, rfl, rfl⟩ := H
           try go_wp2
           have n0_ := zab.mk (Kd.zaw HO_7.out)
           have n1_ := zab.mk (Kd.zaw HO_9.out)
           have n2_ := zab.mk (zac HB.out)
           clear HO_7 HO_9 HB
           have HO_7 := n0_
           have HO_9 := n1_
           have HB := n2_
           clear n0_ n1_ n2_
           obtain ⟨Ao16, co16, eo16⟩ := Kd.zbr HO_9.out
           (first | subst eo16 | (injection eo16 with f1_ f2_ f3_; have f4_ := f1_.symm; have f5_ := f3_.symm; clear f1_ f2_ f3_; subst f4_; subst f5_))
           refine start_ (n := 9) (S := fun w' => True) (ds := []) #[false, false, false, false, false, false, false, false, false] (by kernel_rfl) rfl rfl trivial (fun hHeld => ?_); refine with_tabW zaQ.tab10 zaQ.bits10 (fun HT_ HW_ => ?_)
           generalize wc.drew = w15 at HO_7 HO_9 HB hHeld ⊢
           refine zbf (i := 0) (N := some 45) (v := ?_) (a' := ?_) #[true, false, false, false, false, false, false, false, false] rfl rfl (zaZ HT_.out (by kernel_rfl)) (fun _ _ _ h => h) (Or.inl ⟨by rfl, ?_⟩) ?_ ?_
           rotate_left
           ·intro w'
            go_simp
            with_reducible rfl
           rotate_left
           ·simp only [Act.put, List.setIfInBounds_toArray, List.set_cons_zero, List.set_cons_succ, zaR, zaS]
            rfl
           refine zbf (i := 2) (N := some 47) (v := ?_) (a' := ?_) #[true, false, true, false, false, false, false, false, false] rfl rfl (zaZ HT_.out (by kernel_rfl)) (fun _ _ _ h => h) (Or.inl ⟨by rfl, ?_⟩) ?_ ?_
           rotate_left
           ·intro w'
            go_simp
            with_reducible rfl
           rotate_left
           ·simp only [Act.put, List.setIfInBounds_toArray, List.set_cons_zero, List.set_cons_succ, zaR, zaS]
            rfl
           refine zbf (i := 3) (N := some 48) (v := ?_) (a' := ?_) #[true, false, true, true, false, false, false, false, false] rfl rfl (zaZ HT_.out (by kernel_rfl)) (fun _ _ _ h => h) (Or.inl ⟨by rfl, ?_⟩) ?_ ?_
           rotate_left
           ·intro w'
            go_simp
            with_reducible rfl
           rotate_left
           ·simp only [Act.put, List.setIfInBounds_toArray, List.set_cons_zero, List.set_cons_succ, zaR, zaS]
            rfl
           refine zbf (i := 4) (N := some 49) (v := ?_) (a' := ?_) #[true, false, true, true, true, false, false, false, false] rfl rfl (zaZ HT_.out (by kernel_rfl)) (fun _ _ _ h => h) (Or.inl ⟨by rfl, ?_⟩) ?_ ?_
           rotate_left
           ·intro w'
            go_simp
            with_reducible rfl
           rotate_left
           ·simp only [Act.put, List.setIfInBounds_toArray, List.set_cons_zero, List.set_cons_succ, zaR, zaS]
            rfl
           refine zbf (i := 5) (N := some 50) (v := ?_) (a' := ?_) #[true, false, true, true, true, true, false, false, false] rfl rfl (zaZ HT_.out (by kernel_rfl)) (fun _ _ _ h => h) (Or.inl ⟨by rfl, ?_⟩) ?_ ?_
           rotate_left
           ·intro w'
            go_simp
            with_reducible rfl
           rotate_left
           ·simp only [Act.put, List.setIfInBounds_toArray, List.set_cons_zero, List.set_cons_succ, zaR, zaS]
            rfl
           refine one_ (i := 1) (N := some 46) #[true, true, true, true, true, true, false, false, false] rfl rfl (one_of HT_.out (by kernel_rfl)) (by decide) (fun K hK => ?_)
           refine goes_ Tryd.func42 (by kernel_rfl) rfl #[.slice Ao16 x9_1.length co16] (by rfl) rfl rfl (by (try simp only [List.map_toArray, List.map_cons, List.map_nil]); first | done | rfl | (simp only [List.length_drop, List.length_take]; rfl)) ?_
           with_reducible refine (impl_write.calls kj7 _ _ x9_1 t563 _ ?side1 ?side2 A12.out).mono ?_
           (case side1 => repeat (first | exact (Kd.zbl HO_9.out).2.2 | (with_reducible refine Kd.C_alloc ?_ _) | (with_reducible refine Kd.C_drewN ?_ _) | (with_reducible refine Kd.C_drew ?_)))
           (case side2 => exact (Kd.zbl HO_9.out).2.1)
           rintro e w17 ⟨rfl, hb⟩
           refine ⟨_, rfl, ?_⟩
           have n0_ := zab.mk (Kd.zbi HO_7.out hb)
           have n1_ := zab.mk (Kd.zbi HO_9.out hb)
           have n2_ := zab.mk (zau HB.out hb)
           clear HO_7 HO_9 HB
           have HO_7 := n0_
           have HO_9 := n1_
           have HB := n2_
           clear n0_ n1_ n2_
           (try clear hb)
           (try clear hb2)
           (try clear hk)
           (try clear hi)
           refine hK.out _ _ trivial (fun hHeld => ?_)
           clear hK K
           refine norm_ (a' := ?_) ?_ ?_
           rotate_left
           ·show Act.put _ (some 46) _ = _
            simp only [Act.put, List.setIfInBounds_toArray, List.set_cons_zero, List.set_cons_succ, zaR, zaS]
            rfl
           refine zbf (i := 6) (N := some 6) (v := ?_) (a' := ?_) #[true, true, true, true, true, true, true, false, false] rfl rfl (zaZ HT_.out (by kernel_rfl)) (fun _ _ _ h => h) (Or.inl ⟨by rfl, ?_⟩) ?_ ?_
           rotate_left
           ·intro w'
            go_simp
            with_reducible rfl
           rotate_left
           ·simp only [Act.put, List.setIfInBounds_toArray, List.set_cons_zero, List.set_cons_succ, zaR, zaS]
            rfl
           refine zbf (i := 7) (N := some 7) (v := ?_) (a' := ?_) #[true, true, true, true, true, true, true, true, false] rfl rfl (zaZ HT_.out (by kernel_rfl)) (fun _ _ _ h => h) (Or.inl ⟨by rfl, ?_⟩) ?_ ?_
           rotate_left
           ·intro w'
            go_simp
            with_reducible rfl
           rotate_left
           ·simp only [Act.put, List.setIfInBounds_toArray, List.set_cons_zero, List.set_cons_succ, zaR, zaS]
            rfl
           refine zbf (i := 8) (N := some 8) (v := ?_) (a' := ?_) #[true, true, true, true, true, true, true, true, true] rfl rfl (zaZ HT_.out (by kernel_rfl)) (fun _ _ _ h => h) (Or.inl ⟨by rfl, ?_⟩) ?_ ?_
           rotate_left
           ·intro w'
            go_simp
            with_reducible rfl
           rotate_left
           ·simp only [Act.put, List.setIfInBounds_toArray, List.set_cons_zero, List.set_cons_succ, zaR, zaS]
            rfl
           refine done_ (done_of HT_.out (by kernel_rfl)) ?_
           try go_wp2
           go_ret3
           exact ⟨_, by first | rfl | (simp [zar, zas] <;> rfl) | (simp [*, zar, zas] <;> rfl), by (with_reducible repeat (first | apply Kd.R_alloc | apply Kd.zat | apply Kd.zaw)); exact Kd.za7 HO_7.out (fun _ hk => trivial), by repeat (first | (with_reducible first | exact HB.out | apply zad | apply zaa | apply zac) | exact HB.out)⟩
          rw [if_neg c14] at H
          exact absurd H (by simp)
         rw [if_neg c13] at H
         exact absurd H (by simp)
        replace c11 := Bool.eq_false_iff.mpr c11
        subst c11
        replace H : (if t561 = true then (if x7_1.length < 17592186044416 then (if x9_1.length < 17592186044416 then (zaQ.l0 kj7 a0 a1 a2 (x7_1 ++ [x10_1]) (x9_1 ++ [t559]) (wrap64 (x10_1 + t560))) else (none)) else (none)) else (if x9_1.length < 17592186044416 then (zaQ.l0 kj7 a0 a1 a2 x7_1 (x9_1 ++ [t559]) (wrap64 (x10_1 + t560))) else (none))) = some (r1, r2, r3) := by rw [if_neg (show ¬ (false = true) by decide)] at H; exact H
        by_cases c18 : t561 = true
        ·subst c18
         replace H : (if x7_1.length < 17592186044416 then (if x9_1.length < 17592186044416 then (zaQ.l0 kj7 a0 a1 a2 (x7_1 ++ [x10_1]) (x9_1 ++ [t559]) (wrap64 (x10_1 + t560))) else (none)) else (none)) = some (r1, r2, r3) := by rw [if_pos rfl] at H; exact H
         by_cases c19 : x7_1.length < 17592186044416
         ·rw [if_pos c19] at H; have LMc19 := zab.mk c19; clear c19
          obtain ⟨y564, hy564⟩ : ∃ y_ : List Int, y_ = (x7_1 ++ [x10_1]) := ⟨_, rfl⟩
          replace H : (if x9_1.length < 17592186044416 then (zaQ.l0 kj7 a0 a1 a2 y564 (x9_1 ++ [t559]) (wrap64 (x10_1 + t560))) else (none)) = some (r1, r2, r3) := by first | (rw [hy564]; with_reducible exact H) | (have H2_ := (Option.bind_some _ _).symm.trans H; rw [hy564]; with_reducible exact H2_) | (have H2_ := (Option.bind_some _ _).symm.trans H; with_reducible exact H2_) | with_reducible exact H | (rw [hy564]; exact H) | exact H
          have Ny564 := zab.mk hy564; clear hy564
          by_cases c20 : x9_1.length < 17592186044416
          ·rw [if_pos c20] at H; have LMc20 := zab.mk c20; clear c20
           obtain ⟨y567, hy567⟩ : ∃ y_ : List Int, y_ = (x9_1 ++ [t559]) := ⟨_, rfl⟩
           replace H : (zaQ.l0 kj7 a0 a1 a2 y564 y567 (wrap64 (x10_1 + t560))) = some (r1, r2, r3) := by first | (rw [hy567]; with_reducible exact H) | (have H2_ := (Option.bind_some _ _).symm.trans H; rw [hy567]; with_reducible exact H2_) | (have H2_ := (Option.bind_some _ _).symm.trans H; with_reducible exact H2_) | with_reducible exact H | (rw [hy567]; exact H) | exact H
           have Ny567 := zab.mk hy567; clear hy567; have H' := zab.mk H; clear H
           go_wp2_with (first | ((with_reducible refine gate_builtin (b := .append) (xs := #[.tmp 34, .tmp 36]) rfl ?_); at_builtin; refine Kd.R_append (Kd.int .i64) (w0 := w) w.heap.size rfl (.tmp 34) (.tmp 36) 25 2 (.int .i64 0) 8 rfl Tryd.underlying25 info2 rfl (by decide) (by omega) u7 x7_1 x10_1 [.int .i64 x10_1] (fun k_ => some k_ ≠ (u9 : Value).ownBlock) (fun _ => False) rfl rfl ?aP (fun _ hk => hk.elim) ?aF ?aO ?aB ?aS ?aL ?_; (case aP => exact rfl); (case aB => exact HB.out); (case aF => exact (fun k_ hk => Kd.fresh' (Kd.R_lt HO_9.out) k_ hk)); (case aO => exact HO_7.out); (case aS => exact (zav HB.out)); (case aL => have := LMc19.out; omega); intro v565 w21 ho hb hg hat; rw [← Ny564.out] at ho; have n0_ := zab.mk (Kd.R_after (ok := (fun _ => True)) (Kd.za7 HO_9.out (fun _ hk => ⟨trivial, hk⟩)) hg hat); have n1_ := zab.mk (hb); have n2_ := zab.mk (ho); clear HO_9 HB HO_7; have HO_9 := n0_; have HB := n1_; have HO566 := n2_; clear n0_ n1_ n2_ ho hb hg hat) | ((with_reducible refine gate_builtin (b := .append) (xs := #[.tmp 38, .tmp 40]) rfl ?_); at_builtin; refine Kd.R_append (Kd.int .i64) (w0 := w) w.heap.size rfl (.tmp 38) (.tmp 40) 25 2 (.int .i64 0) 8 rfl Tryd.underlying25 info2 rfl (by decide) (by omega) u9 x9_1 t559 [.int .i64 t559] (fun k_ => some k_ ≠ (v565 : Value).ownBlock) (fun _ => False) rfl rfl ?aP (fun _ hk => hk.elim) ?aF ?aO ?aB ?aS ?aL ?_; (case aP => exact rfl); (case aB => exact HB.out); (case aF => exact (fun k_ hk => Kd.fresh' (Kd.R_lt HO566.out) k_ hk)); (case aO => exact (Kd.za7 HO_9.out (fun _ hk => hk.2))); (case aS => exact (zav HB.out)); (case aL => have := LMc20.out; omega); intro v568 w22 ho hb hg hat; rw [← Ny567.out] at ho; have n0_ := zab.mk (Kd.R_after (ok := (fun _ => True)) (Kd.za7 HO566.out (fun _ hk => ⟨trivial, hk⟩)) hg hat); have n1_ := zab.mk (hb); have n2_ := zab.mk (ho); clear HO566 HB HO_9; have HO566 := n0_; have HB := n1_; have HO569 := n2_; clear n0_ n1_ n2_ ho hb hg hat))
           go_roundg kj7
           case measure => have := HK1.out; have := HJ7.out; omega
           case rel => exact ⟨(y564), (y567), (wrap64 (x10_1 + t560)), rfl, H', ⟨by have := HK1.out; have := HJ7.out; omega⟩, ⟨by (with_reducible repeat (first | apply Kd.R_alloc | apply Kd.zat | apply Kd.zaw)); exact Kd.za7 HO566.out (fun _ hk => hk.2)⟩, ⟨by (with_reducible repeat (first | apply Kd.R_alloc | apply Kd.zat | apply Kd.zaw)); exact HO569.out⟩, ⟨by repeat (first | (with_reducible first | exact HB.out | apply zad | apply zaa | apply zac) | exact HB.out)⟩⟩
          rw [if_neg c20] at H
          exact absurd H (by simp)
         rw [if_neg c19] at H
         exact absurd H (by simp)
        replace c18 := Bool.eq_false_iff.mpr c18
        subst c18
        replace H : (if x9_1.length < 17592186044416 then (zaQ.l0 kj7 a0 a1 a2 x7_1 (x9_1 ++ [t559]) (wrap64 (x10_1 + t560))) else (none)) = some (r1, r2, r3) := by rw [if_neg (show ¬ (false = true) by decide)] at H; exact H
        by_cases c23 : x9_1.length < 17592186044416
        ·rw [if_pos c23] at H; have LMc23 := zab.mk c23; clear c23
         obtain ⟨y570, hy570⟩ : ∃ y_ : List Int, y_ = (x9_1 ++ [t559]) := ⟨_, rfl⟩
         replace H : (zaQ.l0 kj7 a0 a1 a2 x7_1 y570 (wrap64 (x10_1 + t560))) = some (r1, r2, r3) := by first | (rw [hy570]; with_reducible exact H) | (have H2_ := (Option.bind_some _ _).symm.trans H; rw [hy570]; with_reducible exact H2_) | (have H2_ := (Option.bind_some _ _).symm.trans H; with_reducible exact H2_) | with_reducible exact H | (rw [hy570]; exact H) | exact H
         have Ny570 := zab.mk hy570; clear hy570; have H' := zab.mk H; clear H
         go_wp2_with (first | ((with_reducible refine gate_builtin (b := .append) (xs := #[.tmp 38, .tmp 40]) rfl ?_); at_builtin; refine Kd.R_append (Kd.int .i64) (w0 := w) w.heap.size rfl (.tmp 38) (.tmp 40) 25 2 (.int .i64 0) 8 rfl Tryd.underlying25 info2 rfl (by decide) (by omega) u9 x9_1 t559 [.int .i64 t559] (fun k_ => some k_ ≠ (u7 : Value).ownBlock) (fun _ => False) rfl rfl ?aP (fun _ hk => hk.elim) ?aF ?aO ?aB ?aS ?aL ?_; (case aP => exact rfl); (case aB => exact HB.out); (case aF => exact (fun k_ hk => Kd.fresh' (Kd.R_lt HO_7.out) k_ hk)); (case aO => exact HO_9.out); (case aS => exact (zav HB.out)); (case aL => have := LMc23.out; omega); intro v571 w24 ho hb hg hat; rw [← Ny570.out] at ho; have n0_ := zab.mk (Kd.R_after (ok := (fun _ => True)) (Kd.za7 HO_7.out (fun _ hk => ⟨trivial, hk⟩)) hg hat); have n1_ := zab.mk (hb); have n2_ := zab.mk (ho); clear HO_7 HB HO_9; have HO_7 := n0_; have HB := n1_; have HO572 := n2_; clear n0_ n1_ n2_ ho hb hg hat))
         go_roundg kj7
         case measure => have := HK1.out; have := HJ7.out; omega
         case rel => exact ⟨(x7_1), (y570), (wrap64 (x10_1 + t560)), rfl, H', ⟨by have := HK1.out; have := HJ7.out; omega⟩, ⟨by (with_reducible repeat (first | apply Kd.R_alloc | apply Kd.zat | apply Kd.zaw)); exact Kd.za7 HO_7.out (fun _ hk => hk.2)⟩, ⟨by (with_reducible repeat (first | apply Kd.R_alloc | apply Kd.zat | apply Kd.zaw)); exact HO572.out⟩, ⟨by repeat (first | (with_reducible first | exact HB.out | apply zad | apply zaa | apply zac) | exact HB.out)⟩⟩
        rw [if_neg c23] at H
        exact absurd H (by simp)
     rw [if_neg c6] at H
     exact absurd H (by simp)
    rw [if_neg c5] at H
    exact absurd H (by simp)
   rw [if_neg c4] at H
   have c4b0 : decide (x10_1 < (a1.size : Int)) = false := decide_eq_false c4
   clear c4; replace H := Option.bind_eq_some_iff.mp H
   obtain ⟨t558, A250, H⟩ := H
   replace H : (if 0 ≤ x10_1 then (if x10_1 ≤ (a1.size : Int) then (some (t558, x7_1, a1.extract (x10_1 : Int).toNat a1.size)) else (none)) else (none)) = some (r1, r2, r3) := H
   have A25 := zab.mk A250; clear A250
   by_cases c26 : 0 ≤ x10_1
   ·rw [if_pos c26] at H
    have c26b0 := eq_true c26
    have c26b1 : decide (0 ≤ x10_1) = true := decide_eq_true c26
    clear c26
    by_cases c27 : x10_1 ≤ (a1.size : Int)
    ·rw [if_pos c27] at H
     have c27b0 := eq_true c27
     have c27b1 : decide (x10_1 ≤ (a1.size : Int)) = true := decide_eq_true c27
     clear c27
     simp only [Option.some.injEq, Prod.mk.injEq] at H
     obtain ⟨rfl, rfl, rfl⟩ := H
     try go_wp2
     have n0_ := zab.mk (Kd.zaw HO_7.out)
     have n1_ := zab.mk (Kd.zaw HO_9.out)
     have n2_ := zab.mk (zac HB.out)
     clear HO_7 HO_9 HB
     have HO_7 := n0_
     have HO_9 := n1_
     have HB := n2_
     clear n0_ n1_ n2_
     obtain ⟨Ao29, co29, eo29⟩ := Kd.zbr HO_9.out
     (first | subst eo29 | (injection eo29 with f1_ f2_ f3_; have f4_ := f1_.symm; have f5_ := f3_.symm; clear f1_ f2_ f3_; subst f4_; subst f5_))
     refine start_ (n := 9) (S := fun w' => True) (ds := []) #[false, false, false, false, false, false, false, false, false] (by kernel_rfl) rfl rfl trivial (fun hHeld => ?_); refine with_tabW zaQ.tab10 zaQ.bits10 (fun HT_ HW_ => ?_)
     generalize wr.drew = w28 at HO_7 HO_9 HB hHeld ⊢
     refine zbf (i := 0) (N := some 45) (v := ?_) (a' := ?_) #[true, false, false, false, false, false, false, false, false] rfl rfl (zaZ HT_.out (by kernel_rfl)) (fun _ _ _ h => h) (Or.inl ⟨by rfl, ?_⟩) ?_ ?_
     rotate_left
     ·intro w'
      go_simp
      with_reducible rfl
     rotate_left
     ·simp only [Act.put, List.setIfInBounds_toArray, List.set_cons_zero, List.set_cons_succ, zaR, zaS]
      rfl
     refine zbf (i := 2) (N := some 47) (v := ?_) (a' := ?_) #[true, false, true, false, false, false, false, false, false] rfl rfl (zaZ HT_.out (by kernel_rfl)) (fun _ _ _ h => h) (Or.inl ⟨by rfl, ?_⟩) ?_ ?_
     rotate_left
     ·intro w'
      go_simp
      with_reducible rfl
     rotate_left
     ·simp only [Act.put, List.setIfInBounds_toArray, List.set_cons_zero, List.set_cons_succ, zaR, zaS]
      rfl
     refine zbf (i := 3) (N := some 48) (v := ?_) (a' := ?_) #[true, false, true, true, false, false, false, false, false] rfl rfl (zaZ HT_.out (by kernel_rfl)) (fun _ _ _ h => h) (Or.inl ⟨by rfl, ?_⟩) ?_ ?_
     rotate_left
     ·intro w'
      go_simp
      with_reducible rfl
     rotate_left
     ·simp only [Act.put, List.setIfInBounds_toArray, List.set_cons_zero, List.set_cons_succ, zaR, zaS]
      rfl
     refine zbf (i := 4) (N := some 49) (v := ?_) (a' := ?_) #[true, false, true, true, true, false, false, false, false] rfl rfl (zaZ HT_.out (by kernel_rfl)) (fun _ _ _ h => h) (Or.inl ⟨by rfl, ?_⟩) ?_ ?_
     rotate_left
     ·intro w'
      go_simp
      with_reducible rfl
     rotate_left
     ·simp only [Act.put, List.setIfInBounds_toArray, List.set_cons_zero, List.set_cons_succ, zaR, zaS]
      rfl
     refine zbf (i := 5) (N := some 50) (v := ?_) (a' := ?_) #[true, false, true, true, true, true, false, false, false] rfl rfl (zaZ HT_.out (by kernel_rfl)) (fun _ _ _ h => h) (Or.inl ⟨by rfl, ?_⟩) ?_ ?_
     rotate_left
     ·intro w'
      go_simp
      with_reducible rfl
     rotate_left
     ·simp only [Act.put, List.setIfInBounds_toArray, List.set_cons_zero, List.set_cons_succ, zaR, zaS]
      rfl
     refine one_ (i := 1) (N := some 46) #[true, true, true, true, true, true, false, false, false] rfl rfl (one_of HT_.out (by kernel_rfl)) (by decide) (fun K hK => ?_)
     refine goes_ Tryd.func42 (by kernel_rfl) rfl #[.slice Ao29 x9_1.length co29] (by rfl) rfl rfl (by (try simp only [List.map_toArray, List.map_cons, List.map_nil]); first | done | rfl | (simp only [List.length_drop, List.length_take]; rfl)) ?_
     with_reducible refine (impl_write.calls k1 _ _ x9_1 t558 _ ?side1 ?side2 A25.out).mono ?_
     (case side1 => repeat (first | exact (Kd.zbl HO_9.out).2.2 | (with_reducible refine Kd.C_alloc ?_ _) | (with_reducible refine Kd.C_drewN ?_ _) | (with_reducible refine Kd.C_drew ?_)))
     (case side2 => exact (Kd.zbl HO_9.out).2.1)
     rintro e w30 ⟨rfl, hb⟩
     refine ⟨_, rfl, ?_⟩
     have n0_ := zab.mk (Kd.zbi HO_7.out hb)
     have n1_ := zab.mk (Kd.zbi HO_9.out hb)
     have n2_ := zab.mk (zau HB.out hb)
     clear HO_7 HO_9 HB
     have HO_7 := n0_
     have HO_9 := n1_
     have HB := n2_
     clear n0_ n1_ n2_
     (try clear hb)
     (try clear hb2)
     (try clear hk)
     (try clear hi)
     refine hK.out _ _ trivial (fun hHeld => ?_)
     clear hK K
     refine norm_ (a' := ?_) ?_ ?_
     rotate_left
     ·show Act.put _ (some 46) _ = _
      simp only [Act.put, List.setIfInBounds_toArray, List.set_cons_zero, List.set_cons_succ, zaR, zaS]
      rfl
     refine zbf (i := 6) (N := some 6) (v := ?_) (a' := ?_) #[true, true, true, true, true, true, true, false, false] rfl rfl (zaZ HT_.out (by kernel_rfl)) (fun _ _ _ h => h) (Or.inl ⟨by rfl, ?_⟩) ?_ ?_
     rotate_left
     ·intro w'
      go_simp
      with_reducible rfl
     rotate_left
     ·simp only [Act.put, List.setIfInBounds_toArray, List.set_cons_zero, List.set_cons_succ, zaR, zaS]
      rfl
     refine zbf (i := 7) (N := some 7) (v := ?_) (a' := ?_) #[true, true, true, true, true, true, true, true, false] rfl rfl (zaZ HT_.out (by kernel_rfl)) (fun _ _ _ h => h) (Or.inl ⟨by rfl, ?_⟩) ?_ ?_
     rotate_left
     ·intro w'
      go_simp
      with_reducible rfl
     rotate_left
     ·simp only [Act.put, List.setIfInBounds_toArray, List.set_cons_zero, List.set_cons_succ, zaR, zaS]
      rfl
     refine zbf (i := 8) (N := some 8) (v := ?_) (a' := ?_) #[true, true, true, true, true, true, true, true, true] rfl rfl (zaZ HT_.out (by kernel_rfl)) (fun _ _ _ h => h) (Or.inl ⟨by rfl, ?_⟩) ?_ ?_
     rotate_left
     ·intro w'
      go_simp
      with_reducible rfl
     rotate_left
     ·simp only [Act.put, List.setIfInBounds_toArray, List.set_cons_zero, List.set_cons_succ, zaR, zaS]
      rfl
     refine done_ (done_of HT_.out (by kernel_rfl)) ?_
     try go_wp2
     go_ret3
     exact ⟨_, by first | rfl | (simp [zar, zas] <;> rfl) | (simp [*, zar, zas] <;> rfl), by (with_reducible repeat (first | apply Kd.R_alloc | apply Kd.zat | apply Kd.zaw)); exact Kd.za7 HO_7.out (fun _ hk => trivial), by repeat (first | (with_reducible first | exact HB.out | apply zad | apply zaa | apply zac) | exact HB.out)⟩
    rw [if_neg c27] at H
    exact absurd H (by simp)
   rw [if_neg c26] at H
   exact absurd H (by simp)
def impl_Decode.f (k : Nat) (a0 : Int) (a1 : ByteArray) : Option (Int × ByteArray × List Int) := (zbw.f a1).bind fun t574 => (if t574 = true then (some (2, (⟨#[]⟩ : ByteArray), ([] : List Int))) else ((impl_isForm.f a0).bind fun t575 => (if t575 = true then ((zaQ.f k a0 a1 false).bind fun bt576 => ((zbw.f bt576.1).bind fun t581 => (if t581 = true then (some (2, (⟨#[]⟩ : ByteArray), ([] : List Int))) else (some (0, bt576.1, bt576.2.1))))) else (some (1, (⟨#[]⟩ : ByteArray), ([] : List Int))))))
set_option maxHeartbeats 8000000 in
set_option maxRecDepth 100000 in
theorem impl_Decode.calls (k : Nat) (a0 : Int) (a1 : ByteArray) (r1 : Int) (r2 : ByteArray) (r3 : List Int) (w : World) (hG : GT w) (h : impl_Decode.f k a0 a1 = some (r1, r2, r3)) :
  Calls Tryd.prog 7 #[.int .i64 a0, .string a1] w fun e w' => ∃ v2_ : Value, e = .returned (.agg #[.int .i64 r1, .string r2, v2_]) ∧ Kd.R (Kd.int .i64) 2 w' w.heap.size (fun _ => True) v2_ r3 ∧ Below w.heap.size w w' := by
 have hu27 := Tryd.underlying27
 have HG := zab.mk hG; clear hG
 have HB := zab.mk (Below.refl w.heap.size w)
 have H : ((zbw.f a1).bind fun t574 => (if t574 = true then (some (2, (⟨#[]⟩ : ByteArray), ([] : List Int))) else ((impl_isForm.f a0).bind fun t575 => (if t575 = true then ((zaQ.f k a0 a1 false).bind fun bt576 => ((zbw.f bt576.1).bind fun t581 => (if t581 = true then (some (2, (⟨#[]⟩ : ByteArray), ([] : List Int))) else (some (0, bt576.1, bt576.2.1))))) else (some (1, (⟨#[]⟩ : ByteArray), ([] : List Int))))))) = some (r1, r2, r3) := h
 clear h; replace H := Option.bind_eq_some_iff.mp H
 obtain ⟨t574, A30, H⟩ := H
 replace H : (if t574 = true then (some (2, (⟨#[]⟩ : ByteArray), ([] : List Int))) else ((impl_isForm.f a0).bind fun t575 => (if t575 = true then ((zaQ.f k a0 a1 false).bind fun bt576 => ((zbw.f bt576.1).bind fun t581 => (if t581 = true then (some (2, (⟨#[]⟩ : ByteArray), ([] : List Int))) else (some (0, bt576.1, bt576.2.1))))) else (some (1, (⟨#[]⟩ : ByteArray), ([] : List Int)))))) = some (r1, r2, r3) := H
 have A3 := zab.mk A30; clear A30
 by_cases c4 : t574 = true
 ·subst c4
  replace H : (some (2, (⟨#[]⟩ : ByteArray), ([] : List Int))) = some (r1, r2, r3) := by rw [if_pos rfl] at H; exact H
  simp only [Option.some.injEq, Prod.mk.injEq] at H
  obtain ⟨rfl, rfl, rfl⟩ := H
  go_enter Tryd.func7, Tryd.ntmps7
  go_wp2_with (first | ((with_reducible refine zbb (N := 4) rfl ?_); refine zbs ?hg (N := 4) ?hd (cs := #[.int .i64 0, .string (⟨#[]⟩ : ByteArray), .slice none 0 0]) (t := 27) ?hr ?_; (case hd => rfl); (case hg => rfl); (case hr => first | (go_simp; done) | (go_simp; rfl)); intro gb573 hg w5 hbox hb; have n0_ := zab.mk (zau HB.out hb); have n1_ := zab.mk (hbox); have n2_ := zab.mk ((by rw [hg]; exact (zav HB.out) : w.heap.size ≤ gb573)); have n3_ := zab.mk ((by rw [hg]; exact (zav HB.out) : w.heap.size ≤ gb573)); clear HB; have HB := n0_; have BK573 := n1_; have GW573 := n2_; have GE573 := n3_; clear n0_ n1_ n2_ n3_ hb hbox hg) | ((with_reducible refine zan (f := 24) rfl ?_); refine zaN (some 9) rfl rfl Tryd.func24 (by kernel_rfl) rfl #[.string a1] rfl (by (try simp only [List.map_toArray, List.map_cons, List.map_nil]); first | done | rfl | (simp only [List.length_drop, List.length_take]; rfl)) ?_; (with_reducible refine (zbw.calls a1 true _ A3.out).mono ?_); rintro e w' ⟨rfl, ⟨nd, rfl⟩⟩; refine ⟨_, rfl, ?_⟩; (try (rw [drewN_self w5]; generalize hq_ : World.drewN w5 _ = w5; have n0_ : zab (w5.heap[gb573]? = some (.cells #[.int .i64 0, .string (⟨#[]⟩ : ByteArray), .slice none 0 0] 27 (0, 0))) := ⟨by rw [← hq_]; exact (by (with_reducible repeat (first | refine zai ?_ _ | refine zak ?_ | refine zah ?_ _)); exact BK573.out)⟩; have n1_ : zab (Below w.heap.size w w5) := ⟨by rw [← hq_]; exact (by repeat (first | (with_reducible first | exact HB.out | apply zad | apply zaa | apply zac | refine zae ?_ GE573.out) | exact HB.out))⟩; clear BK573 HB hq_; have BK573 := n0_; have HB := n1_; clear n0_ n1_)); have hcz6_0 : w5.cell? ⟨gb573, 0, none⟩ = some (.int .i64 0) := (zal BK573.out 0).trans rfl; have hcz6_1 : w5.cell? ⟨gb573, 1, none⟩ = some (.string (⟨#[]⟩ : ByteArray)) := (zal BK573.out 1).trans rfl; have hcz6_2 : w5.cell? ⟨gb573, 2, none⟩ = some (.slice none 0 0) := (zal BK573.out 2).trans rfl; have hfz6_0 := zam BK573.out 0; have hfz6_1 := zam BK573.out 1; have hfz6_2 := zam BK573.out 2))
  refine bodyPost_ret (results_cell_row rfl _ _ gb573 27 #[.int .i64 2, .string (⟨#[]⟩ : ByteArray), .slice none 0 0] (0, 0) _ rfl (by (with_reducible repeat (first | refine zai ?_ _ | refine zak ?_ | refine zah ?_ _)); refine zaG (cs := #[.int .i64 2, .string (⟨#[]⟩ : ByteArray), .slice none 0 0]) ?_ 2 _ rfl; (with_reducible repeat (first | refine zai ?_ _ | refine zak ?_ | refine zah ?_ _)); refine zaG (cs := #[.int .i64 2, .string (⟨#[]⟩ : ByteArray), .slice none 0 0]) ?_ 1 _ rfl; (with_reducible repeat (first | refine zai ?_ _ | refine zak ?_ | refine zah ?_ _)); refine zaG (cs := #[.int .i64 0, .string (⟨#[]⟩ : ByteArray), .slice none 0 0]) ?_ 0 _ rfl; (with_reducible repeat (first | refine zai ?_ _ | refine zak ?_ | refine zah ?_ _)); exact BK573.out) Tryd.underlying27 rfl (by kernel_rfl)) rfl ?_
  exact ⟨_, by first | rfl | (simp [zar, zas] <;> rfl) | (simp [*, zar, zas] <;> rfl), by first | exact Kd.R_nil _ _ _ _ _ | exact Kd.N_nil _ _ _ _ _ | exact Kd.V_nil _ _ _ _ _ | exact Kd.Q_nil _ _ _ _ _ | exact Kd.S_nil _ _ _ _ _, by repeat (first | (with_reducible first | exact HB.out | apply zad | apply zaa | apply zac | refine zae ?_ GE573.out) | exact HB.out)⟩
 replace c4 := Bool.eq_false_iff.mpr c4
 subst c4
 replace H : ((impl_isForm.f a0).bind fun t575 => (if t575 = true then ((zaQ.f k a0 a1 false).bind fun bt576 => ((zbw.f bt576.1).bind fun t581 => (if t581 = true then (some (2, (⟨#[]⟩ : ByteArray), ([] : List Int))) else (some (0, bt576.1, bt576.2.1))))) else (some (1, (⟨#[]⟩ : ByteArray), ([] : List Int))))) = some (r1, r2, r3) := by rw [if_neg (show ¬ (false = true) by decide)] at H; exact H
 replace H := Option.bind_eq_some_iff.mp H
 obtain ⟨t575, A70, H⟩ := H
 replace H : (if t575 = true then ((zaQ.f k a0 a1 false).bind fun bt576 => ((zbw.f bt576.1).bind fun t581 => (if t581 = true then (some (2, (⟨#[]⟩ : ByteArray), ([] : List Int))) else (some (0, bt576.1, bt576.2.1))))) else (some (1, (⟨#[]⟩ : ByteArray), ([] : List Int)))) = some (r1, r2, r3) := H
 have A7 := zab.mk A70; clear A70
 by_cases c8 : t575 = true
 ·subst c8
  replace H : ((zaQ.f k a0 a1 false).bind fun bt576 => ((zbw.f bt576.1).bind fun t581 => (if t581 = true then (some (2, (⟨#[]⟩ : ByteArray), ([] : List Int))) else (some (0, bt576.1, bt576.2.1))))) = some (r1, r2, r3) := by rw [if_pos rfl] at H; exact H
  replace H := Option.bind_eq_some_iff.mp H
  obtain ⟨⟨t576, t577, t578⟩, A90, H⟩ := H
  replace H : ((zbw.f t576).bind fun t581 => (if t581 = true then (some (2, (⟨#[]⟩ : ByteArray), ([] : List Int))) else (some (0, t576, t577)))) = some (r1, r2, r3) := H
  have A9 := zab.mk A90; clear A90; replace H := Option.bind_eq_some_iff.mp H
  obtain ⟨t581, A100, H⟩ := H
  replace H : (if t581 = true then (some (2, (⟨#[]⟩ : ByteArray), ([] : List Int))) else (some (0, t576, t577))) = some (r1, r2, r3) := H
  have A10 := zab.mk A100; clear A100
  by_cases c11 : t581 = true
  ·subst c11
   replace H : (some (2, (⟨#[]⟩ : ByteArray), ([] : List Int))) = some (r1, r2, r3) := by rw [if_pos rfl] at H; exact H
   simp only [Option.some.injEq, Prod.mk.injEq] at H
   obtain ⟨rfl, rfl, rfl⟩ := H
   go_enter Tryd.func7, Tryd.ntmps7
   go_wp2_with (first | ((with_reducible refine zbb (N := 4) rfl ?_); refine zbs ?hg (N := 4) ?hd (cs := #[.int .i64 0, .string (⟨#[]⟩ : ByteArray), .slice none 0 0]) (t := 27) ?hr ?_; (case hd => rfl); (case hg => rfl); (case hr => first | (go_simp; done) | (go_simp; rfl)); intro gb573 hg w12 hbox hb; have n0_ := zab.mk (zau HB.out hb); have n1_ := zab.mk (hbox); have n2_ := zab.mk ((by rw [hg]; exact (zav HB.out) : w.heap.size ≤ gb573)); have n3_ := zab.mk ((by rw [hg]; exact (zav HB.out) : w.heap.size ≤ gb573)); clear HB; have HB := n0_; have BK573 := n1_; have GW573 := n2_; have GE573 := n3_; clear n0_ n1_ n2_ n3_ hb hbox hg) | ((with_reducible refine zan (f := 24) rfl ?_); refine zaN (some 9) rfl rfl Tryd.func24 (by kernel_rfl) rfl #[.string a1] rfl (by (try simp only [List.map_toArray, List.map_cons, List.map_nil]); first | done | rfl | (simp only [List.length_drop, List.length_take]; rfl)) ?_; (with_reducible refine (zbw.calls a1 false _ A3.out).mono ?_); rintro e w' ⟨rfl, ⟨nd, rfl⟩⟩; refine ⟨_, rfl, ?_⟩; (try (rw [drewN_self w12]; generalize hq_ : World.drewN w12 _ = w12; have n0_ : zab (w12.heap[gb573]? = some (.cells #[.int .i64 0, .string (⟨#[]⟩ : ByteArray), .slice none 0 0] 27 (0, 0))) := ⟨by rw [← hq_]; exact (by (with_reducible repeat (first | refine zai ?_ _ | refine zak ?_ | refine zah ?_ _)); exact BK573.out)⟩; have n1_ : zab (Below w.heap.size w w12) := ⟨by rw [← hq_]; exact (by repeat (first | (with_reducible first | exact HB.out | apply zad | apply zaa | apply zac | refine zae ?_ GE573.out) | exact HB.out))⟩; clear BK573 HB hq_; have BK573 := n0_; have HB := n1_; clear n0_ n1_))) | ((with_reducible refine zan (f := 25) rfl ?_); refine zaN (some 12) rfl rfl Tryd.func25 (by kernel_rfl) rfl #[.int .i64 a0] rfl (by (try simp only [List.map_toArray, List.map_cons, List.map_nil]); first | done | rfl | (simp only [List.length_drop, List.length_take]; rfl)) ?_; (with_reducible refine (impl_isForm.calls a0 true _ A7.out).mono ?_); rintro e w' ⟨rfl, ⟨nd, rfl⟩⟩; refine ⟨_, rfl, ?_⟩; (try (rw [drewN_self w12]; generalize hq_ : World.drewN w12 _ = w12; have n0_ : zab (w12.heap[gb573]? = some (.cells #[.int .i64 0, .string (⟨#[]⟩ : ByteArray), .slice none 0 0] 27 (0, 0))) := ⟨by rw [← hq_]; exact (by (with_reducible repeat (first | refine zai ?_ _ | refine zak ?_ | refine zah ?_ _)); exact BK573.out)⟩; have n1_ : zab (Below w.heap.size w w12) := ⟨by rw [← hq_]; exact (by repeat (first | (with_reducible first | exact HB.out | apply zad | apply zaa | apply zac | refine zae ?_ GE573.out) | exact HB.out))⟩; clear BK573 HB hq_; have BK573 := n0_; have HB := n1_; clear n0_ n1_))) | ((with_reducible refine zan (f := 26) rfl ?_); refine zaN (some 18) rfl rfl Tryd.func26 (by kernel_rfl) rfl #[.int .i64 a0, .string a1, .bool false] rfl (by (try simp only [List.map_toArray, List.map_cons, List.map_nil]); first | done | rfl | (simp only [List.length_drop, List.length_take]; rfl)) ?_; (with_reducible refine (zaQ.calls k a0 a1 false t576 t577 t578 _ ?side1 A9.out).mono ?_); (case side1 => exact GT_below HG.out HB.out); rintro e w13 ⟨v579, rfl, ho0, hb⟩; refine ⟨_, rfl, ?_⟩; have n0_ := zab.mk (Kd.zbm ho0 (zav HB.out)); have n1_ := zab.mk (zaL (g := gb573) (o := .cells #[.int .i64 0, .string (⟨#[]⟩ : ByteArray), .slice none 0 0] 27 (0, 0)) BK573.out hb); have n2_ := zab.mk (zau HB.out hb); clear BK573 HB; have HO580 := n0_; have BK573 := n1_; have HB := n2_; clear n0_ n1_ n2_; (try clear hb); (try clear hb2); (try clear hk); (try clear hi); (try clear ho0)) | ((with_reducible refine zan (f := 24) rfl ?_); refine zaN (some 23) rfl rfl Tryd.func24 (by kernel_rfl) rfl #[.string t576] rfl (by (try simp only [List.map_toArray, List.map_cons, List.map_nil]); first | done | rfl | (simp only [List.length_drop, List.length_take]; rfl)) ?_; (with_reducible refine (zbw.calls t576 true _ A10.out).mono ?_); rintro e w' ⟨rfl, ⟨nd, rfl⟩⟩; refine ⟨_, rfl, ?_⟩; (try (rw [drewN_self w13]; generalize hq_ : World.drewN w13 _ = w13; have n0_ : zab (Kd.R (Kd.int .i64) 2 w13 w.heap.size (fun _ => True) v579 t577) := ⟨by rw [← hq_]; exact (by (with_reducible repeat (first | apply Kd.R_alloc | apply Kd.zat | apply Kd.zaw)); exact HO580.out)⟩; have n1_ : zab (w13.heap[gb573]? = some (.cells #[.int .i64 0, .string (⟨#[]⟩ : ByteArray), .slice none 0 0] 27 (0, 0))) := ⟨by rw [← hq_]; exact (by (with_reducible repeat (first | refine zai ?_ _ | refine zak ?_ | refine zah ?_ _)); exact BK573.out)⟩; have n2_ : zab (Below w.heap.size w w13) := ⟨by rw [← hq_]; exact (by repeat (first | (with_reducible first | exact HB.out | apply zad | apply zaa | apply zac | refine zae ?_ GE573.out) | exact HB.out))⟩; clear HO580 BK573 HB hq_; have HO580 := n0_; have BK573 := n1_; have HB := n2_; clear n0_ n1_ n2_)); have hcz14_0 : w13.cell? ⟨gb573, 0, none⟩ = some (.int .i64 0) := (zal BK573.out 0).trans rfl; have hcz14_1 : w13.cell? ⟨gb573, 1, none⟩ = some (.string (⟨#[]⟩ : ByteArray)) := (zal BK573.out 1).trans rfl; have hcz14_2 : w13.cell? ⟨gb573, 2, none⟩ = some (.slice none 0 0) := (zal BK573.out 2).trans rfl; have hfz14_0 := zam BK573.out 0; have hfz14_1 := zam BK573.out 1; have hfz14_2 := zam BK573.out 2))
   refine bodyPost_ret (results_cell_row rfl _ _ gb573 27 #[.int .i64 2, .string (⟨#[]⟩ : ByteArray), .slice none 0 0] (0, 0) _ rfl (by (with_reducible repeat (first | refine zai ?_ _ | refine zak ?_ | refine zah ?_ _)); refine zaG (cs := #[.int .i64 2, .string (⟨#[]⟩ : ByteArray), .slice none 0 0]) ?_ 2 _ rfl; (with_reducible repeat (first | refine zai ?_ _ | refine zak ?_ | refine zah ?_ _)); refine zaG (cs := #[.int .i64 2, .string (⟨#[]⟩ : ByteArray), .slice none 0 0]) ?_ 1 _ rfl; (with_reducible repeat (first | refine zai ?_ _ | refine zak ?_ | refine zah ?_ _)); refine zaG (cs := #[.int .i64 0, .string (⟨#[]⟩ : ByteArray), .slice none 0 0]) ?_ 0 _ rfl; (with_reducible repeat (first | refine zai ?_ _ | refine zak ?_ | refine zah ?_ _)); exact BK573.out) Tryd.underlying27 rfl (by kernel_rfl)) rfl ?_
   exact ⟨_, by first | rfl | (simp [zar, zas] <;> rfl) | (simp [*, zar, zas] <;> rfl), by first | exact Kd.R_nil _ _ _ _ _ | exact Kd.N_nil _ _ _ _ _ | exact Kd.V_nil _ _ _ _ _ | exact Kd.Q_nil _ _ _ _ _ | exact Kd.S_nil _ _ _ _ _, by repeat (first | (with_reducible first | exact HB.out | apply zad | apply zaa | apply zac | refine zae ?_ GE573.out) | exact HB.out)⟩
  replace c11 := Bool.eq_false_iff.mpr c11
  subst c11
  replace H : (some (0, t576, t577)) = some (r1, r2, r3) := by rw [if_neg (show ¬ (false = true) by decide)] at H; exact H
  simp only [Option.some.injEq, Prod.mk.injEq] at H
  obtain ⟨rfl, rfl, rfl⟩ := H
  go_enter Tryd.func7, Tryd.ntmps7
  go_wp2_with (first | ((with_reducible refine zbb (N := 4) rfl ?_); refine zbs ?hg (N := 4) ?hd (cs := #[.int .i64 0, .string (⟨#[]⟩ : ByteArray), .slice none 0 0]) (t := 27) ?hr ?_; (case hd => rfl); (case hg => rfl); (case hr => first | (go_simp; done) | (go_simp; rfl)); intro gb573 hg w15 hbox hb; have n0_ := zab.mk (zau HB.out hb); have n1_ := zab.mk (hbox); have n2_ := zab.mk ((by rw [hg]; exact (zav HB.out) : w.heap.size ≤ gb573)); have n3_ := zab.mk ((by rw [hg]; exact (zav HB.out) : w.heap.size ≤ gb573)); clear HB; have HB := n0_; have BK573 := n1_; have GW573 := n2_; have GE573 := n3_; clear n0_ n1_ n2_ n3_ hb hbox hg) | ((with_reducible refine zan (f := 24) rfl ?_); refine zaN (some 9) rfl rfl Tryd.func24 (by kernel_rfl) rfl #[.string a1] rfl (by (try simp only [List.map_toArray, List.map_cons, List.map_nil]); first | done | rfl | (simp only [List.length_drop, List.length_take]; rfl)) ?_; (with_reducible refine (zbw.calls a1 false _ A3.out).mono ?_); rintro e w' ⟨rfl, ⟨nd, rfl⟩⟩; refine ⟨_, rfl, ?_⟩; (try (rw [drewN_self w15]; generalize hq_ : World.drewN w15 _ = w15; have n0_ : zab (w15.heap[gb573]? = some (.cells #[.int .i64 0, .string (⟨#[]⟩ : ByteArray), .slice none 0 0] 27 (0, 0))) := ⟨by rw [← hq_]; exact (by (with_reducible repeat (first | refine zai ?_ _ | refine zak ?_ | refine zah ?_ _)); exact BK573.out)⟩; have n1_ : zab (Below w.heap.size w w15) := ⟨by rw [← hq_]; exact (by repeat (first | (with_reducible first | exact HB.out | apply zad | apply zaa | apply zac | refine zae ?_ GE573.out) | exact HB.out))⟩; clear BK573 HB hq_; have BK573 := n0_; have HB := n1_; clear n0_ n1_))) | ((with_reducible refine zan (f := 25) rfl ?_); refine zaN (some 12) rfl rfl Tryd.func25 (by kernel_rfl) rfl #[.int .i64 a0] rfl (by (try simp only [List.map_toArray, List.map_cons, List.map_nil]); first | done | rfl | (simp only [List.length_drop, List.length_take]; rfl)) ?_; (with_reducible refine (impl_isForm.calls a0 true _ A7.out).mono ?_); rintro e w' ⟨rfl, ⟨nd, rfl⟩⟩; refine ⟨_, rfl, ?_⟩; (try (rw [drewN_self w15]; generalize hq_ : World.drewN w15 _ = w15; have n0_ : zab (w15.heap[gb573]? = some (.cells #[.int .i64 0, .string (⟨#[]⟩ : ByteArray), .slice none 0 0] 27 (0, 0))) := ⟨by rw [← hq_]; exact (by (with_reducible repeat (first | refine zai ?_ _ | refine zak ?_ | refine zah ?_ _)); exact BK573.out)⟩; have n1_ : zab (Below w.heap.size w w15) := ⟨by rw [← hq_]; exact (by repeat (first | (with_reducible first | exact HB.out | apply zad | apply zaa | apply zac | refine zae ?_ GE573.out) | exact HB.out))⟩; clear BK573 HB hq_; have BK573 := n0_; have HB := n1_; clear n0_ n1_))) | ((with_reducible refine zan (f := 26) rfl ?_); refine zaN (some 18) rfl rfl Tryd.func26 (by kernel_rfl) rfl #[.int .i64 a0, .string a1, .bool false] rfl (by (try simp only [List.map_toArray, List.map_cons, List.map_nil]); first | done | rfl | (simp only [List.length_drop, List.length_take]; rfl)) ?_; (with_reducible refine (zaQ.calls k a0 a1 false t576 t577 t578 _ ?side1 A9.out).mono ?_); (case side1 => exact GT_below HG.out HB.out); rintro e w16 ⟨v579, rfl, ho0, hb⟩; refine ⟨_, rfl, ?_⟩; have n0_ := zab.mk (Kd.zbm ho0 (zav HB.out)); have n1_ := zab.mk (zaL (g := gb573) (o := .cells #[.int .i64 0, .string (⟨#[]⟩ : ByteArray), .slice none 0 0] 27 (0, 0)) BK573.out hb); have n2_ := zab.mk (zau HB.out hb); clear BK573 HB; have HO580 := n0_; have BK573 := n1_; have HB := n2_; clear n0_ n1_ n2_; (try clear hb); (try clear hb2); (try clear hk); (try clear hi); (try clear ho0)) | ((with_reducible refine zan (f := 24) rfl ?_); refine zaN (some 23) rfl rfl Tryd.func24 (by kernel_rfl) rfl #[.string t576] rfl (by (try simp only [List.map_toArray, List.map_cons, List.map_nil]); first | done | rfl | (simp only [List.length_drop, List.length_take]; rfl)) ?_; (with_reducible refine (zbw.calls t576 false _ A10.out).mono ?_); rintro e w' ⟨rfl, ⟨nd, rfl⟩⟩; refine ⟨_, rfl, ?_⟩; (try (rw [drewN_self w16]; generalize hq_ : World.drewN w16 _ = w16; have n0_ : zab (Kd.R (Kd.int .i64) 2 w16 w.heap.size (fun _ => True) v579 t577) := ⟨by rw [← hq_]; exact (by (with_reducible repeat (first | apply Kd.R_alloc | apply Kd.zat | apply Kd.zaw)); exact HO580.out)⟩; have n1_ : zab (w16.heap[gb573]? = some (.cells #[.int .i64 0, .string (⟨#[]⟩ : ByteArray), .slice none 0 0] 27 (0, 0))) := ⟨by rw [← hq_]; exact (by (with_reducible repeat (first | refine zai ?_ _ | refine zak ?_ | refine zah ?_ _)); exact BK573.out)⟩; have n2_ : zab (Below w.heap.size w w16) := ⟨by rw [← hq_]; exact (by repeat (first | (with_reducible first | exact HB.out | apply zad | apply zaa | apply zac | refine zae ?_ GE573.out) | exact HB.out))⟩; clear HO580 BK573 HB hq_; have HO580 := n0_; have BK573 := n1_; have HB := n2_; clear n0_ n1_ n2_)); obtain ⟨Ao17, co17, eo17⟩ := Kd.zbr HO580.out; subst eo17; have hcz18_0 : w16.cell? ⟨gb573, 0, none⟩ = some (.int .i64 0) := (zal BK573.out 0).trans rfl; have hcz18_1 : w16.cell? ⟨gb573, 1, none⟩ = some (.string (⟨#[]⟩ : ByteArray)) := (zal BK573.out 1).trans rfl; have hcz18_2 : w16.cell? ⟨gb573, 2, none⟩ = some (.slice none 0 0) := (zal BK573.out 2).trans rfl; have hfz18_0 := zam BK573.out 0; have hfz18_1 := zam BK573.out 1; have hfz18_2 := zam BK573.out 2))
  refine bodyPost_ret (results_cell_row rfl _ _ gb573 27 #[.int .i64 0, .string t576, .slice Ao17 t577.length co17] (0, 0) _ rfl (by (with_reducible repeat (first | refine zai ?_ _ | refine zak ?_ | refine zah ?_ _)); refine zaG (cs := #[.int .i64 0, .string t576, .slice none 0 0]) ?_ 2 _ rfl; (with_reducible repeat (first | refine zai ?_ _ | refine zak ?_ | refine zah ?_ _)); refine zaG (cs := #[.int .i64 0, .string (⟨#[]⟩ : ByteArray), .slice none 0 0]) ?_ 1 _ rfl; (with_reducible repeat (first | refine zai ?_ _ | refine zak ?_ | refine zah ?_ _)); refine zaG (cs := #[.int .i64 0, .string (⟨#[]⟩ : ByteArray), .slice none 0 0]) ?_ 0 _ rfl; (with_reducible repeat (first | refine zai ?_ _ | refine zak ?_ | refine zah ?_ _)); exact BK573.out) Tryd.underlying27 rfl (by kernel_rfl)) rfl ?_
  exact ⟨_, by first | rfl | (simp [zar, zas] <;> rfl) | (simp [*, zar, zas] <;> rfl), by (with_reducible repeat (first | apply Kd.R_alloc | apply Kd.zat | apply Kd.zaw)); exact Kd.za7 (Kd.za0 (p := ⟨gb573, 2, none⟩) (Kd.za0 (p := ⟨gb573, 1, none⟩) (Kd.za0 (p := ⟨gb573, 0, none⟩) (Kd.zbF HO580.out BK573.out (by decide)) (fun _ hk => hk.2) (.int .i64 0)) (fun _ hk => hk.2) (.string t576)) (fun _ hk => hk.2) (.slice Ao17 t577.length co17)) (fun _ hk => trivial), by repeat (first | (with_reducible first | exact HB.out | apply zad | apply zaa | apply zac | refine zae ?_ GE573.out) | exact HB.out)⟩
 replace c8 := Bool.eq_false_iff.mpr c8
 subst c8
 replace H : (some (1, (⟨#[]⟩ : ByteArray), ([] : List Int))) = some (r1, r2, r3) := by rw [if_neg (show ¬ (false = true) by decide)] at H; exact H
 simp only [Option.some.injEq, Prod.mk.injEq] at H
 obtain ⟨rfl, rfl, rfl⟩ := H
 go_enter Tryd.func7, Tryd.ntmps7
 go_wp2_with (first | ((with_reducible refine zbb (N := 4) rfl ?_); refine zbs ?hg (N := 4) ?hd (cs := #[.int .i64 0, .string (⟨#[]⟩ : ByteArray), .slice none 0 0]) (t := 27) ?hr ?_; (case hd => rfl); (case hg => rfl); (case hr => first | (go_simp; done) | (go_simp; rfl)); intro gb573 hg w19 hbox hb; have n0_ := zab.mk (zau HB.out hb); have n1_ := zab.mk (hbox); have n2_ := zab.mk ((by rw [hg]; exact (zav HB.out) : w.heap.size ≤ gb573)); have n3_ := zab.mk ((by rw [hg]; exact (zav HB.out) : w.heap.size ≤ gb573)); clear HB; have HB := n0_; have BK573 := n1_; have GW573 := n2_; have GE573 := n3_; clear n0_ n1_ n2_ n3_ hb hbox hg) | ((with_reducible refine zan (f := 24) rfl ?_); refine zaN (some 9) rfl rfl Tryd.func24 (by kernel_rfl) rfl #[.string a1] rfl (by (try simp only [List.map_toArray, List.map_cons, List.map_nil]); first | done | rfl | (simp only [List.length_drop, List.length_take]; rfl)) ?_; (with_reducible refine (zbw.calls a1 false _ A3.out).mono ?_); rintro e w' ⟨rfl, ⟨nd, rfl⟩⟩; refine ⟨_, rfl, ?_⟩; (try (rw [drewN_self w19]; generalize hq_ : World.drewN w19 _ = w19; have n0_ : zab (w19.heap[gb573]? = some (.cells #[.int .i64 0, .string (⟨#[]⟩ : ByteArray), .slice none 0 0] 27 (0, 0))) := ⟨by rw [← hq_]; exact (by (with_reducible repeat (first | refine zai ?_ _ | refine zak ?_ | refine zah ?_ _)); exact BK573.out)⟩; have n1_ : zab (Below w.heap.size w w19) := ⟨by rw [← hq_]; exact (by repeat (first | (with_reducible first | exact HB.out | apply zad | apply zaa | apply zac | refine zae ?_ GE573.out) | exact HB.out))⟩; clear BK573 HB hq_; have BK573 := n0_; have HB := n1_; clear n0_ n1_))) | ((with_reducible refine zan (f := 25) rfl ?_); refine zaN (some 12) rfl rfl Tryd.func25 (by kernel_rfl) rfl #[.int .i64 a0] rfl (by (try simp only [List.map_toArray, List.map_cons, List.map_nil]); first | done | rfl | (simp only [List.length_drop, List.length_take]; rfl)) ?_; (with_reducible refine (impl_isForm.calls a0 false _ A7.out).mono ?_); rintro e w' ⟨rfl, ⟨nd, rfl⟩⟩; refine ⟨_, rfl, ?_⟩; (try (rw [drewN_self w19]; generalize hq_ : World.drewN w19 _ = w19; have n0_ : zab (w19.heap[gb573]? = some (.cells #[.int .i64 0, .string (⟨#[]⟩ : ByteArray), .slice none 0 0] 27 (0, 0))) := ⟨by rw [← hq_]; exact (by (with_reducible repeat (first | refine zai ?_ _ | refine zak ?_ | refine zah ?_ _)); exact BK573.out)⟩; have n1_ : zab (Below w.heap.size w w19) := ⟨by rw [← hq_]; exact (by repeat (first | (with_reducible first | exact HB.out | apply zad | apply zaa | apply zac | refine zae ?_ GE573.out) | exact HB.out))⟩; clear BK573 HB hq_; have BK573 := n0_; have HB := n1_; clear n0_ n1_)); have hcz20_0 : w19.cell? ⟨gb573, 0, none⟩ = some (.int .i64 0) := (zal BK573.out 0).trans rfl; have hcz20_1 : w19.cell? ⟨gb573, 1, none⟩ = some (.string (⟨#[]⟩ : ByteArray)) := (zal BK573.out 1).trans rfl; have hcz20_2 : w19.cell? ⟨gb573, 2, none⟩ = some (.slice none 0 0) := (zal BK573.out 2).trans rfl; have hfz20_0 := zam BK573.out 0; have hfz20_1 := zam BK573.out 1; have hfz20_2 := zam BK573.out 2))
 refine bodyPost_ret (results_cell_row rfl _ _ gb573 27 #[.int .i64 1, .string (⟨#[]⟩ : ByteArray), .slice none 0 0] (0, 0) _ rfl (by (with_reducible repeat (first | refine zai ?_ _ | refine zak ?_ | refine zah ?_ _)); refine zaG (cs := #[.int .i64 1, .string (⟨#[]⟩ : ByteArray), .slice none 0 0]) ?_ 2 _ rfl; (with_reducible repeat (first | refine zai ?_ _ | refine zak ?_ | refine zah ?_ _)); refine zaG (cs := #[.int .i64 1, .string (⟨#[]⟩ : ByteArray), .slice none 0 0]) ?_ 1 _ rfl; (with_reducible repeat (first | refine zai ?_ _ | refine zak ?_ | refine zah ?_ _)); refine zaG (cs := #[.int .i64 0, .string (⟨#[]⟩ : ByteArray), .slice none 0 0]) ?_ 0 _ rfl; (with_reducible repeat (first | refine zai ?_ _ | refine zak ?_ | refine zah ?_ _)); exact BK573.out) Tryd.underlying27 rfl (by kernel_rfl)) rfl ?_
 exact ⟨_, by first | rfl | (simp [zar, zas] <;> rfl) | (simp [*, zar, zas] <;> rfl), by first | exact Kd.R_nil _ _ _ _ _ | exact Kd.N_nil _ _ _ _ _ | exact Kd.V_nil _ _ _ _ _ | exact Kd.Q_nil _ _ _ _ _ | exact Kd.S_nil _ _ _ _ _, by repeat (first | (with_reducible first | exact HB.out | apply zad | apply zaa | apply zac | refine zae ?_ GE573.out) | exact HB.out)⟩
def laws_lwAt.f (l0 : List Int) (a1 : Int) (a2 : Int) : Option (Int) := if a2 ≤ 1 then (some 0) else (if (l0.length : Int) = 0 then (some 0) else (if 0 ≤ (Int.tmod a1 (l0.length : Int)) then (if (Int.tmod a1 (l0.length : Int)) < (l0.length : Int) then (if a2 = 0 then (none) else (some (Int.tmod (wrap64 (rd l0 (Int.tmod a1 (l0.length : Int)))) a2))) else (none)) else (none)))
set_option maxHeartbeats 8000000 in
set_option maxRecDepth 100000 in
theorem laws_lwAt.calls (A0 : Option Addr) (c0 : Nat) (l0 : List Int) (a1 : Int) (a2 : Int) (r : Int) (w : World) (hr0 : Kd.C (Kd.int .u8) w A0 l0.length l0) (hc0 : l0.length ≤ c0) (h : laws_lwAt.f l0 a1 a2 = some r) :
  Calls Tryd.prog 8 #[.slice A0 l0.length c0, .int .i64 a1, .int .i64 a2] w fun e w' => e = .returned (.int .i64 r) ∧ zaK w w' := by
 have HR0 := zab.mk hr0; have HC0 := zab.mk hc0; clear hr0 hc0
 have H : (if a2 ≤ 1 then (some 0) else (if (l0.length : Int) = 0 then (some 0) else (if 0 ≤ (Int.tmod a1 (l0.length : Int)) then (if (Int.tmod a1 (l0.length : Int)) < (l0.length : Int) then (if a2 = 0 then (none) else (some (Int.tmod (wrap64 (rd l0 (Int.tmod a1 (l0.length : Int)))) a2))) else (none)) else (none)))) = some r := h
 clear h
 by_cases c4 : a2 ≤ 1
 ·rw [if_pos c4] at H
  have c4b0 : decide (a2 ≤ 1) = true := decide_eq_true c4
  clear c4; obtain rfl := Option.some.inj H
  go_enter Tryd.func8, Tryd.ntmps8
  go_wp2
  go_ret
  exact ⟨by first | rfl | (simp; done) | (simp [*]; done), by repeat (first | exact zaK.refl _ | apply zaK.step)⟩
 rw [if_neg c4] at H
 have c4b0 : decide (a2 ≤ 1) = false := decide_eq_false c4
 clear c4
 by_cases c5 : (l0.length : Int) = 0
 ·rw [if_pos c5] at H
  have c5b0 : ((l0.length : Int) == 0) = true := beq_iff_eq.mpr c5
  have c5b1 : ((l0.length : Int) != 0) = false := bne_eq_false_iff_eq.mpr c5
  clear c5; obtain rfl := Option.some.inj H
  go_enter Tryd.func8, Tryd.ntmps8
  go_wp2
  go_ret
  exact ⟨by first | rfl | (simp; done) | (simp [*]; done), by repeat (first | exact zaK.refl _ | apply zaK.step)⟩
 rw [if_neg c5] at H
 have c5b0 : ((l0.length : Int) == 0) = false := beq_eq_false_iff_ne.mpr c5
 have c5b1 : ((l0.length : Int) != 0) = true := bne_iff_ne.mpr c5
 have c5b2 : ¬ (l0 = []) := fun h_ => c5 (by rw [h_]; rfl)
 obtain ⟨ji6, hji6⟩ : ∃ j_ : Int, (Int.tmod a1 (l0.length : Int)) = j_ := ⟨_, rfl⟩
 replace H : (if 0 ≤ (ji6) then (if (ji6) < (l0.length : Int) then (if a2 = 0 then (none) else (some (Int.tmod (wrap64 (rd l0 (ji6))) a2))) else (none)) else (none)) = some r := by first | (rw [hji6] at H; exact H) | (simp only [hji6] at H ⊢; exact H)
 by_cases c7 : 0 ≤ (ji6)
 ·rw [if_pos c7] at H
  have c7b0 : decide (0 ≤ (ji6)) = true := decide_eq_true c7
  clear c7
  by_cases c8 : (ji6) < (l0.length : Int)
  ·rw [if_pos c8] at H
   have c8b0 : decide ((ji6) < (l0.length : Int)) = true := decide_eq_true c8
   clear c8
   by_cases c9 : a2 = 0
   ·rw [if_pos c9] at H
    exact absurd H (by simp)
   rw [if_neg c9] at H
   have c9b0 : (a2 == 0) = false := beq_eq_false_iff_ne.mpr c9
   have c9b1 : (a2 != 0) = true := bne_iff_ne.mpr c9
   obtain rfl := Option.some.inj H
   have p582 : 0 ≤ ((ji6) : Int) := of_decide_eq_true (by first | (with_reducible assumption) | assumption)
   have q582 : (ji6) < (l0.length : Int) := of_decide_eq_true (by first | (with_reducible assumption) | assumption)
   obtain ⟨ad582, e582, hx582_0⟩ := Kd.at_int HR0.out (ji6) p582 q582
   cases e582
   replace p582 := eq_true p582
   replace q582 := eq_true q582
   go_enter Tryd.func8, Tryd.ntmps8
   go_wp2
   go_ret
   exact ⟨by first | rfl | (simp; done) | (simp only [← hji6] <;> (first | rfl | simp)) | (simp [*]; done), by repeat (first | exact zaK.refl _ | apply zaK.step)⟩
  rw [if_neg c8] at H
  exact absurd H (by simp)
 rw [if_neg c7] at H
 exact absurd H (by simp)
end Go.Proofs.YtfafjbolmeimmaaDoor.P
