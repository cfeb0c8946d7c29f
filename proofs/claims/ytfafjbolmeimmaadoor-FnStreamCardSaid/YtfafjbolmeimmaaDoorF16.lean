/- Written by a program of this session: plain Lean functions for Go functions, and for each the proof that the call comes to what the function says. -/
import Derived.Test.YtfafjbolmeimmaaDoorF0
import Derived.Test.YtfafjbolmeimmaaDoorF12
import Derived.Test.YtfafjbolmeimmaaDoorF14
import Derived.Test.YtfafjbolmeimmaaDoorF15
import Derived.Test.YtfafjbolmeimmaaDoorXUn
namespace Go.Proofs.YtfafjbolmeimmaaDoor.P
open Go.RowKit Go.Proofs.YtfafjbolmeimmaaDoorW.PrintWords Go.Proofs.YtfafjbolmeimmaaDoorW.PrintLast Go.Proofs.YtfafjbolmeimmaaDoorW.PrintMore
attribute [local go_sem] max2_int min2_int max_two min_two max_three min_three max_four min_four
set_option linter.unusedVariables false
set_option linter.unusedSimpArgs false
def impl_piece.f (k : Nat) (a0 : Int) (a1 : ByteArray) : Option (Int × Int × Bool × Bool) := if a0 = 1 then ((zaM.f k a1).bind fun bt546 => (if bt546.1 = 0 then (some (65533, 1, true, false)) else (if bt546.2 = true then (if 0 ≤ bt546.1 then (if bt546.1 ≤ (a1.size : Int) then ((zbE.f k (a1.extract 0 (bt546.1 : Int).toNat)).bind fun t548 => (if 0 < (t548.length : Int) then (some ((rd_T78 t548 0).f0, bt546.1, false, false)) else (none))) else (none)) else (none)) else (some (65533, bt546.1, true, (bt546.1 == (a1.size : Int))))))) else (if a0 ≤ 3 then (if (a1.size : Int) < 2 then (some (65533, (a1.size : Int), true, true)) else (if 0 ≤ 2 then (if 2 ≤ (a1.size : Int) then ((zbD.f a0 (a1.extract 0 2)).bind fun t552 => ((impl_in.f t552 55296 57343).bind fun t553 => (if t553 = true then (if t552 ≥ 56320 then (some (65533, 2, true, false)) else (if (a1.size : Int) < 4 then (some (65533, 2, true, true)) else (if 2 ≤ 4 then (if 4 ≤ (a1.size : Int) then ((zbD.f a0 (a1.extract 2 4)).bind fun t554 => ((impl_in.f t554 56320 57343).bind fun t555 => (if t555 = true then (some (wrap64 ((wrap64 ((wrap64 (65536 + (wrap64 ((wrap64 (t552 - 55296)) * 1024)))) + t554)) - 56320), 4, false, false)) else (some (65533, 2, true, false))))) else (none)) else (none)))) else (some (t552, 2, false, false))))) else (none)) else (none))) else (if (a1.size : Int) < 4 then (some (65533, (a1.size : Int), true, true)) else (if 0 ≤ 4 then (if 4 ≤ (a1.size : Int) then ((zbD.f a0 (a1.extract 0 4)).bind fun t556 => ((impl_isPoint.f t556).bind fun t557 => (if t557 = true then (some (t556, 4, false, false)) else (some (65533, 4, true, false))))) else (none)) else (none))))
set_option maxHeartbeats 8000000 in
set_option maxRecDepth 100000 in
theorem impl_piece.calls (k : Nat) (a0 : Int) (a1 : ByteArray) (r1 : Int) (r2 : Int) (r3 : Bool) (r4 : Bool) (w : World) (hG : GT w) (h : impl_piece.f k a0 a1 = some (r1, r2, r3, r4)) :
  Calls Tryd.prog 28 #[.int .i64 a0, .string a1] w fun e w' => e = .returned (.tuple #[.int .i64 r1, .int .i64 r2, .bool r3, .bool r4]) ∧ Below w.heap.size w w' := by
 have HG := zab.mk hG; clear hG
 have HB := zab.mk (Below.refl w.heap.size w)
 have H : (if a0 = 1 then ((zaM.f k a1).bind fun bt546 => (if bt546.1 = 0 then (some (65533, 1, true, false)) else (if bt546.2 = true then (if 0 ≤ bt546.1 then (if bt546.1 ≤ (a1.size : Int) then ((zbE.f k (a1.extract 0 (bt546.1 : Int).toNat)).bind fun t548 => (if 0 < (t548.length : Int) then (some ((rd_T78 t548 0).f0, bt546.1, false, false)) else (none))) else (none)) else (none)) else (some (65533, bt546.1, true, (bt546.1 == (a1.size : Int))))))) else (if a0 ≤ 3 then (if (a1.size : Int) < 2 then (some (65533, (a1.size : Int), true, true)) else (if 0 ≤ 2 then (if 2 ≤ (a1.size : Int) then ((zbD.f a0 (a1.extract 0 2)).bind fun t552 => ((impl_in.f t552 55296 57343).bind fun t553 => (if t553 = true then (if t552 ≥ 56320 then (some (65533, 2, true, false)) else (if (a1.size : Int) < 4 then (some (65533, 2, true, true)) else (if 2 ≤ 4 then (if 4 ≤ (a1.size : Int) then ((zbD.f a0 (a1.extract 2 4)).bind fun t554 => ((impl_in.f t554 56320 57343).bind fun t555 => (if t555 = true then (some (wrap64 ((wrap64 ((wrap64 (65536 + (wrap64 ((wrap64 (t552 - 55296)) * 1024)))) + t554)) - 56320), 4, false, false)) else (some (65533, 2, true, false))))) else (none)) else (none)))) else (some (t552, 2, false, false))))) else (none)) else (none))) else (if (a1.size : Int) < 4 then (some (65533, (a1.size : Int), true, true)) else (if 0 ≤ 4 then (if 4 ≤ (a1.size : Int) then ((zbD.f a0 (a1.extract 0 4)).bind fun t556 => ((impl_isPoint.f t556).bind fun t557 => (if t557 = true then (some (t556, 4, false, false)) else (some (65533, 4, true, false))))) else (none)) else (none))))) = some (r1, r2, r3, r4) := h
 clear h
 by_cases c3 : a0 = 1
 ·rw [if_pos c3] at H
  have c3b0 : (a0 == 1) = true := beq_iff_eq.mpr c3
  have c3b1 : (a0 != 1) = false := bne_eq_false_iff_eq.mpr c3
  clear c3; replace H := Option.bind_eq_some_iff.mp H
  obtain ⟨⟨t546, t547⟩, A40, H⟩ := H
  replace H : (if t546 = 0 then (some (65533, 1, true, false)) else (if t547 = true then (if 0 ≤ t546 then (if t546 ≤ (a1.size : Int) then ((zbE.f k (a1.extract 0 (t546 : Int).toNat)).bind fun t548 => (if 0 < (t548.length : Int) then (some ((rd_T78 t548 0).f0, t546, false, false)) else (none))) else (none)) else (none)) else (some (65533, t546, true, (t546 == (a1.size : Int)))))) = some (r1, r2, r3, r4) := H
  have A4 := zab.mk A40; clear A40
  by_cases c5 : t546 = 0
  ·rw [if_pos c5] at H
   have c5b0 : (t546 == 0) = true := beq_iff_eq.mpr c5
   have c5b1 : (t546 != 0) = false := bne_eq_false_iff_eq.mpr c5
   clear c5
   simp only [Option.some.injEq, Prod.mk.injEq] at H
   obtain ⟨rfl, rfl, rfl, rfl⟩ := H
   go_enter Tryd.func28, Tryd.ntmps28
   go_wp2_with (first | ((with_reducible refine zan (f := 43) rfl ?_); refine zaN (some 18) rfl rfl Tryd.func43 (by kernel_rfl) rfl #[.string a1] rfl (by (try simp only [List.map_toArray, List.map_cons, List.map_nil]); first | done | rfl | (simp only [List.length_drop, List.length_take]; rfl)) ?_; (with_reducible refine (zaM.calls k a1 t546 t547 _ A4.out).mono ?_); rintro e w' ⟨rfl, ⟨nd, rfl⟩⟩; refine ⟨_, rfl, ?_⟩))
   refine bodyPost_ret (results_list (rs := [.tmp 4, .tmp 5, .tmp 6, .tmp 7]) rfl (by simp) (.tmp (.tmp (.tmp (.tmp .nil))))) rfl ?_
   exact ⟨by first | rfl | (simp [zar, zas] <;> rfl) | (simp [*, zar, zas] <;> rfl), by repeat (first | (with_reducible first | exact HB.out | apply zad | apply zaa | apply zac) | exact HB.out)⟩
  rw [if_neg c5] at H
  have c5b0 : (t546 == 0) = false := beq_eq_false_iff_ne.mpr c5
  have c5b1 : (t546 != 0) = true := bne_iff_ne.mpr c5
  by_cases c6 : t547 = true
  ·subst c6
   replace H : (if 0 ≤ t546 then (if t546 ≤ (a1.size : Int) then ((zbE.f k (a1.extract 0 (t546 : Int).toNat)).bind fun t548 => (if 0 < (t548.length : Int) then (some ((rd_T78 t548 0).f0, t546, false, false)) else (none))) else (none)) else (none)) = some (r1, r2, r3, r4) := by rw [if_pos rfl] at H; exact H
   by_cases c7 : 0 ≤ t546
   ·rw [if_pos c7] at H
    have c7b0 := eq_true c7
    have c7b1 : decide (0 ≤ t546) = true := decide_eq_true c7
    clear c7
    by_cases c8 : t546 ≤ (a1.size : Int)
    ·rw [if_pos c8] at H
     have c8b0 := eq_true c8
     have c8b1 : decide (t546 ≤ (a1.size : Int)) = true := decide_eq_true c8
     clear c8; replace H := Option.bind_eq_some_iff.mp H
     obtain ⟨t548, A90, H⟩ := H
     replace H : (if 0 < (t548.length : Int) then (some ((rd_T78 t548 0).f0, t546, false, false)) else (none)) = some (r1, r2, r3, r4) := H
     have A9 := zab.mk A90; clear A90
     by_cases c10 : 0 < (t548.length : Int)
     ·rw [if_pos c10] at H
      have c10b0 : decide (0 < (t548.length : Int)) = true := decide_eq_true c10
      have c10b1 : decide (0 < t548.length) = true := decide_eq_true (by omega)
      clear c10
      simp only [Option.some.injEq, Prod.mk.injEq] at H
      obtain ⟨rfl, rfl, rfl, rfl⟩ := H
      go_enter Tryd.func28, Tryd.ntmps28
      go_wp2_with (first | ((with_reducible refine zan (f := 43) rfl ?_); refine zaN (some 18) rfl rfl Tryd.func43 (by kernel_rfl) rfl #[.string a1] rfl (by (try simp only [List.map_toArray, List.map_cons, List.map_nil]); first | done | rfl | (simp only [List.length_drop, List.length_take]; rfl)) ?_; (with_reducible refine (zaM.calls k a1 t546 true _ A4.out).mono ?_); rintro e w' ⟨rfl, ⟨nd, rfl⟩⟩; refine ⟨_, rfl, ?_⟩) | ((with_reducible refine zan (f := 44) rfl ?_); refine zaN (some 29) rfl rfl Tryd.func44 (by kernel_rfl) rfl #[.string (a1.extract 0 (t546 : Int).toNat)] rfl (by (try simp only [List.map_toArray, List.map_cons, List.map_nil]); first | done | rfl | (simp only [List.length_drop, List.length_take]; rfl)) ?_; (with_reducible refine (zbE.calls k (a1.extract 0 (t546 : Int).toNat) t548 _ ?side1 A9.out).mono ?_); (case side1 => exact GT_below HG.out (by repeat (first | (with_reducible first | exact HB.out | apply zad | apply zaa | apply zac) | exact HB.out))); rintro e w11 ⟨v549, rfl, ho0, hb⟩; refine ⟨_, rfl, ?_⟩; have n0_ := zab.mk (Kd.zbm ho0 (zav (by repeat (first | (with_reducible first | exact HB.out | apply zad | apply zaa | apply zac) | exact HB.out)))); have n1_ := zab.mk (zau (by repeat (first | (with_reducible first | exact HB.out | apply zad | apply zaa | apply zac) | exact HB.out)) hb); clear HB; have HO550 := n0_; have HB := n1_; clear n0_ n1_; (try clear hb); (try clear hb2); (try clear hk); (try clear hi); (try clear ho0); obtain ⟨Ao12, co12, eo12⟩ := Kd.zbr HO550.out; subst eo12; have p551 : 0 ≤ (0 : Int) := (by omega); have q551 : 0 < (t548.length : Int) := of_decide_eq_true (by first | (with_reducible assumption) | assumption); obtain ⟨ad551, e551, hx551_0, hx551_1, hx551_2, hx551_3⟩ := at_T78 (Kd.zbl HO550.out).2.2 0 p551 q551; cases e551; have qi551 : (0 < t548.length) = True := eq_true (by omega); (try rw [show ((0 : Int)).toNat = 0 from rfl] at hx551_0); (try rw [show 0 * 4 = 0 from rfl] at hx551_0); (try rw [Addr.add_zero'] at hx551_0); (try rw [show ((0 : Int)).toNat = 0 from rfl] at hx551_1); (try rw [show 0 * 4 = 0 from rfl] at hx551_1); (try rw [Addr.add_zero'] at hx551_1); (try rw [show ((0 : Int)).toNat = 0 from rfl] at hx551_2); (try rw [show 0 * 4 = 0 from rfl] at hx551_2); (try rw [Addr.add_zero'] at hx551_2); (try rw [show ((0 : Int)).toNat = 0 from rfl] at hx551_3); (try rw [show 0 * 4 = 0 from rfl] at hx551_3); (try rw [Addr.add_zero'] at hx551_3); replace p551 := eq_true p551; replace q551 := eq_true q551))
      refine bodyPost_ret (results_list (rs := [.tmp 4, .tmp 5, .tmp 6, .tmp 7]) rfl (by simp) (.tmp (.tmp (.tmp (.tmp .nil))))) rfl ?_
      exact ⟨by first | rfl | (simp [zar, zas] <;> rfl) | (simp [*, zar, zas] <;> rfl), by repeat (first | (with_reducible first | exact HB.out | apply zad | apply zaa | apply zac) | exact HB.out)⟩
     rw [if_neg c10] at H
     exact absurd H (by simp)
    rw [if_neg c8] at H
    exact absurd H (by simp)
   rw [if_neg c7] at H
   exact absurd H (by simp)
  replace c6 := Bool.eq_false_iff.mpr c6
  subst c6
  replace H : (some (65533, t546, true, (t546 == (a1.size : Int)))) = some (r1, r2, r3, r4) := by rw [if_neg (show ¬ (false = true) by decide)] at H; exact H
  simp only [Option.some.injEq, Prod.mk.injEq] at H
  obtain ⟨rfl, rfl, rfl, rfl⟩ := H
  go_enter Tryd.func28, Tryd.ntmps28
  go_wp2_with (first | ((with_reducible refine zan (f := 43) rfl ?_); refine zaN (some 18) rfl rfl Tryd.func43 (by kernel_rfl) rfl #[.string a1] rfl (by (try simp only [List.map_toArray, List.map_cons, List.map_nil]); first | done | rfl | (simp only [List.length_drop, List.length_take]; rfl)) ?_; (with_reducible refine (zaM.calls k a1 t546 false _ A4.out).mono ?_); rintro e w' ⟨rfl, ⟨nd, rfl⟩⟩; refine ⟨_, rfl, ?_⟩))
  refine bodyPost_ret (results_list (rs := [.tmp 4, .tmp 5, .tmp 6, .tmp 7]) rfl (by simp) (.tmp (.tmp (.tmp (.tmp .nil))))) rfl ?_
  exact ⟨by first | rfl | (simp [zar, zas] <;> rfl) | (simp [*, zar, zas] <;> rfl), by repeat (first | (with_reducible first | exact HB.out | apply zad | apply zaa | apply zac) | exact HB.out)⟩
 rw [if_neg c3] at H
 have c3b0 : (a0 == 1) = false := beq_eq_false_iff_ne.mpr c3
 have c3b1 : (a0 != 1) = true := bne_iff_ne.mpr c3
 by_cases c13 : a0 ≤ 3
 ·rw [if_pos c13] at H
  have c13b0 : decide (a0 ≤ 3) = true := decide_eq_true c13
  clear c13
  by_cases c14 : (a1.size : Int) < 2
  ·rw [if_pos c14] at H
   have c14b0 : decide ((a1.size : Int) < 2) = true := decide_eq_true c14
   have c14b1 : decide (a1.size < 2) = true := decide_eq_true (by omega)
   clear c14
   simp only [Option.some.injEq, Prod.mk.injEq] at H
   obtain ⟨rfl, rfl, rfl, rfl⟩ := H
   go_enter Tryd.func28, Tryd.ntmps28
   go_wp2
   refine bodyPost_ret (results_list (rs := [.tmp 4, .tmp 5, .tmp 6, .tmp 7]) rfl (by simp) (.tmp (.tmp (.tmp (.tmp .nil))))) rfl ?_
   exact ⟨by first | rfl | (simp [zar, zas] <;> rfl) | (simp [*, zar, zas] <;> rfl), by repeat (first | (with_reducible first | exact HB.out | apply zad | apply zaa | apply zac) | exact HB.out)⟩
  rw [if_neg c14] at H
  have c14b0 : decide ((a1.size : Int) < 2) = false := decide_eq_false c14
  have c14b1 : decide (a1.size < 2) = false := decide_eq_false (by omega)
  clear c14
  by_cases c15 : 0 ≤ 2
  ·rw [if_pos c15] at H
   have c15b0 := eq_true c15
   have c15b1 : decide (0 ≤ 2) = true := decide_eq_true c15
   clear c15
   by_cases c16 : 2 ≤ (a1.size : Int)
   ·rw [if_pos c16] at H
    have c16b0 := eq_true c16
    have c16b1 : decide (2 ≤ (a1.size : Int)) = true := decide_eq_true c16
    clear c16; replace H := Option.bind_eq_some_iff.mp H
    obtain ⟨t552, A170, H⟩ := H
    replace H : ((impl_in.f t552 55296 57343).bind fun t553 => (if t553 = true then (if t552 ≥ 56320 then (some (65533, 2, true, false)) else (if (a1.size : Int) < 4 then (some (65533, 2, true, true)) else (if 2 ≤ 4 then (if 4 ≤ (a1.size : Int) then ((zbD.f a0 (a1.extract 2 4)).bind fun t554 => ((impl_in.f t554 56320 57343).bind fun t555 => (if t555 = true then (some (wrap64 ((wrap64 ((wrap64 (65536 + (wrap64 ((wrap64 (t552 - 55296)) * 1024)))) + t554)) - 56320), 4, false, false)) else (some (65533, 2, true, false))))) else (none)) else (none)))) else (some (t552, 2, false, false)))) = some (r1, r2, r3, r4) := H
    have A17 := zab.mk A170; clear A170; replace H := Option.bind_eq_some_iff.mp H
    obtain ⟨t553, A180, H⟩ := H
    replace H : (if t553 = true then (if t552 ≥ 56320 then (some (65533, 2, true, false)) else (if (a1.size : Int) < 4 then (some (65533, 2, true, true)) else (if 2 ≤ 4 then (if 4 ≤ (a1.size : Int) then ((zbD.f a0 (a1.extract 2 4)).bind fun t554 => ((impl_in.f t554 56320 57343).bind fun t555 => (if t555 = true then (some (wrap64 ((wrap64 ((wrap64 (65536 + (wrap64 ((wrap64 (t552 - 55296)) * 1024)))) + t554)) - 56320), 4, false, false)) else (some (65533, 2, true, false))))) else (none)) else (none)))) else (some (t552, 2, false, false))) = some (r1, r2, r3, r4) := H
    have A18 := zab.mk A180; clear A180
    by_cases c19 : t553 = true
    ·subst c19
     replace H : (if t552 ≥ 56320 then (some (65533, 2, true, false)) else (if (a1.size : Int) < 4 then (some (65533, 2, true, true)) else (if 2 ≤ 4 then (if 4 ≤ (a1.size : Int) then ((zbD.f a0 (a1.extract 2 4)).bind fun t554 => ((impl_in.f t554 56320 57343).bind fun t555 => (if t555 = true then (some (wrap64 ((wrap64 ((wrap64 (65536 + (wrap64 ((wrap64 (t552 - 55296)) * 1024)))) + t554)) - 56320), 4, false, false)) else (some (65533, 2, true, false))))) else (none)) else (none)))) = some (r1, r2, r3, r4) := by rw [if_pos rfl] at H; exact H
     by_cases c20 : t552 ≥ 56320
     ·rw [if_pos c20] at H
      have c20b0 : decide (56320 ≤ t552) = true := decide_eq_true c20
      clear c20
      simp only [Option.some.injEq, Prod.mk.injEq] at H
      obtain ⟨rfl, rfl, rfl, rfl⟩ := H
      go_enter Tryd.func28, Tryd.ntmps28
      go_wp2_with (first | ((with_reducible refine zan (f := 45) rfl ?_); refine zaN (some 50) rfl rfl Tryd.func45 (by kernel_rfl) rfl #[.int .i64 a0, .string (a1.extract 0 2)] rfl (by (try simp only [List.map_toArray, List.map_cons, List.map_nil]); first | done | rfl | (simp only [List.length_drop, List.length_take]; rfl)) ?_; (with_reducible refine (zbD.calls a0 (a1.extract 0 2) t552 _ A17.out).mono ?_); rintro e w21 ⟨rfl, hb⟩; refine ⟨_, rfl, ?_⟩; have n0_ := zab.mk (zau (by repeat (first | (with_reducible first | exact HB.out | apply zad | apply zaa | apply zac) | exact HB.out)) hb); clear HB; have HB := n0_; clear n0_; (try clear hb); (try clear hb2); (try clear hk); (try clear hi)) | ((with_reducible refine zan (f := 41) rfl ?_); refine zaN (some 52) rfl rfl Tryd.func41 (by kernel_rfl) rfl #[.int .i64 t552, .int .i64 55296, .int .i64 57343] rfl (by (try simp only [List.map_toArray, List.map_cons, List.map_nil]); first | done | rfl | (simp only [List.length_drop, List.length_take]; rfl)) ?_; (with_reducible refine (impl_in.calls t552 55296 57343 true _ A18.out).mono ?_); rintro e w' ⟨rfl, ⟨nd, rfl⟩⟩; refine ⟨_, rfl, ?_⟩))
      refine bodyPost_ret (results_list (rs := [.tmp 4, .tmp 5, .tmp 6, .tmp 7]) rfl (by simp) (.tmp (.tmp (.tmp (.tmp .nil))))) rfl ?_
      exact ⟨by first | rfl | (simp [zar, zas] <;> rfl) | (simp [*, zar, zas] <;> rfl), by repeat (first | (with_reducible first | exact HB.out | apply zad | apply zaa | apply zac) | exact HB.out)⟩
     rw [if_neg c20] at H
     have c20b0 : decide (56320 ≤ t552) = false := decide_eq_false c20
     clear c20
     by_cases c22 : (a1.size : Int) < 4
     ·rw [if_pos c22] at H
      have c22b0 : decide ((a1.size : Int) < 4) = true := decide_eq_true c22
      have c22b1 : decide (a1.size < 4) = true := decide_eq_true (by omega)
      clear c22
      simp only [Option.some.injEq, Prod.mk.injEq] at H
      obtain ⟨rfl, rfl, rfl, rfl⟩ := H
      go_enter Tryd.func28, Tryd.ntmps28
      go_wp2_with (first | ((with_reducible refine zan (f := 45) rfl ?_); refine zaN (some 50) rfl rfl Tryd.func45 (by kernel_rfl) rfl #[.int .i64 a0, .string (a1.extract 0 2)] rfl (by (try simp only [List.map_toArray, List.map_cons, List.map_nil]); first | done | rfl | (simp only [List.length_drop, List.length_take]; rfl)) ?_; (with_reducible refine (zbD.calls a0 (a1.extract 0 2) t552 _ A17.out).mono ?_); rintro e w23 ⟨rfl, hb⟩; refine ⟨_, rfl, ?_⟩; have n0_ := zab.mk (zau (by repeat (first | (with_reducible first | exact HB.out | apply zad | apply zaa | apply zac) | exact HB.out)) hb); clear HB; have HB := n0_; clear n0_; (try clear hb); (try clear hb2); (try clear hk); (try clear hi)) | ((with_reducible refine zan (f := 41) rfl ?_); refine zaN (some 52) rfl rfl Tryd.func41 (by kernel_rfl) rfl #[.int .i64 t552, .int .i64 55296, .int .i64 57343] rfl (by (try simp only [List.map_toArray, List.map_cons, List.map_nil]); first | done | rfl | (simp only [List.length_drop, List.length_take]; rfl)) ?_; (with_reducible refine (impl_in.calls t552 55296 57343 true _ A18.out).mono ?_); rintro e w' ⟨rfl, ⟨nd, rfl⟩⟩; refine ⟨_, rfl, ?_⟩))
      refine bodyPost_ret (results_list (rs := [.tmp 4, .tmp 5, .tmp 6, .tmp 7]) rfl (by simp) (.tmp (.tmp (.tmp (.tmp .nil))))) rfl ?_
      exact ⟨by first | rfl | (simp [zar, zas] <;> rfl) | (simp [*, zar, zas] <;> rfl), by repeat (first | (with_reducible first | exact HB.out | apply zad | apply zaa | apply zac) | exact HB.out)⟩
     rw [if_neg c22] at H
     have c22b0 : decide ((a1.size : Int) < 4) = false := decide_eq_false c22
     have c22b1 : decide (a1.size < 4) = false := decide_eq_false (by omega)
     clear c22
     by_cases c24 : 2 ≤ 4
     ·rw [if_pos c24] at H
      have c24b0 := eq_true c24
      have c24b1 : decide (2 ≤ 4) = true := decide_eq_true c24
      clear c24
      by_cases c25 : 4 ≤ (a1.size : Int)
      ·rw [if_pos c25] at H
       have c25b0 := eq_true c25
       have c25b1 : decide (4 ≤ (a1.size : Int)) = true := decide_eq_true c25
       clear c25; replace H := Option.bind_eq_some_iff.mp H
       obtain ⟨t554, A260, H⟩ := H
       replace H : ((impl_in.f t554 56320 57343).bind fun t555 => (if t555 = true then (some (wrap64 ((wrap64 ((wrap64 (65536 + (wrap64 ((wrap64 (t552 - 55296)) * 1024)))) + t554)) - 56320), 4, false, false)) else (some (65533, 2, true, false)))) = some (r1, r2, r3, r4) := H
       have A26 := zab.mk A260; clear A260; replace H := Option.bind_eq_some_iff.mp H
       obtain ⟨t555, A270, H⟩ := H
       replace H : (if t555 = true then (some (wrap64 ((wrap64 ((wrap64 (65536 + (wrap64 ((wrap64 (t552 - 55296)) * 1024)))) + t554)) - 56320), 4, false, false)) else (some (65533, 2, true, false))) = some (r1, r2, r3, r4) := H
       have A27 := zab.mk A270; clear A270
       by_cases c28 : t555 = true
       ·subst c28
        replace H : (some (wrap64 ((wrap64 ((wrap64 (65536 + (wrap64 ((wrap64 (t552 - 55296)) * 1024)))) + t554)) - 56320), 4, false, false)) = some (r1, r2, r3, r4) := by rw [if_pos rfl] at H; exact H
        simp only [Option.some.injEq, Prod.mk.injEq] at H
        obtain ⟨rfl, rfl, rfl, rfl⟩ := H
        go_enter Tryd.func28, Tryd.ntmps28
        go_wp2_with (first | ((with_reducible refine zan (f := 45) rfl ?_); refine zaN (some 50) rfl rfl Tryd.func45 (by kernel_rfl) rfl #[.int .i64 a0, .string (a1.extract 0 2)] rfl (by (try simp only [List.map_toArray, List.map_cons, List.map_nil]); first | done | rfl | (simp only [List.length_drop, List.length_take]; rfl)) ?_; (with_reducible refine (zbD.calls a0 (a1.extract 0 2) t552 _ A17.out).mono ?_); rintro e w29 ⟨rfl, hb⟩; refine ⟨_, rfl, ?_⟩; have n0_ := zab.mk (zau (by repeat (first | (with_reducible first | exact HB.out | apply zad | apply zaa | apply zac) | exact HB.out)) hb); clear HB; have HB := n0_; clear n0_; (try clear hb); (try clear hb2); (try clear hk); (try clear hi)) | ((with_reducible refine zan (f := 41) rfl ?_); refine zaN (some 52) rfl rfl Tryd.func41 (by kernel_rfl) rfl #[.int .i64 t552, .int .i64 55296, .int .i64 57343] rfl (by (try simp only [List.map_toArray, List.map_cons, List.map_nil]); first | done | rfl | (simp only [List.length_drop, List.length_take]; rfl)) ?_; (with_reducible refine (impl_in.calls t552 55296 57343 true _ A18.out).mono ?_); rintro e w' ⟨rfl, ⟨nd, rfl⟩⟩; refine ⟨_, rfl, ?_⟩) | ((with_reducible refine zan (f := 45) rfl ?_); refine zaN (some 63) rfl rfl Tryd.func45 (by kernel_rfl) rfl #[.int .i64 a0, .string (a1.extract 2 4)] rfl (by (try simp only [List.map_toArray, List.map_cons, List.map_nil]); first | done | rfl | (simp only [List.length_drop, List.length_take]; rfl)) ?_; (with_reducible refine (zbD.calls a0 (a1.extract 2 4) t554 _ A26.out).mono ?_); rintro e w30 ⟨rfl, hb⟩; refine ⟨_, rfl, ?_⟩; have n0_ := zab.mk (zau (by repeat (first | (with_reducible first | exact HB.out | apply zad | apply zaa | apply zac) | exact HB.out)) hb); clear HB; have HB := n0_; clear n0_; (try clear hb); (try clear hb2); (try clear hk); (try clear hi)) | ((with_reducible refine zan (f := 41) rfl ?_); refine zaN (some 65) rfl rfl Tryd.func41 (by kernel_rfl) rfl #[.int .i64 t554, .int .i64 56320, .int .i64 57343] rfl (by (try simp only [List.map_toArray, List.map_cons, List.map_nil]); first | done | rfl | (simp only [List.length_drop, List.length_take]; rfl)) ?_; (with_reducible refine (impl_in.calls t554 56320 57343 true _ A27.out).mono ?_); rintro e w' ⟨rfl, ⟨nd, rfl⟩⟩; refine ⟨_, rfl, ?_⟩))
        refine bodyPost_ret (results_list (rs := [.tmp 4, .tmp 5, .tmp 6, .tmp 7]) rfl (by simp) (.tmp (.tmp (.tmp (.tmp .nil))))) rfl ?_
        exact ⟨by first | rfl | (simp [zar, zas] <;> rfl) | (simp [*, zar, zas] <;> rfl), by repeat (first | (with_reducible first | exact HB.out | apply zad | apply zaa | apply zac) | exact HB.out)⟩
       replace c28 := Bool.eq_false_iff.mpr c28
       subst c28
       replace H : (some (65533, 2, true, false)) = some (r1, r2, r3, r4) := by rw [if_neg (show ¬ (false = true) by decide)] at H; exact H
       simp only [Option.some.injEq, Prod.mk.injEq] at H
       obtain ⟨rfl, rfl, rfl, rfl⟩ := H
       go_enter Tryd.func28, Tryd.ntmps28
       go_wp2_with (first | ((with_reducible refine zan (f := 45) rfl ?_); refine zaN (some 50) rfl rfl Tryd.func45 (by kernel_rfl) rfl #[.int .i64 a0, .string (a1.extract 0 2)] rfl (by (try simp only [List.map_toArray, List.map_cons, List.map_nil]); first | done | rfl | (simp only [List.length_drop, List.length_take]; rfl)) ?_; (with_reducible refine (zbD.calls a0 (a1.extract 0 2) t552 _ A17.out).mono ?_); rintro e w31 ⟨rfl, hb⟩; refine ⟨_, rfl, ?_⟩; have n0_ := zab.mk (zau (by repeat (first | (with_reducible first | exact HB.out | apply zad | apply zaa | apply zac) | exact HB.out)) hb); clear HB; have HB := n0_; clear n0_; (try clear hb); (try clear hb2); (try clear hk); (try clear hi)) | ((with_reducible refine zan (f := 41) rfl ?_); refine zaN (some 52) rfl rfl Tryd.func41 (by kernel_rfl) rfl #[.int .i64 t552, .int .i64 55296, .int .i64 57343] rfl (by (try simp only [List.map_toArray, List.map_cons, List.map_nil]); first | done | rfl | (simp only [List.length_drop, List.length_take]; rfl)) ?_; (with_reducible refine (impl_in.calls t552 55296 57343 true _ A18.out).mono ?_); rintro e w' ⟨rfl, ⟨nd, rfl⟩⟩; refine ⟨_, rfl, ?_⟩) | ((with_reducible refine zan (f := 45) rfl ?_); refine zaN (some 63) rfl rfl Tryd.func45 (by kernel_rfl) rfl #[.int .i64 a0, .string (a1.extract 2 4)] rfl (by (try simp only [List.map_toArray, List.map_cons, List.map_nil]); first | done | rfl | (simp only [List.length_drop, List.length_take]; rfl)) ?_; (with_reducible refine (zbD.calls a0 (a1.extract 2 4) t554 _ A26.out).mono ?_); rintro e w32 ⟨rfl, hb⟩; refine ⟨_, rfl, ?_⟩; have n0_ := zab.mk (zau (by repeat (first | (with_reducible first | exact HB.out | apply zad | apply zaa | apply zac) | exact HB.out)) hb); clear HB; have HB := n0_; clear n0_; (try clear hb); (try clear hb2); (try clear hk); (try clear hi)) | ((with_reducible refine zan (f := 41) rfl ?_); refine zaN (some 65) rfl rfl Tryd.func41 (by kernel_rfl) rfl #[.int .i64 t554, .int .i64 56320, .int .i64 57343] rfl (by (try simp only [List.map_toArray, List.map_cons, List.map_nil]); first | done | rfl | (simp only [List.length_drop, List.length_take]; rfl)) ?_; (with_reducible refine (impl_in.calls t554 56320 57343 false _ A27.out).mono ?_); rintro e w' ⟨rfl, ⟨nd, rfl⟩⟩; refine ⟨_, rfl, ?_⟩))
       refine bodyPost_ret (results_list (rs := [.tmp 4, .tmp 5, .tmp 6, .tmp 7]) rfl (by simp) (.tmp (.tmp (.tmp (.tmp .nil))))) rfl ?_
       exact ⟨by first | rfl | (simp [zar, zas] <;> rfl) | (simp [*, zar, zas] <;> rfl), by repeat (first | (with_reducible first | exact HB.out | apply zad | apply zaa | apply zac) | exact HB.out)⟩
      rw [if_neg c25] at H
      exact absurd H (by simp)
     rw [if_neg c24] at H
     exact absurd H (by simp)
    replace c19 := Bool.eq_false_iff.mpr c19
    subst c19
    replace H : (some (t552, 2, false, false)) = some (r1, r2, r3, r4) := by rw [if_neg (show ¬ (false = true) by decide)] at H; exact H
    simp only [Option.some.injEq, Prod.mk.injEq] at H
    obtain ⟨rfl, rfl, rfl, rfl⟩ := H
    go_enter Tryd.func28, Tryd.ntmps28
    go_wp2_with (first | ((with_reducible refine zan (f := 45) rfl ?_); refine zaN (some 50) rfl rfl Tryd.func45 (by kernel_rfl) rfl #[.int .i64 a0, .string (a1.extract 0 2)] rfl (by (try simp only [List.map_toArray, List.map_cons, List.map_nil]); first | done | rfl | (simp only [List.length_drop, List.length_take]; rfl)) ?_; (with_reducible refine (zbD.calls a0 (a1.extract 0 2) t552 _ A17.out).mono ?_); rintro e w33 ⟨rfl, hb⟩; refine ⟨_, rfl, ?_⟩; have n0_ := zab.mk (zau (by repeat (first | (with_reducible first | exact HB.out | apply zad | apply zaa | apply zac) | exact HB.out)) hb); clear HB; have HB := n0_; clear n0_; (try clear hb); (try clear hb2); (try clear hk); (try clear hi)) | ((with_reducible refine zan (f := 41) rfl ?_); refine zaN (some 52) rfl rfl Tryd.func41 (by kernel_rfl) rfl #[.int .i64 t552, .int .i64 55296, .int .i64 57343] rfl (by (try simp only [List.map_toArray, List.map_cons, List.map_nil]); first | done | rfl | (simp only [List.length_drop, List.length_take]; rfl)) ?_; (with_reducible refine (impl_in.calls t552 55296 57343 false _ A18.out).mono ?_); rintro e w' ⟨rfl, ⟨nd, rfl⟩⟩; refine ⟨_, rfl, ?_⟩))
    refine bodyPost_ret (results_list (rs := [.tmp 4, .tmp 5, .tmp 6, .tmp 7]) rfl (by simp) (.tmp (.tmp (.tmp (.tmp .nil))))) rfl ?_
    exact ⟨by first | rfl | (simp [zar, zas] <;> rfl) | (simp [*, zar, zas] <;> rfl), by repeat (first | (with_reducible first | exact HB.out | apply zad | apply zaa | apply zac) | exact HB.out)⟩
   rw [if_neg c16] at H
   exact absurd H (by simp)
  rw [if_neg c15] at H
  exact absurd H (by simp)
 rw [if_neg c13] at H
 have c13b0 : decide (a0 ≤ 3) = false := decide_eq_false c13
 clear c13
 by_cases c34 : (a1.size : Int) < 4
 ·rw [if_pos c34] at H
  have c34b0 : decide ((a1.size : Int) < 4) = true := decide_eq_true c34
  have c34b1 : decide (a1.size < 4) = true := decide_eq_true (by omega)
  clear c34
  simp only [Option.some.injEq, Prod.mk.injEq] at H
  obtain ⟨rfl, rfl, rfl, rfl⟩ := H
  go_enter Tryd.func28, Tryd.ntmps28
  go_wp2
  refine bodyPost_ret (results_list (rs := [.tmp 4, .tmp 5, .tmp 6, .tmp 7]) rfl (by simp) (.tmp (.tmp (.tmp (.tmp .nil))))) rfl ?_
  exact ⟨by first | rfl | (simp [zar, zas] <;> rfl) | (simp [*, zar, zas] <;> rfl), by repeat (first | (with_reducible first | exact HB.out | apply zad | apply zaa | apply zac) | exact HB.out)⟩
 rw [if_neg c34] at H
 have c34b0 : decide ((a1.size : Int) < 4) = false := decide_eq_false c34
 have c34b1 : decide (a1.size < 4) = false := decide_eq_false (by omega)
 clear c34
 by_cases c35 : 0 ≤ 4
 ·rw [if_pos c35] at H
  have c35b0 := eq_true c35
  have c35b1 : decide (0 ≤ 4) = true := decide_eq_true c35
  clear c35
  by_cases c36 : 4 ≤ (a1.size : Int)
  ·rw [if_pos c36] at H
   have c36b0 := eq_true c36
   have c36b1 : decide (4 ≤ (a1.size : Int)) = true := decide_eq_true c36
   clear c36; replace H := Option.bind_eq_some_iff.mp H
   obtain ⟨t556, A370, H⟩ := H
   replace H : ((impl_isPoint.f t556).bind fun t557 => (if t557 = true then (some (t556, 4, false, false)) else (some (65533, 4, true, false)))) = some (r1, r2, r3, r4) := H
   have A37 := zab.mk A370; clear A370; replace H := Option.bind_eq_some_iff.mp H
   obtain ⟨t557, A380, H⟩ := H
   replace H : (if t557 = true then (some (t556, 4, false, false)) else (some (65533, 4, true, false))) = some (r1, r2, r3, r4) := H
   have A38 := zab.mk A380; clear A380
   by_cases c39 : t557 = true
   ·subst c39
    replace H : (some (t556, 4, false, false)) = some (r1, r2, r3, r4) := by rw [if_pos rfl] at H; exact H
    simp only [Option.some.injEq, Prod.mk.injEq] at H
    obtain ⟨rfl, rfl, rfl, rfl⟩ := H
    go_enter Tryd.func28, Tryd.ntmps28
    go_wp2_with (first | ((with_reducible refine zan (f := 45) rfl ?_); refine zaN (some 81) rfl rfl Tryd.func45 (by kernel_rfl) rfl #[.int .i64 a0, .string (a1.extract 0 4)] rfl (by (try simp only [List.map_toArray, List.map_cons, List.map_nil]); first | done | rfl | (simp only [List.length_drop, List.length_take]; rfl)) ?_; (with_reducible refine (zbD.calls a0 (a1.extract 0 4) t556 _ A37.out).mono ?_); rintro e w40 ⟨rfl, hb⟩; refine ⟨_, rfl, ?_⟩; have n0_ := zab.mk (zau (by repeat (first | (with_reducible first | exact HB.out | apply zad | apply zaa | apply zac) | exact HB.out)) hb); clear HB; have HB := n0_; clear n0_; (try clear hb); (try clear hb2); (try clear hk); (try clear hi)) | ((with_reducible refine zan (f := 46) rfl ?_); refine zaN (some 83) rfl rfl Tryd.func46 (by kernel_rfl) rfl #[.int .i64 t556] rfl (by (try simp only [List.map_toArray, List.map_cons, List.map_nil]); first | done | rfl | (simp only [List.length_drop, List.length_take]; rfl)) ?_; (with_reducible refine (impl_isPoint.calls t556 true _ A38.out).mono ?_); rintro e w' ⟨rfl, ⟨nd, rfl⟩⟩; refine ⟨_, rfl, ?_⟩))
    refine bodyPost_ret (results_list (rs := [.tmp 4, .tmp 5, .tmp 6, .tmp 7]) rfl (by simp) (.tmp (.tmp (.tmp (.tmp .nil))))) rfl ?_
    exact ⟨by first | rfl | (simp [zar, zas] <;> rfl) | (simp [*, zar, zas] <;> rfl), by repeat (first | (with_reducible first | exact HB.out | apply zad | apply zaa | apply zac) | exact HB.out)⟩
   replace c39 := Bool.eq_false_iff.mpr c39
   subst c39
   replace H : (some (65533, 4, true, false)) = some (r1, r2, r3, r4) := by rw [if_neg (show ¬ (false = true) by decide)] at H; exact H
   simp only [Option.some.injEq, Prod.mk.injEq] at H
   obtain ⟨rfl, rfl, rfl, rfl⟩ := H
   go_enter Tryd.func28, Tryd.ntmps28
   go_wp2_with (first | ((with_reducible refine zan (f := 45) rfl ?_); refine zaN (some 81) rfl rfl Tryd.func45 (by kernel_rfl) rfl #[.int .i64 a0, .string (a1.extract 0 4)] rfl (by (try simp only [List.map_toArray, List.map_cons, List.map_nil]); first | done | rfl | (simp only [List.length_drop, List.length_take]; rfl)) ?_; (with_reducible refine (zbD.calls a0 (a1.extract 0 4) t556 _ A37.out).mono ?_); rintro e w41 ⟨rfl, hb⟩; refine ⟨_, rfl, ?_⟩; have n0_ := zab.mk (zau (by repeat (first | (with_reducible first | exact HB.out | apply zad | apply zaa | apply zac) | exact HB.out)) hb); clear HB; have HB := n0_; clear n0_; (try clear hb); (try clear hb2); (try clear hk); (try clear hi)) | ((with_reducible refine zan (f := 46) rfl ?_); refine zaN (some 83) rfl rfl Tryd.func46 (by kernel_rfl) rfl #[.int .i64 t556] rfl (by (try simp only [List.map_toArray, List.map_cons, List.map_nil]); first | done | rfl | (simp only [List.length_drop, List.length_take]; rfl)) ?_; (with_reducible refine (impl_isPoint.calls t556 false _ A38.out).mono ?_); rintro e w' ⟨rfl, ⟨nd, rfl⟩⟩; refine ⟨_, rfl, ?_⟩))
   refine bodyPost_ret (results_list (rs := [.tmp 4, .tmp 5, .tmp 6, .tmp 7]) rfl (by simp) (.tmp (.tmp (.tmp (.tmp .nil))))) rfl ?_
   exact ⟨by first | rfl | (simp [zar, zas] <;> rfl) | (simp [*, zar, zas] <;> rfl), by repeat (first | (with_reducible first | exact HB.out | apply zad | apply zaa | apply zac) | exact HB.out)⟩
  rw [if_neg c36] at H
  exact absurd H (by simp)
 rw [if_neg c35] at H
 exact absurd H (by simp)
end Go.Proofs.YtfafjbolmeimmaaDoor.P
