/- Written by a program of this session: plain Lean functions for Go functions, and for each the proof that the call comes to what the function says. -/
import Derived.Test.YtbppeepihlajoaaDoorL0
import Derived.Test.YtbppeepihlajoaaDoorL13
import Derived.Test.YtbppeepihlajoaaDoorL17
import Derived.Test.YtbppeepihlajoaaDoorL19
namespace Go.Proofs.YtbppeepihlajoaaDoor.P
open Go.RowKit Go.Proofs.YtbppeepihlajoaaDoorW.PrintWords Go.Proofs.YtbppeepihlajoaaDoorW.PrintLast Go.Proofs.YtbppeepihlajoaaDoorW.PrintMore
attribute [local go_sem] max2_int min2_int max_two min_two max_three min_three max_four min_four
set_option linter.unusedVariables false
set_option linter.unusedSimpArgs false
def zbj.f (a0 : Int) : Option (Bool) := (zaq.f a0 12288 23459).bind fun t364 => (some t364)
set_option maxHeartbeats 8000000 in
set_option maxRecDepth 100000 in
theorem zbj.calls (a0 : Int) (r : Bool) (w : World) (h : zbj.f a0 = some r) :
  Calls Tryd.prog 198 #[.int .i64 a0] w fun e w' => e = .returned (.bool r) ∧ zau w w' := by
 have H : ((zaq.f a0 12288 23459).bind fun t364 => (some t364)) = some r := h
 clear h; replace H := Option.bind_eq_some_iff.mp H
 obtain ⟨t364, A20, H⟩ := H
 replace H : (some t364) = some r := H
 have A2 := zab.mk A20; clear A20; obtain rfl := Option.some.inj H
 go_enter Tryd.func198, Tryd.ntmps198
 go_wp2_with (first | ((with_reducible refine zae (f := 110) rfl ?_); refine zaB (some 4) rfl rfl Tryd.func110 (by kernel_rfl) rfl #[.int .i64 a0, .int .i64 12288, .int .i64 23459] rfl (by (try simp only [List.map_toArray, List.map_cons, List.map_nil]); first | done | rfl | (simp only [List.length_drop, List.length_take]; rfl)) ?_; (with_reducible refine (zaq.calls a0 12288 23459 t364 _ A2.out).mono ?_); rintro e w' ⟨rfl, ⟨nd, rfl⟩⟩; refine ⟨_, rfl, ?_⟩))
 go_ret
 exact ⟨by first | rfl | (simp; done) | (simp [*]; done), by repeat (first | exact zau.refl _ | apply zau.step)⟩
def impl_isOpen.f (a0 : Int) : Option (Bool) := (zbj.f a0).bind fun t365 => (if t365 = true then (some ((Int.tmod (wrap64 (a0 - 12288)) 28) == 0)) else (some false))
set_option maxHeartbeats 8000000 in
set_option maxRecDepth 100000 in
theorem impl_isOpen.calls (a0 : Int) (r : Bool) (w : World) (h : impl_isOpen.f a0 = some r) :
  Calls Tryd.prog 197 #[.int .i64 a0] w fun e w' => e = .returned (.bool r) ∧ zau w w' := by
 have H : ((zbj.f a0).bind fun t365 => (if t365 = true then (some ((Int.tmod (wrap64 (a0 - 12288)) 28) == 0)) else (some false))) = some r := h
 clear h; replace H := Option.bind_eq_some_iff.mp H
 obtain ⟨t365, A20, H⟩ := H
 replace H : (if t365 = true then (some ((Int.tmod (wrap64 (a0 - 12288)) 28) == 0)) else (some false)) = some r := H
 have A2 := zab.mk A20; clear A20
 by_cases c3 : t365 = true
 ·subst c3
  replace H : (some ((Int.tmod (wrap64 (a0 - 12288)) 28) == 0)) = some r := by rw [if_pos rfl] at H; exact H
  obtain rfl := Option.some.inj H
  go_enter Tryd.func197, Tryd.ntmps197
  go_wp2_with (first | ((with_reducible refine zae (f := 198) rfl ?_); refine zaB (some 4) rfl rfl Tryd.func198 (by kernel_rfl) rfl #[.int .i64 a0] rfl (by (try simp only [List.map_toArray, List.map_cons, List.map_nil]); first | done | rfl | (simp only [List.length_drop, List.length_take]; rfl)) ?_; (with_reducible refine (zbj.calls a0 true _ A2.out).mono ?_); rintro e w' ⟨rfl, ⟨nd, rfl⟩⟩; refine ⟨_, rfl, ?_⟩))
  go_ret
  exact ⟨by first | rfl | (simp; done) | (simp [*]; done), by repeat (first | exact zau.refl _ | apply zau.step)⟩
 replace c3 := Bool.eq_false_iff.mpr c3
 subst c3
 replace H : (some false) = some r := by rw [if_neg (show ¬ (false = true) by decide)] at H; exact H
 obtain rfl := Option.some.inj H
 go_enter Tryd.func197, Tryd.ntmps197
 go_wp2_with (first | ((with_reducible refine zae (f := 198) rfl ?_); refine zaB (some 4) rfl rfl Tryd.func198 (by kernel_rfl) rfl #[.int .i64 a0] rfl (by (try simp only [List.map_toArray, List.map_cons, List.map_nil]); first | done | rfl | (simp only [List.length_drop, List.length_take]; rfl)) ?_; (with_reducible refine (zbj.calls a0 false _ A2.out).mono ?_); rintro e w' ⟨rfl, ⟨nd, rfl⟩⟩; refine ⟨_, rfl, ?_⟩))
 go_ret
 exact ⟨by first | rfl | (simp; done) | (simp [*]; done), by repeat (first | exact zau.refl _ | apply zau.step)⟩
mutual
def zaM.j0 : Nat → Int → Bool → Option (Int)
 | 0, _, _ => none
 | k + 1, x0, x3 => if x3 = true then (some 1) else ((impl_isMark.f k x0).bind fun t367 => (if t367 = true then (zaM.j1 k x0 true) else (if x0 = 7936 then (zaM.j1 k x0 true) else ((zaq.f x0 7744 7748).bind fun t368 => (zaM.j1 k x0 t368)))))
def zaM.j1 : Nat → Int → Bool → Option (Int)
 | 0, _, _ => none
 | k + 1, x0, x11 => if x11 = true then (some 2) else ((zaq.f x0 1792 1810).bind fun t369 => (if t369 = true then (some 3) else ((zaq.f x0 1824 1844).bind fun t370 => (if t370 = true then (some 4) else ((zaq.f x0 1857 1883).bind fun t371 => (if t371 = true then (some 5) else ((impl_isOpen.f x0).bind fun t372 => (if t372 = true then (some 6) else ((zbj.f x0).bind fun t373 => (if t373 = true then (some 7) else ((za3.f x0).bind fun t374 => (if t374 = true then (some 8) else ((zaq.f x0 7760 7785).bind fun t375 => (if t375 = true then (some 9) else (some 0)))))))))))))))
end
def zaM.f (k : Nat) (a0 : Int) : Option (Int) := (impl_Category.f k a0).bind fun t366 => (if t366 = 1 then (zaM.j0 k a0 true) else (zaM.j0 k a0 (a0 == 7954)))
set_option maxHeartbeats 8000000 in
set_option maxRecDepth 100000 in
theorem zaM.calls (k : Nat) (a0 : Int) (r : Int) (w : World) (h : zaM.f k a0 = some r) :
  Calls Tryd.prog 169 #[.int .i64 a0] w fun e w' => e = .returned (.int .i64 r) ∧ zau w w' := by
 have H : ((impl_Category.f k a0).bind fun t366 => (if t366 = 1 then (zaM.j0 k a0 true) else (zaM.j0 k a0 (a0 == 7954)))) = some r := h
 clear h; have HC2 := zab.mk H; clear H
 go_enter Tryd.func169, Tryd.ntmps169
 go_upto_region 1 with (fail)
 go_cut [3] (fun v3 wc => ∃ (kq : Nat) (x3_1 : Bool), v3 = .bool x3_1 ∧ zab (zaM.j0 kq a0 x3_1 = some r) ∧ zab (kq ≤ k) ∧ zau w wc)
 case first =>
  have H := HC2.out; clear HC2; replace H := Option.bind_eq_some_iff.mp H
  obtain ⟨t366, A30, H⟩ := H
  replace H : (if t366 = 1 then (zaM.j0 k a0 true) else (zaM.j0 k a0 (a0 == 7954))) = some r := H
  have A3 := zab.mk A30; clear A30
  by_cases c4 : t366 = 1
  ·rw [if_pos c4] at H
   have c4b0 : (t366 == 1) = true := beq_iff_eq.mpr c4
   have c4b1 : (t366 != 1) = false := bne_eq_false_iff_eq.mpr c4
   clear c4
   (first | rw [c4b0] | rw [c4b1] | (simp only [zbo, i32_w]; rw [c4b0]) | skip)
   have H' := zab.mk H; clear H
   go_wp2_with (first | ((with_reducible refine zae (f := 150) rfl ?_); refine zaB (some 5) rfl rfl Tryd.func150 (by kernel_rfl) rfl #[.int .i64 a0] rfl (by (try simp only [List.map_toArray, List.map_cons, List.map_nil]); first | done | rfl | (simp only [List.length_drop, List.length_take]; rfl)) ?_; (with_reducible refine (impl_Category.calls k a0 t366 _ A3.out).mono ?_); rintro e w' ⟨rfl, ⟨nd, rfl⟩⟩; refine ⟨_, rfl, ?_⟩))
   go_meet
   case rel => exact ⟨_, (true), (by first | rfl | (simp; done) | (simp [*]; done)), H', ⟨by first | omega | exact Nat.le_refl _⟩, by repeat (first | exact zau.refl _ | apply zau.step)⟩
  rw [if_neg c4] at H
  have c4b0 : (t366 == 1) = false := beq_eq_false_iff_ne.mpr c4
  have c4b1 : (t366 != 1) = true := bne_iff_ne.mpr c4
  (first | rw [c4b0] | rw [c4b1] | (simp only [zbo, i32_w]; rw [c4b0]) | skip)
  have H' := zab.mk H; clear H
  go_wp2_with (first | ((with_reducible refine zae (f := 150) rfl ?_); refine zaB (some 5) rfl rfl Tryd.func150 (by kernel_rfl) rfl #[.int .i64 a0] rfl (by (try simp only [List.map_toArray, List.map_cons, List.map_nil]); first | done | rfl | (simp only [List.length_drop, List.length_take]; rfl)) ?_; (with_reducible refine (impl_Category.calls k a0 t366 _ A3.out).mono ?_); rintro e w' ⟨rfl, ⟨nd, rfl⟩⟩; refine ⟨_, rfl, ?_⟩))
  go_meet
  case rel => exact ⟨_, ((a0 == 7954)), (by first | rfl | (simp; done) | (simp [*]; done)), H', ⟨by first | omega | exact Nat.le_refl _⟩, by repeat (first | exact zau.refl _ | apply zau.step)⟩
 case rest =>
  clear HC2
  obtain ⟨kq, x3_1, rfl, HA, HJ1, ⟨mc1, rfl⟩⟩ := hcut
  cases kq with
  | zero => exact absurd HA.out (by simp [zaM.j0])
  | succ kj1 =>
   have H := HA.out; clear HA
   simp only [zaM.j0] at H
   by_cases c5 : x3_1 = true
   ·subst c5
    replace H : (some 1) = some r := by rw [if_pos rfl] at H; exact H
    obtain rfl := Option.some.inj H
    go_wp2
    go_ret
    exact ⟨by first | rfl | (simp; done) | (simp [*]; done), by repeat (first | exact zau.refl _ | apply zau.step)⟩
   replace c5 := Bool.eq_false_iff.mpr c5
   subst c5
   replace H : ((impl_isMark.f kj1 a0).bind fun t367 => (if t367 = true then (zaM.j1 kj1 a0 true) else (if a0 = 7936 then (zaM.j1 kj1 a0 true) else ((zaq.f a0 7744 7748).bind fun t368 => (zaM.j1 kj1 a0 t368))))) = some r := by rw [if_neg (show ¬ (false = true) by decide)] at H; exact H
   have HC6 := zab.mk H; clear H
   go_upto_region 3 with (fail)
   go_cut [11] (fun v11 wc => ∃ (kq : Nat) (x11_5 : Bool), v11 = .bool x11_5 ∧ zab (zaM.j1 kq a0 x11_5 = some r) ∧ zab (kq ≤ kj1) ∧ zau w wc)
   case first =>
    have H := HC6.out; clear HC6; replace H := Option.bind_eq_some_iff.mp H
    obtain ⟨t367, A70, H⟩ := H
    replace H : (if t367 = true then (zaM.j1 kj1 a0 true) else (if a0 = 7936 then (zaM.j1 kj1 a0 true) else ((zaq.f a0 7744 7748).bind fun t368 => (zaM.j1 kj1 a0 t368)))) = some r := H
    have A7 := zab.mk A70; clear A70
    by_cases c8 : t367 = true
    ·subst c8
     replace H : (zaM.j1 kj1 a0 true) = some r := by rw [if_pos rfl] at H; exact H
     have H' := zab.mk H; clear H
     go_wp2_with (first | ((with_reducible refine zae (f := 121) rfl ?_); refine zaB (some 13) rfl rfl Tryd.func121 (by kernel_rfl) rfl #[.int .i64 a0] rfl (by (try simp only [List.map_toArray, List.map_cons, List.map_nil]); first | done | rfl | (simp only [List.length_drop, List.length_take]; rfl)) ?_; (with_reducible refine (impl_isMark.calls kj1 a0 true _ A7.out).mono ?_); rintro e w' ⟨rfl, ⟨nd, rfl⟩⟩; refine ⟨_, rfl, ?_⟩))
     go_meet
     case rel => exact ⟨_, (true), (by first | rfl | (simp; done) | (simp [*]; done)), H', ⟨by have := HJ1.out; first | omega | exact Nat.le_refl _⟩, by repeat (first | exact zau.refl _ | apply zau.step)⟩
    replace c8 := Bool.eq_false_iff.mpr c8
    subst c8
    replace H : (if a0 = 7936 then (zaM.j1 kj1 a0 true) else ((zaq.f a0 7744 7748).bind fun t368 => (zaM.j1 kj1 a0 t368))) = some r := by rw [if_neg (show ¬ (false = true) by decide)] at H; exact H
    by_cases c9 : a0 = 7936
    ·rw [if_pos c9] at H
     have c9b0 : (a0 == 7936) = true := beq_iff_eq.mpr c9
     have c9b1 : (a0 != 7936) = false := bne_eq_false_iff_eq.mpr c9
     clear c9
     (first | rw [c9b0] | rw [c9b1] | (simp only [zbo, i32_w]; rw [c9b0]) | skip)
     have H' := zab.mk H; clear H
     go_wp2_with (first | ((with_reducible refine zae (f := 121) rfl ?_); refine zaB (some 13) rfl rfl Tryd.func121 (by kernel_rfl) rfl #[.int .i64 a0] rfl (by (try simp only [List.map_toArray, List.map_cons, List.map_nil]); first | done | rfl | (simp only [List.length_drop, List.length_take]; rfl)) ?_; (with_reducible refine (impl_isMark.calls kj1 a0 false _ A7.out).mono ?_); rintro e w' ⟨rfl, ⟨nd, rfl⟩⟩; refine ⟨_, rfl, ?_⟩))
     go_meet
     case rel => exact ⟨_, (true), (by first | rfl | (simp; done) | (simp [*]; done)), H', ⟨by have := HJ1.out; first | omega | exact Nat.le_refl _⟩, by repeat (first | exact zau.refl _ | apply zau.step)⟩
    rw [if_neg c9] at H
    have c9b0 : (a0 == 7936) = false := beq_eq_false_iff_ne.mpr c9
    have c9b1 : (a0 != 7936) = true := bne_iff_ne.mpr c9
    (first | rw [c9b0] | rw [c9b1] | (simp only [zbo, i32_w]; rw [c9b0]) | skip)
    replace H := Option.bind_eq_some_iff.mp H
    obtain ⟨t368, A100, H⟩ := H
    replace H : (zaM.j1 kj1 a0 t368) = some r := H
    have A10 := zab.mk A100; clear A100; have H' := zab.mk H; clear H
    go_wp2_with (first | ((with_reducible refine zae (f := 121) rfl ?_); refine zaB (some 13) rfl rfl Tryd.func121 (by kernel_rfl) rfl #[.int .i64 a0] rfl (by (try simp only [List.map_toArray, List.map_cons, List.map_nil]); first | done | rfl | (simp only [List.length_drop, List.length_take]; rfl)) ?_; (with_reducible refine (impl_isMark.calls kj1 a0 false _ A7.out).mono ?_); rintro e w' ⟨rfl, ⟨nd, rfl⟩⟩; refine ⟨_, rfl, ?_⟩) | (go_at_call 110; (with_reducible refine (zaq.calls a0 7744 7748 t368 _ A10.out).mono ?_); rintro e w' ⟨rfl, ⟨nd, rfl⟩⟩))
    go_meet
    case rel => exact ⟨_, (t368), (by first | rfl | (simp; done) | (simp [*]; done)), H', ⟨by have := HJ1.out; first | omega | exact Nat.le_refl _⟩, by repeat (first | exact zau.refl _ | apply zau.step)⟩
   case rest =>
    clear HC6
    try clear c5
    obtain ⟨kq, x11_5, rfl, HA, HJ5, ⟨mc5, rfl⟩⟩ := hcut
    cases kq with
    | zero => exact absurd HA.out (by simp [zaM.j1])
    | succ kj5 =>
     have H := HA.out; clear HA
     simp only [zaM.j1] at H
     by_cases c11 : x11_5 = true
     ·subst c11
      replace H : (some 2) = some r := by rw [if_pos rfl] at H; exact H
      obtain rfl := Option.some.inj H
      go_wp2
      go_ret
      exact ⟨by first | rfl | (simp; done) | (simp [*]; done), by repeat (first | exact zau.refl _ | apply zau.step)⟩
     replace c11 := Bool.eq_false_iff.mpr c11
     subst c11
     replace H : ((zaq.f a0 1792 1810).bind fun t369 => (if t369 = true then (some 3) else ((zaq.f a0 1824 1844).bind fun t370 => (if t370 = true then (some 4) else ((zaq.f a0 1857 1883).bind fun t371 => (if t371 = true then (some 5) else ((impl_isOpen.f a0).bind fun t372 => (if t372 = true then (some 6) else ((zbj.f a0).bind fun t373 => (if t373 = true then (some 7) else ((za3.f a0).bind fun t374 => (if t374 = true then (some 8) else ((zaq.f a0 7760 7785).bind fun t375 => (if t375 = true then (some 9) else (some 0))))))))))))))) = some r := by rw [if_neg (show ¬ (false = true) by decide)] at H; exact H
     replace H := Option.bind_eq_some_iff.mp H
     obtain ⟨t369, A120, H⟩ := H
     replace H : (if t369 = true then (some 3) else ((zaq.f a0 1824 1844).bind fun t370 => (if t370 = true then (some 4) else ((zaq.f a0 1857 1883).bind fun t371 => (if t371 = true then (some 5) else ((impl_isOpen.f a0).bind fun t372 => (if t372 = true then (some 6) else ((zbj.f a0).bind fun t373 => (if t373 = true then (some 7) else ((za3.f a0).bind fun t374 => (if t374 = true then (some 8) else ((zaq.f a0 7760 7785).bind fun t375 => (if t375 = true then (some 9) else (some 0)))))))))))))) = some r := H
     have A12 := zab.mk A120; clear A120
     by_cases c13 : t369 = true
     ·subst c13
      replace H : (some 3) = some r := by rw [if_pos rfl] at H; exact H
      obtain rfl := Option.some.inj H
      go_wp2_with (first | ((with_reducible refine zae (f := 110) rfl ?_); refine zaB (some 24) rfl rfl Tryd.func110 (by kernel_rfl) rfl #[.int .i64 a0, .int .i64 1792, .int .i64 1810] rfl (by (try simp only [List.map_toArray, List.map_cons, List.map_nil]); first | done | rfl | (simp only [List.length_drop, List.length_take]; rfl)) ?_; (with_reducible refine (zaq.calls a0 1792 1810 true _ A12.out).mono ?_); rintro e w' ⟨rfl, ⟨nd, rfl⟩⟩; refine ⟨_, rfl, ?_⟩))
      go_ret
      exact ⟨by first | rfl | (simp; done) | (simp [*]; done), by repeat (first | exact zau.refl _ | apply zau.step)⟩
     replace c13 := Bool.eq_false_iff.mpr c13
     subst c13
     replace H : ((zaq.f a0 1824 1844).bind fun t370 => (if t370 = true then (some 4) else ((zaq.f a0 1857 1883).bind fun t371 => (if t371 = true then (some 5) else ((impl_isOpen.f a0).bind fun t372 => (if t372 = true then (some 6) else ((zbj.f a0).bind fun t373 => (if t373 = true then (some 7) else ((za3.f a0).bind fun t374 => (if t374 = true then (some 8) else ((zaq.f a0 7760 7785).bind fun t375 => (if t375 = true then (some 9) else (some 0))))))))))))) = some r := by rw [if_neg (show ¬ (false = true) by decide)] at H; exact H
     replace H := Option.bind_eq_some_iff.mp H
     obtain ⟨t370, A140, H⟩ := H
     replace H : (if t370 = true then (some 4) else ((zaq.f a0 1857 1883).bind fun t371 => (if t371 = true then (some 5) else ((impl_isOpen.f a0).bind fun t372 => (if t372 = true then (some 6) else ((zbj.f a0).bind fun t373 => (if t373 = true then (some 7) else ((za3.f a0).bind fun t374 => (if t374 = true then (some 8) else ((zaq.f a0 7760 7785).bind fun t375 => (if t375 = true then (some 9) else (some 0)))))))))))) = some r := H
     have A14 := zab.mk A140; clear A140
     by_cases c15 : t370 = true
     ·subst c15
      replace H : (some 4) = some r := by rw [if_pos rfl] at H; exact H
      obtain rfl := Option.some.inj H
      go_wp2_with (first | ((with_reducible refine zae (f := 110) rfl ?_); refine zaB (some 24) rfl rfl Tryd.func110 (by kernel_rfl) rfl #[.int .i64 a0, .int .i64 1792, .int .i64 1810] rfl (by (try simp only [List.map_toArray, List.map_cons, List.map_nil]); first | done | rfl | (simp only [List.length_drop, List.length_take]; rfl)) ?_; (with_reducible refine (zaq.calls a0 1792 1810 false _ A12.out).mono ?_); rintro e w' ⟨rfl, ⟨nd, rfl⟩⟩; refine ⟨_, rfl, ?_⟩) | ((with_reducible refine zae (f := 110) rfl ?_); refine zaB (some 27) rfl rfl Tryd.func110 (by kernel_rfl) rfl #[.int .i64 a0, .int .i64 1824, .int .i64 1844] rfl (by (try simp only [List.map_toArray, List.map_cons, List.map_nil]); first | done | rfl | (simp only [List.length_drop, List.length_take]; rfl)) ?_; (with_reducible refine (zaq.calls a0 1824 1844 true _ A14.out).mono ?_); rintro e w' ⟨rfl, ⟨nd, rfl⟩⟩; refine ⟨_, rfl, ?_⟩))
      go_ret
      exact ⟨by first | rfl | (simp; done) | (simp [*]; done), by repeat (first | exact zau.refl _ | apply zau.step)⟩
     replace c15 := Bool.eq_false_iff.mpr c15
     subst c15
     replace H : ((zaq.f a0 1857 1883).bind fun t371 => (if t371 = true then (some 5) else ((impl_isOpen.f a0).bind fun t372 => (if t372 = true then (some 6) else ((zbj.f a0).bind fun t373 => (if t373 = true then (some 7) else ((za3.f a0).bind fun t374 => (if t374 = true then (some 8) else ((zaq.f a0 7760 7785).bind fun t375 => (if t375 = true then (some 9) else (some 0))))))))))) = some r := by rw [if_neg (show ¬ (false = true) by decide)] at H; exact H
     replace H := Option.bind_eq_some_iff.mp H
     obtain ⟨t371, A160, H⟩ := H
     replace H : (if t371 = true then (some 5) else ((impl_isOpen.f a0).bind fun t372 => (if t372 = true then (some 6) else ((zbj.f a0).bind fun t373 => (if t373 = true then (some 7) else ((za3.f a0).bind fun t374 => (if t374 = true then (some 8) else ((zaq.f a0 7760 7785).bind fun t375 => (if t375 = true then (some 9) else (some 0)))))))))) = some r := H
     have A16 := zab.mk A160; clear A160
     by_cases c17 : t371 = true
     ·subst c17
      replace H : (some 5) = some r := by rw [if_pos rfl] at H; exact H
      obtain rfl := Option.some.inj H
      go_wp2_with (first | ((with_reducible refine zae (f := 110) rfl ?_); refine zaB (some 24) rfl rfl Tryd.func110 (by kernel_rfl) rfl #[.int .i64 a0, .int .i64 1792, .int .i64 1810] rfl (by (try simp only [List.map_toArray, List.map_cons, List.map_nil]); first | done | rfl | (simp only [List.length_drop, List.length_take]; rfl)) ?_; (with_reducible refine (zaq.calls a0 1792 1810 false _ A12.out).mono ?_); rintro e w' ⟨rfl, ⟨nd, rfl⟩⟩; refine ⟨_, rfl, ?_⟩) | ((with_reducible refine zae (f := 110) rfl ?_); refine zaB (some 27) rfl rfl Tryd.func110 (by kernel_rfl) rfl #[.int .i64 a0, .int .i64 1824, .int .i64 1844] rfl (by (try simp only [List.map_toArray, List.map_cons, List.map_nil]); first | done | rfl | (simp only [List.length_drop, List.length_take]; rfl)) ?_; (with_reducible refine (zaq.calls a0 1824 1844 false _ A14.out).mono ?_); rintro e w' ⟨rfl, ⟨nd, rfl⟩⟩; refine ⟨_, rfl, ?_⟩) | ((with_reducible refine zae (f := 110) rfl ?_); refine zaB (some 30) rfl rfl Tryd.func110 (by kernel_rfl) rfl #[.int .i64 a0, .int .i64 1857, .int .i64 1883] rfl (by (try simp only [List.map_toArray, List.map_cons, List.map_nil]); first | done | rfl | (simp only [List.length_drop, List.length_take]; rfl)) ?_; (with_reducible refine (zaq.calls a0 1857 1883 true _ A16.out).mono ?_); rintro e w' ⟨rfl, ⟨nd, rfl⟩⟩; refine ⟨_, rfl, ?_⟩))
      go_ret
      exact ⟨by first | rfl | (simp; done) | (simp [*]; done), by repeat (first | exact zau.refl _ | apply zau.step)⟩
     replace c17 := Bool.eq_false_iff.mpr c17
     subst c17
     replace H : ((impl_isOpen.f a0).bind fun t372 => (if t372 = true then (some 6) else ((zbj.f a0).bind fun t373 => (if t373 = true then (some 7) else ((za3.f a0).bind fun t374 => (if t374 = true then (some 8) else ((zaq.f a0 7760 7785).bind fun t375 => (if t375 = true then (some 9) else (some 0))))))))) = some r := by rw [if_neg (show ¬ (false = true) by decide)] at H; exact H
     replace H := Option.bind_eq_some_iff.mp H
     obtain ⟨t372, A180, H⟩ := H
     replace H : (if t372 = true then (some 6) else ((zbj.f a0).bind fun t373 => (if t373 = true then (some 7) else ((za3.f a0).bind fun t374 => (if t374 = true then (some 8) else ((zaq.f a0 7760 7785).bind fun t375 => (if t375 = true then (some 9) else (some 0)))))))) = some r := H
     have A18 := zab.mk A180; clear A180
     by_cases c19 : t372 = true
     ·subst c19
      replace H : (some 6) = some r := by rw [if_pos rfl] at H; exact H
      obtain rfl := Option.some.inj H
      go_wp2_with (first | ((with_reducible refine zae (f := 110) rfl ?_); refine zaB (some 24) rfl rfl Tryd.func110 (by kernel_rfl) rfl #[.int .i64 a0, .int .i64 1792, .int .i64 1810] rfl (by (try simp only [List.map_toArray, List.map_cons, List.map_nil]); first | done | rfl | (simp only [List.length_drop, List.length_take]; rfl)) ?_; (with_reducible refine (zaq.calls a0 1792 1810 false _ A12.out).mono ?_); rintro e w' ⟨rfl, ⟨nd, rfl⟩⟩; refine ⟨_, rfl, ?_⟩) | ((with_reducible refine zae (f := 110) rfl ?_); refine zaB (some 27) rfl rfl Tryd.func110 (by kernel_rfl) rfl #[.int .i64 a0, .int .i64 1824, .int .i64 1844] rfl (by (try simp only [List.map_toArray, List.map_cons, List.map_nil]); first | done | rfl | (simp only [List.length_drop, List.length_take]; rfl)) ?_; (with_reducible refine (zaq.calls a0 1824 1844 false _ A14.out).mono ?_); rintro e w' ⟨rfl, ⟨nd, rfl⟩⟩; refine ⟨_, rfl, ?_⟩) | ((with_reducible refine zae (f := 110) rfl ?_); refine zaB (some 30) rfl rfl Tryd.func110 (by kernel_rfl) rfl #[.int .i64 a0, .int .i64 1857, .int .i64 1883] rfl (by (try simp only [List.map_toArray, List.map_cons, List.map_nil]); first | done | rfl | (simp only [List.length_drop, List.length_take]; rfl)) ?_; (with_reducible refine (zaq.calls a0 1857 1883 false _ A16.out).mono ?_); rintro e w' ⟨rfl, ⟨nd, rfl⟩⟩; refine ⟨_, rfl, ?_⟩) | ((with_reducible refine zae (f := 197) rfl ?_); refine zaB (some 33) rfl rfl Tryd.func197 (by kernel_rfl) rfl #[.int .i64 a0] rfl (by (try simp only [List.map_toArray, List.map_cons, List.map_nil]); first | done | rfl | (simp only [List.length_drop, List.length_take]; rfl)) ?_; (with_reducible refine (impl_isOpen.calls a0 true _ A18.out).mono ?_); rintro e w' ⟨rfl, ⟨nd, rfl⟩⟩; refine ⟨_, rfl, ?_⟩))
      go_ret
      exact ⟨by first | rfl | (simp; done) | (simp [*]; done), by repeat (first | exact zau.refl _ | apply zau.step)⟩
     replace c19 := Bool.eq_false_iff.mpr c19
     subst c19
     replace H : ((zbj.f a0).bind fun t373 => (if t373 = true then (some 7) else ((za3.f a0).bind fun t374 => (if t374 = true then (some 8) else ((zaq.f a0 7760 7785).bind fun t375 => (if t375 = true then (some 9) else (some 0))))))) = some r := by rw [if_neg (show ¬ (false = true) by decide)] at H; exact H
     replace H := Option.bind_eq_some_iff.mp H
     obtain ⟨t373, A200, H⟩ := H
     replace H : (if t373 = true then (some 7) else ((za3.f a0).bind fun t374 => (if t374 = true then (some 8) else ((zaq.f a0 7760 7785).bind fun t375 => (if t375 = true then (some 9) else (some 0)))))) = some r := H
     have A20 := zab.mk A200; clear A200
     by_cases c21 : t373 = true
     ·subst c21
      replace H : (some 7) = some r := by rw [if_pos rfl] at H; exact H
      obtain rfl := Option.some.inj H
      go_wp2_with (first | ((with_reducible refine zae (f := 110) rfl ?_); refine zaB (some 24) rfl rfl Tryd.func110 (by kernel_rfl) rfl #[.int .i64 a0, .int .i64 1792, .int .i64 1810] rfl (by (try simp only [List.map_toArray, List.map_cons, List.map_nil]); first | done | rfl | (simp only [List.length_drop, List.length_take]; rfl)) ?_; (with_reducible refine (zaq.calls a0 1792 1810 false _ A12.out).mono ?_); rintro e w' ⟨rfl, ⟨nd, rfl⟩⟩; refine ⟨_, rfl, ?_⟩) | ((with_reducible refine zae (f := 110) rfl ?_); refine zaB (some 27) rfl rfl Tryd.func110 (by kernel_rfl) rfl #[.int .i64 a0, .int .i64 1824, .int .i64 1844] rfl (by (try simp only [List.map_toArray, List.map_cons, List.map_nil]); first | done | rfl | (simp only [List.length_drop, List.length_take]; rfl)) ?_; (with_reducible refine (zaq.calls a0 1824 1844 false _ A14.out).mono ?_); rintro e w' ⟨rfl, ⟨nd, rfl⟩⟩; refine ⟨_, rfl, ?_⟩) | ((with_reducible refine zae (f := 110) rfl ?_); refine zaB (some 30) rfl rfl Tryd.func110 (by kernel_rfl) rfl #[.int .i64 a0, .int .i64 1857, .int .i64 1883] rfl (by (try simp only [List.map_toArray, List.map_cons, List.map_nil]); first | done | rfl | (simp only [List.length_drop, List.length_take]; rfl)) ?_; (with_reducible refine (zaq.calls a0 1857 1883 false _ A16.out).mono ?_); rintro e w' ⟨rfl, ⟨nd, rfl⟩⟩; refine ⟨_, rfl, ?_⟩) | ((with_reducible refine zae (f := 197) rfl ?_); refine zaB (some 33) rfl rfl Tryd.func197 (by kernel_rfl) rfl #[.int .i64 a0] rfl (by (try simp only [List.map_toArray, List.map_cons, List.map_nil]); first | done | rfl | (simp only [List.length_drop, List.length_take]; rfl)) ?_; (with_reducible refine (impl_isOpen.calls a0 false _ A18.out).mono ?_); rintro e w' ⟨rfl, ⟨nd, rfl⟩⟩; refine ⟨_, rfl, ?_⟩) | ((with_reducible refine zae (f := 198) rfl ?_); refine zaB (some 36) rfl rfl Tryd.func198 (by kernel_rfl) rfl #[.int .i64 a0] rfl (by (try simp only [List.map_toArray, List.map_cons, List.map_nil]); first | done | rfl | (simp only [List.length_drop, List.length_take]; rfl)) ?_; (with_reducible refine (zbj.calls a0 true _ A20.out).mono ?_); rintro e w' ⟨rfl, ⟨nd, rfl⟩⟩; refine ⟨_, rfl, ?_⟩))
      go_ret
      exact ⟨by first | rfl | (simp; done) | (simp [*]; done), by repeat (first | exact zau.refl _ | apply zau.step)⟩
     replace c21 := Bool.eq_false_iff.mpr c21
     subst c21
     replace H : ((za3.f a0).bind fun t374 => (if t374 = true then (some 8) else ((zaq.f a0 7760 7785).bind fun t375 => (if t375 = true then (some 9) else (some 0))))) = some r := by rw [if_neg (show ¬ (false = true) by decide)] at H; exact H
     replace H := Option.bind_eq_some_iff.mp H
     obtain ⟨t374, A220, H⟩ := H
     replace H : (if t374 = true then (some 8) else ((zaq.f a0 7760 7785).bind fun t375 => (if t375 = true then (some 9) else (some 0)))) = some r := H
     have A22 := zab.mk A220; clear A220
     by_cases c23 : t374 = true
     ·subst c23
      replace H : (some 8) = some r := by rw [if_pos rfl] at H; exact H
      obtain rfl := Option.some.inj H
      go_wp2_with (first | ((with_reducible refine zae (f := 110) rfl ?_); refine zaB (some 24) rfl rfl Tryd.func110 (by kernel_rfl) rfl #[.int .i64 a0, .int .i64 1792, .int .i64 1810] rfl (by (try simp only [List.map_toArray, List.map_cons, List.map_nil]); first | done | rfl | (simp only [List.length_drop, List.length_take]; rfl)) ?_; (with_reducible refine (zaq.calls a0 1792 1810 false _ A12.out).mono ?_); rintro e w' ⟨rfl, ⟨nd, rfl⟩⟩; refine ⟨_, rfl, ?_⟩) | ((with_reducible refine zae (f := 110) rfl ?_); refine zaB (some 27) rfl rfl Tryd.func110 (by kernel_rfl) rfl #[.int .i64 a0, .int .i64 1824, .int .i64 1844] rfl (by (try simp only [List.map_toArray, List.map_cons, List.map_nil]); first | done | rfl | (simp only [List.length_drop, List.length_take]; rfl)) ?_; (with_reducible refine (zaq.calls a0 1824 1844 false _ A14.out).mono ?_); rintro e w' ⟨rfl, ⟨nd, rfl⟩⟩; refine ⟨_, rfl, ?_⟩) | ((with_reducible refine zae (f := 110) rfl ?_); refine zaB (some 30) rfl rfl Tryd.func110 (by kernel_rfl) rfl #[.int .i64 a0, .int .i64 1857, .int .i64 1883] rfl (by (try simp only [List.map_toArray, List.map_cons, List.map_nil]); first | done | rfl | (simp only [List.length_drop, List.length_take]; rfl)) ?_; (with_reducible refine (zaq.calls a0 1857 1883 false _ A16.out).mono ?_); rintro e w' ⟨rfl, ⟨nd, rfl⟩⟩; refine ⟨_, rfl, ?_⟩) | ((with_reducible refine zae (f := 197) rfl ?_); refine zaB (some 33) rfl rfl Tryd.func197 (by kernel_rfl) rfl #[.int .i64 a0] rfl (by (try simp only [List.map_toArray, List.map_cons, List.map_nil]); first | done | rfl | (simp only [List.length_drop, List.length_take]; rfl)) ?_; (with_reducible refine (impl_isOpen.calls a0 false _ A18.out).mono ?_); rintro e w' ⟨rfl, ⟨nd, rfl⟩⟩; refine ⟨_, rfl, ?_⟩) | ((with_reducible refine zae (f := 198) rfl ?_); refine zaB (some 36) rfl rfl Tryd.func198 (by kernel_rfl) rfl #[.int .i64 a0] rfl (by (try simp only [List.map_toArray, List.map_cons, List.map_nil]); first | done | rfl | (simp only [List.length_drop, List.length_take]; rfl)) ?_; (with_reducible refine (zbj.calls a0 false _ A20.out).mono ?_); rintro e w' ⟨rfl, ⟨nd, rfl⟩⟩; refine ⟨_, rfl, ?_⟩) | ((with_reducible refine zae (f := 168) rfl ?_); refine zaB (some 39) rfl rfl Tryd.func168 (by kernel_rfl) rfl #[.int .i64 a0] rfl (by (try simp only [List.map_toArray, List.map_cons, List.map_nil]); first | done | rfl | (simp only [List.length_drop, List.length_take]; rfl)) ?_; (with_reducible refine (za3.calls a0 true _ A22.out).mono ?_); rintro e w' ⟨rfl, ⟨nd, rfl⟩⟩; refine ⟨_, rfl, ?_⟩))
      go_ret
      exact ⟨by first | rfl | (simp; done) | (simp [*]; done), by repeat (first | exact zau.refl _ | apply zau.step)⟩
     replace c23 := Bool.eq_false_iff.mpr c23
     subst c23
     replace H : ((zaq.f a0 7760 7785).bind fun t375 => (if t375 = true then (some 9) else (some 0))) = some r := by rw [if_neg (show ¬ (false = true) by decide)] at H; exact H
     replace H := Option.bind_eq_some_iff.mp H
     obtain ⟨t375, A240, H⟩ := H
     replace H : (if t375 = true then (some 9) else (some 0)) = some r := H
     have A24 := zab.mk A240; clear A240
     by_cases c25 : t375 = true
     ·subst c25
      replace H : (some 9) = some r := by rw [if_pos rfl] at H; exact H
      obtain rfl := Option.some.inj H
      go_wp2_with (first | ((with_reducible refine zae (f := 110) rfl ?_); refine zaB (some 24) rfl rfl Tryd.func110 (by kernel_rfl) rfl #[.int .i64 a0, .int .i64 1792, .int .i64 1810] rfl (by (try simp only [List.map_toArray, List.map_cons, List.map_nil]); first | done | rfl | (simp only [List.length_drop, List.length_take]; rfl)) ?_; (with_reducible refine (zaq.calls a0 1792 1810 false _ A12.out).mono ?_); rintro e w' ⟨rfl, ⟨nd, rfl⟩⟩; refine ⟨_, rfl, ?_⟩) | ((with_reducible refine zae (f := 110) rfl ?_); refine zaB (some 27) rfl rfl Tryd.func110 (by kernel_rfl) rfl #[.int .i64 a0, .int .i64 1824, .int .i64 1844] rfl (by (try simp only [List.map_toArray, List.map_cons, List.map_nil]); first | done | rfl | (simp only [List.length_drop, List.length_take]; rfl)) ?_; (with_reducible refine (zaq.calls a0 1824 1844 false _ A14.out).mono ?_); rintro e w' ⟨rfl, ⟨nd, rfl⟩⟩; refine ⟨_, rfl, ?_⟩) | ((with_reducible refine zae (f := 110) rfl ?_); refine zaB (some 30) rfl rfl Tryd.func110 (by kernel_rfl) rfl #[.int .i64 a0, .int .i64 1857, .int .i64 1883] rfl (by (try simp only [List.map_toArray, List.map_cons, List.map_nil]); first | done | rfl | (simp only [List.length_drop, List.length_take]; rfl)) ?_; (with_reducible refine (zaq.calls a0 1857 1883 false _ A16.out).mono ?_); rintro e w' ⟨rfl, ⟨nd, rfl⟩⟩; refine ⟨_, rfl, ?_⟩) | ((with_reducible refine zae (f := 197) rfl ?_); refine zaB (some 33) rfl rfl Tryd.func197 (by kernel_rfl) rfl #[.int .i64 a0] rfl (by (try simp only [List.map_toArray, List.map_cons, List.map_nil]); first | done | rfl | (simp only [List.length_drop, List.length_take]; rfl)) ?_; (with_reducible refine (impl_isOpen.calls a0 false _ A18.out).mono ?_); rintro e w' ⟨rfl, ⟨nd, rfl⟩⟩; refine ⟨_, rfl, ?_⟩) | ((with_reducible refine zae (f := 198) rfl ?_); refine zaB (some 36) rfl rfl Tryd.func198 (by kernel_rfl) rfl #[.int .i64 a0] rfl (by (try simp only [List.map_toArray, List.map_cons, List.map_nil]); first | done | rfl | (simp only [List.length_drop, List.length_take]; rfl)) ?_; (with_reducible refine (zbj.calls a0 false _ A20.out).mono ?_); rintro e w' ⟨rfl, ⟨nd, rfl⟩⟩; refine ⟨_, rfl, ?_⟩) | ((with_reducible refine zae (f := 168) rfl ?_); refine zaB (some 39) rfl rfl Tryd.func168 (by kernel_rfl) rfl #[.int .i64 a0] rfl (by (try simp only [List.map_toArray, List.map_cons, List.map_nil]); first | done | rfl | (simp only [List.length_drop, List.length_take]; rfl)) ?_; (with_reducible refine (za3.calls a0 false _ A22.out).mono ?_); rintro e w' ⟨rfl, ⟨nd, rfl⟩⟩; refine ⟨_, rfl, ?_⟩) | ((with_reducible refine zae (f := 110) rfl ?_); refine zaB (some 42) rfl rfl Tryd.func110 (by kernel_rfl) rfl #[.int .i64 a0, .int .i64 7760, .int .i64 7785] rfl (by (try simp only [List.map_toArray, List.map_cons, List.map_nil]); first | done | rfl | (simp only [List.length_drop, List.length_take]; rfl)) ?_; (with_reducible refine (zaq.calls a0 7760 7785 true _ A24.out).mono ?_); rintro e w' ⟨rfl, ⟨nd, rfl⟩⟩; refine ⟨_, rfl, ?_⟩))
      go_ret
      exact ⟨by first | rfl | (simp; done) | (simp [*]; done), by repeat (first | exact zau.refl _ | apply zau.step)⟩
     replace c25 := Bool.eq_false_iff.mpr c25
     subst c25
     replace H : (some 0) = some r := by rw [if_neg (show ¬ (false = true) by decide)] at H; exact H
     obtain rfl := Option.some.inj H
     go_wp2_with (first | ((with_reducible refine zae (f := 110) rfl ?_); refine zaB (some 24) rfl rfl Tryd.func110 (by kernel_rfl) rfl #[.int .i64 a0, .int .i64 1792, .int .i64 1810] rfl (by (try simp only [List.map_toArray, List.map_cons, List.map_nil]); first | done | rfl | (simp only [List.length_drop, List.length_take]; rfl)) ?_; (with_reducible refine (zaq.calls a0 1792 1810 false _ A12.out).mono ?_); rintro e w' ⟨rfl, ⟨nd, rfl⟩⟩; refine ⟨_, rfl, ?_⟩) | ((with_reducible refine zae (f := 110) rfl ?_); refine zaB (some 27) rfl rfl Tryd.func110 (by kernel_rfl) rfl #[.int .i64 a0, .int .i64 1824, .int .i64 1844] rfl (by (try simp only [List.map_toArray, List.map_cons, List.map_nil]); first | done | rfl | (simp only [List.length_drop, List.length_take]; rfl)) ?_; (with_reducible refine (zaq.calls a0 1824 1844 false _ A14.out).mono ?_); rintro e w' ⟨rfl, ⟨nd, rfl⟩⟩; refine ⟨_, rfl, ?_⟩) | ((with_reducible refine zae (f := 110) rfl ?_); refine zaB (some 30) rfl rfl Tryd.func110 (by kernel_rfl) rfl #[.int .i64 a0, .int .i64 1857, .int .i64 1883] rfl (by (try simp only [List.map_toArray, List.map_cons, List.map_nil]); first | done | rfl | (simp only [List.length_drop, List.length_take]; rfl)) ?_; (with_reducible refine (zaq.calls a0 1857 1883 false _ A16.out).mono ?_); rintro e w' ⟨rfl, ⟨nd, rfl⟩⟩; refine ⟨_, rfl, ?_⟩) | ((with_reducible refine zae (f := 197) rfl ?_); refine zaB (some 33) rfl rfl Tryd.func197 (by kernel_rfl) rfl #[.int .i64 a0] rfl (by (try simp only [List.map_toArray, List.map_cons, List.map_nil]); first | done | rfl | (simp only [List.length_drop, List.length_take]; rfl)) ?_; (with_reducible refine (impl_isOpen.calls a0 false _ A18.out).mono ?_); rintro e w' ⟨rfl, ⟨nd, rfl⟩⟩; refine ⟨_, rfl, ?_⟩) | ((with_reducible refine zae (f := 198) rfl ?_); refine zaB (some 36) rfl rfl Tryd.func198 (by kernel_rfl) rfl #[.int .i64 a0] rfl (by (try simp only [List.map_toArray, List.map_cons, List.map_nil]); first | done | rfl | (simp only [List.length_drop, List.length_take]; rfl)) ?_; (with_reducible refine (zbj.calls a0 false _ A20.out).mono ?_); rintro e w' ⟨rfl, ⟨nd, rfl⟩⟩; refine ⟨_, rfl, ?_⟩) | ((with_reducible refine zae (f := 168) rfl ?_); refine zaB (some 39) rfl rfl Tryd.func168 (by kernel_rfl) rfl #[.int .i64 a0] rfl (by (try simp only [List.map_toArray, List.map_cons, List.map_nil]); first | done | rfl | (simp only [List.length_drop, List.length_take]; rfl)) ?_; (with_reducible refine (za3.calls a0 false _ A22.out).mono ?_); rintro e w' ⟨rfl, ⟨nd, rfl⟩⟩; refine ⟨_, rfl, ?_⟩) | ((with_reducible refine zae (f := 110) rfl ?_); refine zaB (some 42) rfl rfl Tryd.func110 (by kernel_rfl) rfl #[.int .i64 a0, .int .i64 7760, .int .i64 7785] rfl (by (try simp only [List.map_toArray, List.map_cons, List.map_nil]); first | done | rfl | (simp only [List.length_drop, List.length_take]; rfl)) ?_; (with_reducible refine (zaq.calls a0 7760 7785 false _ A24.out).mono ?_); rintro e w' ⟨rfl, ⟨nd, rfl⟩⟩; refine ⟨_, rfl, ?_⟩))
     go_ret
     exact ⟨by first | rfl | (simp; done) | (simp [*]; done), by repeat (first | exact zau.refl _ | apply zau.step)⟩
end Go.Proofs.YtbppeepihlajoaaDoor.P
