/- Written by a program of this session: plain Lean functions for Go functions, and for each the proof that the call comes to what the function says. -/
import Derived.Test.YtbppeepihlajoaaDoorL0
import Derived.Test.YtbppeepihlajoaaDoorL13
import Derived.Test.YtbppeepihlajoaaDoorL15
namespace Go.Proofs.YtbppeepihlajoaaDoor.P
open Go.RowKit Go.Proofs.YtbppeepihlajoaaDoorW.PrintWords Go.Proofs.YtbppeepihlajoaaDoorW.PrintLast Go.Proofs.YtbppeepihlajoaaDoorW.PrintMore
attribute [local go_sem] max2_int min2_int max_two min_two max_three min_three max_four min_four
set_option linter.unusedVariables false
set_option linter.unusedSimpArgs false
def impl_Category.f (k : Nat) (a0 : Int) : Option (Int) := (zah.f k a0).bind fun bt351 => (some bt351.1)
set_option maxHeartbeats 8000000 in
set_option maxRecDepth 100000 in
theorem impl_Category.calls (k : Nat) (a0 : Int) (r : Int) (w : World) (h : impl_Category.f k a0 = some r) :
  Calls Tryd.prog 150 #[.int .i64 a0] w fun e w' => e = .returned (.int .i64 r) ∧ zau w w' := by
 have H : ((zah.f k a0).bind fun bt351 => (some bt351.1)) = some r := h
 clear h; replace H := Option.bind_eq_some_iff.mp H
 obtain ⟨⟨t351, t352⟩, A20, H⟩ := H
 replace H : (some t351) = some r := H
 have A2 := zab.mk A20; clear A20; obtain rfl := Option.some.inj H
 go_enter Tryd.func150, Tryd.ntmps150
 go_wp2_with (first | ((with_reducible refine zae (f := 149) rfl ?_); refine zaB (some 7) rfl rfl Tryd.func149 (by kernel_rfl) rfl #[.int .i64 a0] rfl (by (try simp only [List.map_toArray, List.map_cons, List.map_nil]); first | done | rfl | (simp only [List.length_drop, List.length_take]; rfl)) ?_; (with_reducible refine (zah.calls k a0 t351 t352 _ A2.out).mono ?_); rintro e w' ⟨rfl, ⟨nd, rfl⟩⟩; refine ⟨_, rfl, ?_⟩))
 go_ret
 exact ⟨by first | rfl | (simp; done) | (simp [*]; done), by repeat (first | exact zau.refl _ | apply zau.step)⟩
def impl_isDigit.f (k : Nat) (a0 : Int) : Option (Bool) := (impl_Category.f k a0).bind fun t353 => (some (t353 == 8))
set_option maxHeartbeats 8000000 in
set_option maxRecDepth 100000 in
theorem impl_isDigit.calls (k : Nat) (a0 : Int) (r : Bool) (w : World) (h : impl_isDigit.f k a0 = some r) :
  Calls Tryd.prog 167 #[.int .i64 a0] w fun e w' => e = .returned (.bool r) ∧ zau w w' := by
 have H : ((impl_Category.f k a0).bind fun t353 => (some (t353 == 8))) = some r := h
 clear h; replace H := Option.bind_eq_some_iff.mp H
 obtain ⟨t353, A20, H⟩ := H
 replace H : (some (t353 == 8)) = some r := H
 have A2 := zab.mk A20; clear A20; obtain rfl := Option.some.inj H
 go_enter Tryd.func167, Tryd.ntmps167
 go_wp2_with (first | ((with_reducible refine zae (f := 150) rfl ?_); refine zaB (some 4) rfl rfl Tryd.func150 (by kernel_rfl) rfl #[.int .i64 a0] rfl (by (try simp only [List.map_toArray, List.map_cons, List.map_nil]); first | done | rfl | (simp only [List.length_drop, List.length_take]; rfl)) ?_; (with_reducible refine (impl_Category.calls k a0 t353 _ A2.out).mono ?_); rintro e w' ⟨rfl, ⟨nd, rfl⟩⟩; refine ⟨_, rfl, ?_⟩))
 go_ret
 exact ⟨by first | rfl | (simp; done) | (simp [*]; done), by repeat (first | exact zau.refl _ | apply zau.step)⟩
def za3.f (a0 : Int) : Option (Bool) := (zaq.f a0 7680 7743).bind fun t354 => (some t354)
set_option maxHeartbeats 8000000 in
set_option maxRecDepth 100000 in
theorem za3.calls (a0 : Int) (r : Bool) (w : World) (h : za3.f a0 = some r) :
  Calls Tryd.prog 168 #[.int .i64 a0] w fun e w' => e = .returned (.bool r) ∧ zau w w' := by
 have H : ((zaq.f a0 7680 7743).bind fun t354 => (some t354)) = some r := h
 clear h; replace H := Option.bind_eq_some_iff.mp H
 obtain ⟨t354, A20, H⟩ := H
 replace H : (some t354) = some r := H
 have A2 := zab.mk A20; clear A20; obtain rfl := Option.some.inj H
 go_enter Tryd.func168, Tryd.ntmps168
 go_wp2_with (first | ((with_reducible refine zae (f := 110) rfl ?_); refine zaB (some 4) rfl rfl Tryd.func110 (by kernel_rfl) rfl #[.int .i64 a0, .int .i64 7680, .int .i64 7743] rfl (by (try simp only [List.map_toArray, List.map_cons, List.map_nil]); first | done | rfl | (simp only [List.length_drop, List.length_take]; rfl)) ?_; (with_reducible refine (zaq.calls a0 7680 7743 t354 _ A2.out).mono ?_); rintro e w' ⟨rfl, ⟨nd, rfl⟩⟩; refine ⟨_, rfl, ?_⟩))
 go_ret
 exact ⟨by first | rfl | (simp; done) | (simp [*]; done), by repeat (first | exact zau.refl _ | apply zau.step)⟩
end Go.Proofs.YtbppeepihlajoaaDoor.P
