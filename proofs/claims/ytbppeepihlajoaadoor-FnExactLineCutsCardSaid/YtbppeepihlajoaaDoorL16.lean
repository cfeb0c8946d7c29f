/- Written by a program of this session: plain Lean functions for Go functions, and for each the proof that the call comes to what the function says. -/
import Derived.Test.YtbppeepihlajoaaDoorL0
import Derived.Test.YtbppeepihlajoaaDoorL15
namespace Go.Proofs.YtbppeepihlajoaaDoor.P
open Go.RowKit Go.Proofs.YtbppeepihlajoaaDoorW.PrintWords Go.Proofs.YtbppeepihlajoaaDoorW.PrintLast Go.Proofs.YtbppeepihlajoaaDoorW.PrintMore
attribute [local go_sem] max2_int min2_int max_two min_two max_three min_three max_four min_four
set_option linter.unusedVariables false
set_option linter.unusedSimpArgs false
def impl_Script.f (k : Nat) (a0 : Int) : Option (Int) := (zah.f k a0).bind fun bt349 => (some bt349.2)
set_option maxHeartbeats 8000000 in
set_option maxRecDepth 100000 in
theorem impl_Script.calls (k : Nat) (a0 : Int) (r : Int) (w : World) (h : impl_Script.f k a0 = some r) :
  Calls Tryd.prog 111 #[.int .i64 a0] w fun e w' => e = .returned (.int .i64 r) ∧ zau w w' := by
 have H : ((zah.f k a0).bind fun bt349 => (some bt349.2)) = some r := h
 clear h; replace H := Option.bind_eq_some_iff.mp H
 obtain ⟨⟨t349, t350⟩, A20, H⟩ := H
 replace H : (some t350) = some r := H
 have A2 := zab.mk A20; clear A20; obtain rfl := Option.some.inj H
 go_enter Tryd.func111, Tryd.ntmps111
 go_wp2_with (first | ((with_reducible refine zae (f := 149) rfl ?_); refine zaB (some 7) rfl rfl Tryd.func149 (by kernel_rfl) rfl #[.int .i64 a0] rfl (by (try simp only [List.map_toArray, List.map_cons, List.map_nil]); first | done | rfl | (simp only [List.length_drop, List.length_take]; rfl)) ?_; (with_reducible refine (zah.calls k a0 t349 t350 _ A2.out).mono ?_); rintro e w' ⟨rfl, ⟨nd, rfl⟩⟩; refine ⟨_, rfl, ?_⟩))
 go_ret
 exact ⟨by first | rfl | (simp; done) | (simp [*]; done), by repeat (first | exact zau.refl _ | apply zau.step)⟩
end Go.Proofs.YtbppeepihlajoaaDoor.P
