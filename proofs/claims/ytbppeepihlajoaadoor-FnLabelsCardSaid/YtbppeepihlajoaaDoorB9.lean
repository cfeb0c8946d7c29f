/- Written by a program of this session: plain Lean functions for Go functions, and for each the proof that the call comes to what the function says. -/
import Derived.Test.YtbppeepihlajoaaDoorB0
import Derived.Test.YtbppeepihlajoaaDoorB7
namespace Go.Proofs.YtbppeepihlajoaaDoor.P
open Go.RowKit Go.Proofs.YtbppeepihlajoaaDoorW.PrintWords Go.Proofs.YtbppeepihlajoaaDoorW.PrintLast Go.Proofs.YtbppeepihlajoaaDoorW.PrintMore
attribute [local go_sem] max2_int min2_int max_two min_two max_three min_three max_four min_four
set_option linter.unusedVariables false
set_option linter.unusedSimpArgs false
def impl_short.f (a0 : ByteArray) : Option (ByteArray) := (zaV.f a0).bind fun t492 => (if t492 = true then (some (⟨#[]⟩ : ByteArray)) else (some a0))
set_option maxHeartbeats 8000000 in
set_option maxRecDepth 100000 in
theorem impl_short.calls (a0 : ByteArray) (r : ByteArray) (w : World) (h : impl_short.f a0 = some r) :
  Calls Tryd.prog 50 #[.string a0] w fun e w' => e = .returned (.string r) ∧ zaQ w w' := by
 have H : ((zaV.f a0).bind fun t492 => (if t492 = true then (some (⟨#[]⟩ : ByteArray)) else (some a0))) = some r := h
 clear h; replace H := Option.bind_eq_some_iff.mp H
 obtain ⟨t492, A20, H⟩ := H
 replace H : (if t492 = true then (some (⟨#[]⟩ : ByteArray)) else (some a0)) = some r := H
 have A2 := zac.mk A20; clear A20
 by_cases c3 : t492 = true
 ·subst c3
  replace H : (some (⟨#[]⟩ : ByteArray)) = some r := by rw [if_pos rfl] at H; exact H
  obtain rfl := Option.some.inj H
  go_enter Tryd.func50, Tryd.ntmps50
  go_wp2_with (first | ((with_reducible refine zak (f := 48) rfl ?_); refine zaG (some 4) rfl rfl Tryd.func48 (by kernel_rfl) rfl #[.string a0] rfl (by (try simp only [List.map_toArray, List.map_cons, List.map_nil]); first | done | rfl | (simp only [List.length_drop, List.length_take]; rfl)) ?_; (with_reducible refine (zaV.calls a0 true _ A2.out).mono ?_); rintro e w' ⟨rfl, ⟨nd, rfl⟩⟩; refine ⟨_, rfl, ?_⟩))
  go_ret
  exact ⟨by first | rfl | (simp; done) | (simp [*]; done), by repeat (first | exact zaQ.refl _ | apply zaQ.step)⟩
 replace c3 := Bool.eq_false_iff.mpr c3
 subst c3
 replace H : (some a0) = some r := by rw [if_neg (show ¬ (false = true) by decide)] at H; exact H
 obtain rfl := Option.some.inj H
 go_enter Tryd.func50, Tryd.ntmps50
 go_wp2_with (first | ((with_reducible refine zak (f := 48) rfl ?_); refine zaG (some 4) rfl rfl Tryd.func48 (by kernel_rfl) rfl #[.string a0] rfl (by (try simp only [List.map_toArray, List.map_cons, List.map_nil]); first | done | rfl | (simp only [List.length_drop, List.length_take]; rfl)) ?_; (with_reducible refine (zaV.calls a0 false _ A2.out).mono ?_); rintro e w' ⟨rfl, ⟨nd, rfl⟩⟩; refine ⟨_, rfl, ?_⟩))
 go_ret
 exact ⟨by first | rfl | (simp; done) | (simp [*]; done), by repeat (first | exact zaQ.refl _ | apply zaQ.step)⟩
def zaK (w0 W : World) (g : Nat) (f0 : Int) : Prop := W.heap[g]? = some (.cells #[.int .i64 f0] 113 (0, 0)) ∧ w0.heap.size ≤ g
theorem zaK.grown {w0 W : World} {g : Nat} {f0 : Int} {W1 : World} {row : Option Nat} (h : zaK w0 W g f0) (hw : W.grownBy W1 row) (hne : some g ≠ row) : zaK w0 W1 g f0 := by
 obtain ⟨hb, hg⟩ := h
 exact ⟨blk_grown hb hw hne, hg⟩
theorem zaK.below {w0 W : World} {g : Nat} {f0 : Int} {W1 : World} (h : zaK w0 W g f0) (hw : Below W.heap.size W W1) : zaK w0 W1 g f0 := h.grown (grown_of_below hw none) (by simp)
theorem zaK.alloc {w0 W : World} {g : Nat} {f0 : Int} (h : zaK w0 W g f0) (o : Obj) : zaK w0 (W.alloc o) g f0 := h.below (zae (Below.refl _ _) o)
theorem zaK.drewN {w0 W : World} {g : Nat} {f0 : Int} (h : zaK w0 W g f0) (m : Nat) : zaK w0 (W.drewN m) g f0 := h
theorem zaK.drew {w0 W : World} {g : Nat} {f0 : Int} (h : zaK w0 W g f0) : zaK w0 W.drew g f0 := h
theorem zaK.apart {w0 W : World} {g : Nat} {f0 : Int} {α : Type} {d : Kd α} {e : Nat} {base : Nat} {ok : Nat → Prop} {v : Value} {xs : List α} (h : zaK w0 W g f0) (ho : d.R e W base ok v xs) (ht : ∀ q, q ∈ e :: d.E → q ≠ 113) : d.R e W base (fun k => ok k ∧ k ≠ g) v xs := by
 obtain ⟨hb, hg⟩ := h
 exact Kd.R_types ho hb ht
theorem zaK.own_ne {w0 W : World} {g : Nat} {f0 : Int} {α : Type} {d : Kd α} {e : Nat} {base : Nat} {ok : Nat → Prop} {v : Value} {xs : List α} (h : zaK w0 W g f0) (ho : d.R e W base ok v xs) (ht : e ≠ 113) : some g ≠ v.ownBlock := by
 obtain ⟨hb, hg⟩ := h
 exact Kd.R_ne ho hb ht
theorem zaK.ge {w0 W : World} {g : Nat} {f0 : Int} (h : zaK w0 W g f0) : w0.heap.size ≤ g := by
 obtain ⟨hb, hg⟩ := h
 exact hg
theorem cellS113_0 {W : World} {g : Nat} {f0 : Int} (h : W.heap[g]? = some (.cells #[.int .i64 f0] 113 (0, 0))) : W.cell? ⟨g, 0, none⟩ = some (.int .i64 f0) := (zaO h 0).trans rfl
theorem zaK.set_0 {w0 W : World} {g : Nat} {f0 : Int} (h : zaK w0 W g f0) (x : Int) : zaK w0 (W.setCell ⟨g, 0, none⟩ (.int .i64 x)) g x := by
 obtain ⟨hb, hg⟩ := h
 exact ⟨by simpa using blk_set hb 0 (.int .i64 x), hg⟩
theorem zaK.new (w0 W : World) (f0 : Int) (hB : Below w0.heap.size w0 W) : zaK w0 (W.alloc (.cells #[.int .i64 f0] 113)) W.heap.size f0 := ⟨by simpa using heap_alloc_new W _, hB.size⟩
def impl_bias_t.f (s0_0 : Int) (a1 : Int) : Option (Int × Int) := some (mn (mx (wrap64 (a1 - s0_0)) 1) 26, s0_0)
set_option maxHeartbeats 8000000 in
set_option maxRecDepth 100000 in
theorem impl_bias_t.calls (g : Nat) (s0_0 : Int) (a1 : Int) (r1 : Int) (r2 : Int) (w0 w : World) (hI : zaK w0 w g s0_0) (hB : Below w0.heap.size w0 w) (h : impl_bias_t.f s0_0 a1 = some (r1, r2)) :
  Calls Tryd.prog 97 #[.pointer (some ⟨g, 0, none⟩), .int .i64 a1] w fun e w' => e = .returned (.int .i64 r1) ∧ zaK w0 w' g r2 ∧ Below w0.heap.size w0 w' ∧ KeepBut w w' g none := by
 have HI0 := zac.mk hI
 have HK := zac.mk (KeepBut.refl w g none)
 have HL := zac.mk hB.size; clear hI; have HW0 := zac.mk hB.size; have HB := zac.mk hB; clear hB
 have H : (some (mn (mx (wrap64 (a1 - s0_0)) 1) 26, s0_0)) = some (r1, r2) := h
 clear h
 obtain ⟨ji3, hji3⟩ : ∃ j_ : Int, (mx (wrap64 (a1 - s0_0)) 1) = j_ := ⟨_, rfl⟩
 replace H : (some (mn (ji3) 26, s0_0)) = some (r1, r2) := by first | (rw [hji3] at H; exact H) | (simp only [hji3] at H ⊢; exact H)
 (try (have hji3l : 1 ≤ ji3 := by (rw [← hji3]; unfold mx; (repeat' split) <;> omega)))
 (try (have hji3m : 0 ≤ ji3 := by omega))
 have hji3_ : (if (wrap64 (a1 - s0_0)) < 1 then 1 else (wrap64 (a1 - s0_0))) = ji3 := hji3
 obtain ⟨ji4, hji4⟩ : ∃ j_ : Int, (mn (ji3) 26) = j_ := ⟨_, rfl⟩
 replace H : (some (ji4, s0_0)) = some (r1, r2) := by first | (rw [hji4] at H; exact H) | (simp only [hji4] at H ⊢; exact H)
 have hji4_ : (if 26 < (ji3) then 26 else (ji3)) = ji4 := hji4
 simp only [Option.some.injEq, Prod.mk.injEq] at H
 obtain ⟨rfl, rfl⟩ := H
 obtain ⟨HGz5, hgz5⟩ := HI0.out
 have hcz5_0 := cellS113_0 HGz5
 have hfz5_0 := zaA HGz5 0
 clear HGz5 hgz5
 go_enter Tryd.func97, Tryd.ntmps97
 go_wp2
 go_ret
 exact ⟨by first | rfl | (simp [zan, zam] <;> rfl) | (simp only [← hji3, ← hji4]; first | rfl | (simp [zan, zam] <;> rfl)) | (simp [*, zan, zam] <;> rfl), by repeat (first | (with_reducible first | exact HI0.out | apply zaK.alloc | apply zaK.drewN | apply zaK.drew | apply zaK.set_0) | exact HI0.out), by repeat (first | (with_reducible first | exact HB.out | apply zae | apply zaa | apply zad | refine zai ?_ (zaK.ge HI0.out)) | exact HB.out), by repeat (first | (with_reducible first | exact HK.out | apply KeepBut.set_ | apply zah | apply zaj | apply keep_alloc) | exact HK.out)⟩
end Go.Proofs.YtbppeepihlajoaaDoor.P
