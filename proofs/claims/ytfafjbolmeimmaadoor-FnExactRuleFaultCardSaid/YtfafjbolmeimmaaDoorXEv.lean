/- Small words on rounds: what holds with enough of them. -/
import Derived.Test.YtfafjbolmeimmaaDoorU0
namespace Go.Proofs.YtfafjbolmeimmaaDoorW.PrintWords
open Go.RowKit
set_option linter.unusedVariables false
theorem Ev.pos {α : Type} {c : Prop} [Decidable c] {a b : Nat → Option α} {r : α} (h : c) (k : Ev a r) : Ev (fun n => if c then a n else b n) r :=
  Ev.congr (fun _ => if_pos h) k
theorem Ev.neg {α : Type} {c : Prop} [Decidable c] {a b : Nat → Option α} {r : α} (h : ¬ c) (k : Ev b r) : Ev (fun n => if c then a n else b n) r :=
  Ev.congr (fun _ => if_neg h) k
theorem Ev.done {α : Type} {g : Option α} {r : α} (h : g = some r) : Ev (fun _ => g) r := ⟨0, fun _ _ => h⟩
theorem Ev.inj {α : Type} {g : Nat → Option α} {r r' : α} (h : Ev g r) (h' : Ev g r') : r = r' := by
  obtain ⟨K, h⟩ := h
  obtain ⟨K', h'⟩ := h'
  have e1 := h (K + K') (by omega)
  have e2 := h' (K + K') (by omega)
  rw [e1] at e2
  exact Option.some.inj e2
theorem Ev.eq_of {α : Type} {g : Nat → Option α} (hg : ∀ k, LeO (g k) (g (k + 1))) {k : Nat} {r r' : α} (h : g k = some r) (h' : Ev g r') : r = r' := (Ev.of hg h).inj h'
theorem Ev.to {α : Type} {g : Nat → Option α} {r r' : α} (h : Ev g r) (e : r = r') : Ev g r' := e ▸ h
theorem w64 {x : Int} (h0 : -9223372036854775808 ≤ x) (h1 : x ≤ 9223372036854775807) : wrap64 x = x := by unfold wrap64; omega
theorem w_succ (n : Nat) (h : n ≤ 1152921504606846976) : wrap64 ((n : Int) + 1) = ((n + 1 : Nat) : Int) := by
  rw [w64 (by omega) (by omega)]
  omega
theorem w_add (n m : Nat) (h : n + m ≤ 1152921504606846976) : wrap64 ((n : Int) + (m : Int)) = ((n + m : Nat) : Int) := by
  rw [w64 (by omega) (by omega)]
  omega
end Go.Proofs.YtfafjbolmeimmaaDoorW.PrintWords
