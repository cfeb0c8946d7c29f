/- What the laws' own helpers for lists of texts come to. -/
import Derived.Test.YtgahimbccbghnaaDoorQ1
import Derived.Test.YtgahimbccbghnaaDoorQ5
import Derived.Test.YtgahimbccbghnaaDoorQ5
import Derived.Test.YtgahimbccbghnaaDoorXEv
namespace Go.Proofs.YtgahimbccbghnaaDoor.P
open Go.RowKit Go.Proofs.YtgahimbccbghnaaDoorW.PrintWords
set_option linter.unusedVariables false
theorem rdS (l : List ByteArray) (i : Nat) (h : i < l.length) : rdOf ByteArray.empty l (i : Int) = l[i] := by simp [rdOf, h]
theorem szS_l (l : List ByteArray) (hl : l.length ≤ 9223372036854775807) (hs : ∀ s ∈ l, s.size ≤ 9223372036854775807) : ∀ (d i : Nat), l.length - i = d → i ≤ l.length → ∀ a : Int, 0 ≤ a → a ≤ 1048576 →
    ∃ r, Ev (fun k => laws_szStringS.l0 k l a (i : Int)) r ∧ r ≤ a ∧ (0 ≤ r → ∀ s ∈ l.drop i, s.size ≤ 1048576) := by
  intro d
  induction d with
  | zero =>
    intro i hd hi a h0 h1
    refine ⟨a, Ev.step (fun k => by rw [laws_szStringS.l0]) (Ev.neg (by omega) (Ev.now _)), Int.le_refl _, fun _ s hm => ?_⟩
    rw [List.drop_eq_nil_of_le (by omega)] at hm
    cases hm
  | succ d ih =>
    intro i hd hi a h0 h1
    have hlt : i < l.length := by omega
    have hz := hs l[i] (List.getElem_mem hlt)
    have e3 : wrap64 (a - (l[i].size : Int)) = a - (l[i].size : Int) := w64 (by omega) (by omega)
    have e2 : wrap64 ((i : Int) + 1) = ((i + 1 : Nat) : Int) := by rw [w64 (by omega) (by omega)]; omega
    by_cases hn : a - (l[i].size : Int) < 0
    · refine ⟨-1, Ev.step (fun k => by rw [laws_szStringS.l0]) (Ev.pos (by omega) (Ev.pos (by omega) ?_)), by omega, fun h => by omega⟩
      rw [rdS l i hlt, e3]
      exact Ev.pos hn (Ev.now _)
    · obtain ⟨r, hr, hra, hrs⟩ := ih (i + 1) (by omega) (by omega) (a - (l[i].size : Int)) (by omega) (by omega)
      refine ⟨r, Ev.step (fun k => by rw [laws_szStringS.l0]) (Ev.pos (by omega) (Ev.pos (by omega) ?_)), by omega, fun h s hm => ?_⟩
      · rw [rdS l i hlt, e3, e2]
        exact Ev.neg hn hr
      · rw [List.drop_eq_getElem_cons hlt] at hm
        rcases List.mem_cons.1 hm with rfl | h2
        · omega
        · exact hrs h s h2
theorem szS_f (l : List ByteArray) (hl : l.length ≤ 9223372036854775807) (hs : ∀ s ∈ l, s.size ≤ 9223372036854775807) (a : Int) (h0 : 0 ≤ a) (h1 : a ≤ 1048576) :
    ∃ r, Ev (fun k => laws_szStringS.f k l a) r ∧ r ≤ a ∧ (0 ≤ r → l.length ≤ 1048576 ∧ ∀ s ∈ l, s.size ≤ 1048576) := by
  have e3 : wrap64 (a - (l.length : Int)) = a - (l.length : Int) := w64 (by omega) (by omega)
  by_cases hn : a - (l.length : Int) < 0
  · refine ⟨-1, ?_, by omega, fun h => by omega⟩
    unfold laws_szStringS.f
    rw [e3]
    exact Ev.pos hn (Ev.now _)
  · obtain ⟨r, hr, hra, hrs⟩ := szS_l l hl hs _ 0 rfl (by omega) (a - (l.length : Int)) (by omega) (by omega)
    refine ⟨r, ?_, by omega, fun h => ⟨by omega, fun s hm => hrs h s (by simpa using hm)⟩⟩
    unfold laws_szStringS.f
    rw [e3]
    exact Ev.neg hn hr
theorem copy_step {α : Type} (l : List α) (d : α) (i : Nat) (h : i < l.length) : ((l.take i ++ List.replicate (l.length - i) d).set i l[i]) = l.take (i + 1) ++ List.replicate (l.length - (i + 1)) d := by
  apply List.ext_getElem
  · simp; omega
  · intro j h1 h2
    simp at h1
    rw [List.getElem_set]
    by_cases e : i = j
    · subst e
      rw [if_pos rfl, List.getElem_append_left (by simp; omega)]
      simp
    · rw [if_neg e]
      by_cases c : j < i
      · rw [List.getElem_append_left (by simp; omega), List.getElem_append_left (by simp; omega)]
        simp
      · rw [List.getElem_append_right (by simp; omega), List.getElem_append_right (by simp; omega)]
        simp
theorem toS_l (l : List ByteArray) (hl : l.length ≤ 1099511627776) : ∀ (d i : Nat), l.length - i = d → i ≤ l.length →
    Ev (fun k => laws_toStringS.l0 k l (l.take i ++ List.replicate (l.length - i) (⟨#[]⟩ : ByteArray)) (i : Int)) l := by
  intro d
  induction d with
  | zero =>
    intro i hd hi
    obtain rfl : i = l.length := by omega
    refine Ev.step (fun k => by rw [laws_toStringS.l0]) (Ev.neg (by omega) ((Ev.now _).to ?_))
    simp
  | succ d ih =>
    intro i hd hi
    have hlt : i < l.length := by omega
    have e2 := w_succ i (by omega)
    refine Ev.step (fun k => by rw [laws_toStringS.l0]) (Ev.pos (by omega) (Ev.pos (by omega) (Ev.pos (by simp; omega) ?_)))
    rw [rdS l i hlt, e2, Int.toNat_natCast, copy_step l _ i hlt]
    exact ih (i + 1) (by omega) (by omega)
theorem toS_f (l : List ByteArray) (hl : l.length ≤ 1099511627776) : Ev (fun k => laws_toStringS.f k l) l := by
  have h := toS_l l hl _ 0 rfl (by omega)
  refine Ev.pos (by omega) (Ev.pos (by omega) ?_)
  rw [Int.toNat_natCast]
  simpa using h
theorem eqS_l (l : List ByteArray) (hl : l.length ≤ 1099511627776) : ∀ (d i : Nat), l.length - i = d → i ≤ l.length →
    Ev (fun k => laws_eqStringS.l0 k l l (i : Int)) true := by
  intro d
  induction d with
  | zero =>
    intro i hd hi
    exact Ev.step (fun k => by rw [laws_eqStringS.l0]) (Ev.neg (by omega) (Ev.now _))
  | succ d ih =>
    intro i hd hi
    have e2 := w_succ i (by omega)
    refine Ev.step (fun k => by rw [laws_eqStringS.l0]) (Ev.pos (by omega) (Ev.pos (by omega) (Ev.pos (by omega) (Ev.pos rfl ?_))))
    rw [e2]
    exact ih (i + 1) (by omega) (by omega)
theorem eqS_f (l : List ByteArray) (hl : l.length ≤ 1099511627776) : Ev (fun k => laws_eqStringS.f k l l) true :=
  Ev.pos rfl (eqS_l l hl _ 0 rfl (by omega))
end Go.Proofs.YtgahimbccbghnaaDoor.P
