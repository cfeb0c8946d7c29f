/- Plain lists: a rising list of numbers, and what a sort and a compacting leave. -/
import Derived.Lib.SlicesCompact
namespace Go.Proofs.YtgahimbccbghnaaDoor.P
open Go.Lib
/-- Puts a number into a rising list. -/
def insS : List Int → Int → List Int
  | [], n => [n]
  | a :: t, n => if a < n then a :: insS t n else if a = n then a :: t else n :: a :: t
theorem insS_mem (n : Int) : ∀ (l : List Int) (x : Int), x ∈ insS l n ↔ x = n ∨ x ∈ l
  | [], x => by simp [insS]
  | a :: t, x => by
    unfold insS
    by_cases h : a < n
    · rw [if_pos h, List.mem_cons, insS_mem n t x, List.mem_cons]
      constructor
      · rintro (h | h | h)
        · exact .inr (.inl h)
        · exact .inl h
        · exact .inr (.inr h)
      · rintro (h | h | h)
        · exact .inr (.inl h)
        · exact .inl h
        · exact .inr (.inr h)
    · rw [if_neg h]
      by_cases h2 : a = n
      · rw [if_pos h2, List.mem_cons, h2]
        constructor
        · exact fun h => h.elim .inl fun h => .inr (.inr h)
        · rintro (h | h | h)
          · exact .inl h
          · exact .inl h
          · exact .inr h
      · rw [if_neg h2, List.mem_cons]
theorem insS_rise (n : Int) : ∀ (l : List Int), List.Pairwise (· < ·) l → List.Pairwise (· < ·) (insS l n)
  | [], _ => by simp [insS]
  | a :: t, h => by
    have h' := List.pairwise_cons.1 h
    unfold insS
    by_cases h1 : a < n
    · rw [if_pos h1]
      refine List.pairwise_cons.2 ⟨fun b hb => ?_, insS_rise n t h'.2⟩
      rcases (insS_mem n t b).1 hb with rfl | hb
      · exact h1
      · exact h'.1 b hb
    · rw [if_neg h1]
      by_cases h2 : a = n
      · rw [if_pos h2]; exact h
      · rw [if_neg h2]
        refine List.pairwise_cons.2 ⟨fun b hb => ?_, h⟩
        rcases List.mem_cons.1 hb with rfl | hb
        · omega
        · have := h'.1 b hb; omega
theorem insS_len (n : Int) : ∀ (l : List Int), (insS l n).length ≤ l.length + 1
  | [] => by simp [insS]
  | a :: t => by
    unfold insS
    have := insS_len n t
    by_cases h1 : a < n
    · rw [if_pos h1]; simp; omega
    · rw [if_neg h1]
      by_cases h2 : a = n
      · rw [if_pos h2]; simp
      · rw [if_neg h2]; simp
theorem foldS_mem : ∀ (y l : List Int) (x : Int), x ∈ y.foldl insS l ↔ x ∈ y ∨ x ∈ l
  | [], l, x => by simp
  | a :: t, l, x => by
    rw [List.foldl_cons, foldS_mem t (insS l a) x, insS_mem, List.mem_cons]
    constructor
    · rintro (h | h | h)
      · exact .inl (.inr h)
      · exact .inl (.inl h)
      · exact .inr h
    · rintro ((h | h) | h)
      · exact .inr (.inl h)
      · exact .inl h
      · exact .inr (.inr h)
theorem foldS_rise : ∀ (y l : List Int), List.Pairwise (· < ·) l → List.Pairwise (· < ·) (y.foldl insS l)
  | [], _, h => h
  | a :: t, l, h => foldS_rise t (insS l a) (insS_rise a l h)
theorem foldS_len : ∀ (y l : List Int), (y.foldl insS l).length ≤ l.length + y.length
  | [], _ => by simp
  | a :: t, l => by
    have := foldS_len t (insS l a)
    have := insS_len a l
    simp only [List.foldl_cons, List.length_cons]
    omega
/-- Two rising lists of the same elements are one. -/
theorem rise_eq : ∀ (a b : List Int), List.Pairwise (· < ·) a → List.Pairwise (· < ·) b → (∀ x, x ∈ a ↔ x ∈ b) → a = b
  | [], [], _, _, _ => rfl
  | [], b :: t, _, _, h => by have := (h b).2 (List.mem_cons_self ..); simp at this
  | a :: t, [], _, _, h => by have := (h a).1 (List.mem_cons_self ..); simp at this
  | a :: s, b :: t, ha, hb, h => by
    have ha' := List.pairwise_cons.1 ha
    have hb' := List.pairwise_cons.1 hb
    have e : a = b := by
      rcases List.mem_cons.1 ((h a).1 (List.mem_cons_self ..)) with e | e
      · exact e
      · rcases List.mem_cons.1 ((h b).2 (List.mem_cons_self ..)) with e' | e'
        · exact e'.symm
        · have := ha'.1 b e'
          have := hb'.1 a e
          omega
    subst e
    rw [rise_eq s t ha'.2 hb'.2 fun x => ?_]
    constructor
    · intro hx
      rcases List.mem_cons.1 ((h x).1 (List.mem_cons_of_mem _ hx)) with e | e
      · have := ha'.1 x hx; omega
      · exact e
    · intro hx
      rcases List.mem_cons.1 ((h x).2 (List.mem_cons_of_mem _ hx)) with e | e
      · have := hb'.1 x hx; omega
      · exact e
theorem upTo_congr {d d' : Array Int} : ∀ (m : Nat), (∀ j, j < m → d[j]! = d'[j]!) → compactUpTo d m = compactUpTo d' m
  | 0, _ => by simp [compactUpTo]
  | m + 1, h => by
    rw [compactUpTo_succ, compactUpTo_succ, upTo_congr m fun j hj => h j (by omega)]
    have e1 := h m (by omega)
    have e2 : keeps d m = keeps d' m := by
      unfold keeps
      by_cases h0 : m = 0
      · simp [h0]
      · rw [h m (by omega), h (m - 1) (by omega)]
    rw [e1, e2]
/-- What a compacting leaves of a list that does not fall. -/
theorem upTo_rise (d : Array Int) : ∀ (m : Nat), m ≤ d.size → (∀ i j, i ≤ j → j < m → d[i]! ≤ d[j]!) →
    List.Pairwise (· < ·) (compactUpTo d m) ∧ ∀ x, x ∈ compactUpTo d m ↔ ∃ j, j < m ∧ d[j]! = x
  | 0, _, _ => by simp [compactUpTo]
  | m + 1, hm, h => by
    obtain ⟨h1, h2⟩ := upTo_rise d m (by omega) fun i j hij hj => h i j hij (by omega)
    rw [compactUpTo_succ]
    by_cases hk : keeps d m = true
    · rw [if_pos hk]
      refine ⟨List.pairwise_append.2 ⟨h1, by simp, fun a ha b hb => ?_⟩, fun x => ?_⟩
      · rw [List.mem_singleton] at hb
        subst hb
        obtain ⟨j, hj, rfl⟩ := (h2 a).1 ha
        have hne : d[m]! ≠ d[m - 1]! := by
          have := of_decide_eq_true hk
          rcases this with h | h
          · omega
          · exact h
        have a1 := h j (m - 1) (by omega) (by omega)
        have a2 := h (m - 1) m (by omega) (by omega)
        omega
      · rw [List.mem_append, h2 x, List.mem_singleton]
        constructor
        · rintro (⟨j, hj, e⟩ | e)
          · exact ⟨j, by omega, e⟩
          · exact ⟨m, by omega, e.symm⟩
        · rintro ⟨j, hj, e⟩
          by_cases hjm : j = m
          · subst hjm; exact .inr e.symm
          · exact .inl ⟨j, by omega, e⟩
    · rw [if_neg hk, List.append_nil]
      refine ⟨h1, fun x => ?_⟩
      rw [h2 x]
      have hne : ¬ (m = 0 ∨ d[m]! ≠ d[m - 1]!) := fun h => hk (decide_eq_true h)
      constructor
      · rintro ⟨j, hj, e⟩
        exact ⟨j, by omega, e⟩
      · rintro ⟨j, hj, e⟩
        by_cases hjm : j = m
        · subst hjm
          refine ⟨j - 1, by omega, ?_⟩
          rw [← e]
          exact (Decidable.not_not.1 fun hh => hne (.inr hh)).symm
        · exact ⟨j, by omega, e⟩
theorem compact_sort (y : List Int) : compact (y.mergeSort fun x y => decide (x ≤ y)) = y.foldl insS [] := by
  have hp := List.pairwise_mergeSort (le := fun x y : Int => decide (x ≤ y)) (fun a b c h1 h2 => decide_eq_true (by have := of_decide_eq_true h1; have := of_decide_eq_true h2; omega)) (fun a b => by rw [Bool.or_eq_true, decide_eq_true_iff, decide_eq_true_iff]; omega) y
  have hm : ∀ x, x ∈ (y.mergeSort fun x y => decide (x ≤ y)) ↔ x ∈ y := fun x => List.mem_mergeSort
  generalize (y.mergeSort fun x y => decide (x ≤ y)) = D at *
  have hg : ∀ j, (hj : j < D.length) → (D.toArray)[j]! = D[j] := fun j hj => by simp [hj]
  obtain ⟨h1, h2⟩ := upTo_rise D.toArray D.length (by simp) (fun i j hij hj => by
    rw [hg i (by omega), hg j hj]
    by_cases e : i = j
    · subst e; omega
    · have := List.pairwise_iff_getElem.1 hp i j (by omega) hj (by omega)
      exact of_decide_eq_true this)
  refine rise_eq _ _ h1 (foldS_rise _ _ (by simp)) fun x => ?_
  rw [show compact D = compactUpTo D.toArray D.length from rfl, h2 x, foldS_mem]
  constructor
  · rintro ⟨j, hj, e⟩
    rw [hg j hj] at e
    exact .inl ((hm x).1 (e ▸ List.getElem_mem hj))
  · rintro (h | h)
    · obtain ⟨j, hj, e⟩ := List.getElem_of_mem ((hm x).2 h)
      exact ⟨j, hj, by rw [hg j hj]; exact e⟩
    · simp at h
end Go.Proofs.YtgahimbccbghnaaDoor.P
