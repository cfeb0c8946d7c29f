/- CostsFault: the program's answer is the reference's, at every costs that the law lets in. -/
import Derived.Test.YtgahimbccbghnaaDoorQ6
import Derived.Test.YtgahimbccbghnaaDoorQ4
import Derived.Test.YtgahimbccbghnaaDoorXCostsFault
import Derived.Test.YtgahimbccbghnaaDoorXTx
import Derived.Test.YtgahimbccbghnaaDoorXHp
namespace Go.Proofs.YtgahimbccbghnaaDoor.P
open Go.RowKit Go.Proofs.YtgahimbccbghnaaDoorW.PrintWords
set_option linter.unusedVariables false
def kinsV : List Int → List ByteArray → Int
  | _, [] => 0
  | seen, s :: r => if goodFrom s 0 = true ∧ 2 ≤ (pts s).length ∧ (pts s).length ≤ 10 then (match cfDup seen (pts s) with | none => 1 | some seen' => kinsV seen' r) else 1
theorem well_f (s : ByteArray) (hs : s.size ≤ 1099511627776) : impl_well.f s = some (goodFrom s 0) := by
  unfold impl_well.f utf8_ValidString.f
  rw [if_pos (by omega), valid_eq]
  rfl
theorem cf_impl : ∀ (l : List ByteArray) (seen : List Int), (∀ s ∈ l, s.size ≤ 1048576) → Ev (fun k => impl_CostsFault.l0 k seen l) (kinsV seen l)
  | [], seen, _ => by unfold impl_CostsFault.l0 kinsV; exact Ev.now _
  | s :: r, seen, h => by
    have hs := h s (by simp)
    have ih := fun seen' => cf_impl r seen' (fun x hx => h x (by simp [hx]))
    unfold impl_CostsFault.l0 kinsV
    refine Ev.bind (points_f s (by omega)) (Ev.bind (Ev.done (well_f s (by omega))) ?_)
    by_cases hg : goodFrom s 0 = true ∧ 2 ≤ (pts s).length ∧ (pts s).length ≤ 10
    · rw [if_pos hg]
      refine Ev.pos hg ?_
      cases cfDup seen (pts s) with
      | none => exact Ev.now _
      | some seen' => exact ih seen'
    · rw [if_neg hg]
      exact Ev.neg hg (Ev.now _)
section
variable (a b c d e : Int) (L : List ByteArray)
/-- The innermost loop: is the point among those that are seen? -/
theorem cf_l2 (sS : List Int) (i m : Nat) (l : List Int) (hm : m < l.length) (hz : sS.length ≤ 100000) (r : Int) : ∀ (n j : Nat), sS.length - j = n → j ≤ sS.length →
    (l[m] ∈ sS.drop j → r = 1) → (l[m] ∉ sS.drop j → Ev (fun k => spec_CostsFault.l1 k (sS ++ [l[m]]) (i : Int) l (wrap64 ((m : Int) + 1)) a b c d e L) r) →
    Ev (fun k => spec_CostsFault.l2 k sS (i : Int) l (m : Int) (j : Int) a b c d e L) r := by
  have hrm : rd l (m : Int) = l[m] := by simp [rd, hm]
  intro n
  induction n with
  | zero =>
    intro j hn hj h1 h2
    rw [List.drop_eq_nil_of_le (by omega)] at h1 h2
    refine Ev.step (fun k => by rw [spec_CostsFault.l2]) (Ev.neg (by omega) (Ev.pos (by omega) (Ev.pos (by omega) (Ev.pos (by omega) ?_))))
    rw [hrm]
    exact h2 (by simp)
  | succ n ih =>
    intro j hn hj h1 h2
    have hlt : j < sS.length := by omega
    have hrj : rd sS (j : Int) = sS[j] := by simp [rd, hlt]
    rw [List.drop_eq_getElem_cons hlt] at h1 h2
    refine Ev.step (fun k => by rw [spec_CostsFault.l2]) (Ev.pos (by omega) (Ev.pos (by omega) (Ev.pos (by omega) (Ev.pos (by omega) ?_))))
    rw [hrm, hrj]
    by_cases he : sS[j] = l[m]
    · rw [h1 (by simp [he])]
      exact Ev.pos he (Ev.now _)
    · refine Ev.neg he ?_
      rw [w_succ j (by omega)]
      exact ih (j + 1) (by omega) (by omega) (fun h => h1 (List.mem_cons_of_mem _ h)) (fun h => h2 (fun hc => (List.mem_cons.1 hc).elim (fun e => he e.symm) h))
theorem cf_l1 (i : Nat) (l : List Int) (hl : l.length ≤ 10) (r : Int) : ∀ (n m : Nat), l.length - m = n → m ≤ l.length → ∀ (sS sI : List Int), (∀ p, p ∈ sS ↔ p ∈ sI) → sS.length ≤ 10 * i + m → i ≤ 50 →
    (cfDup sI (l.drop m) = none → r = 1) →
    (∀ sI', cfDup sI (l.drop m) = some sI' → ∀ sS' : List Int, (∀ p, p ∈ sS' ↔ p ∈ sI') → sS'.length ≤ 10 * i + 10 → Ev (fun k => spec_CostsFault.l0 k sS' (wrap64 ((i : Int) + 1)) a b c d e L) r) →
    Ev (fun k => spec_CostsFault.l1 k sS (i : Int) l (m : Int) a b c d e L) r := by
  intro n
  induction n with
  | zero =>
    intro m hn hm sS sI hmem hz hi h1 h2
    rw [List.drop_eq_nil_of_le (by omega)] at h1 h2
    refine Ev.step (fun k => by rw [spec_CostsFault.l1]) (Ev.neg (by omega) ?_)
    exact h2 sI rfl sS hmem (by omega)
  | succ n ih =>
    intro m hn hm sS sI hmem hz hi h1 h2
    have hlt : m < l.length := by omega
    rw [List.drop_eq_getElem_cons hlt] at h1 h2
    refine Ev.step (fun k => by rw [spec_CostsFault.l1]) (Ev.pos (by omega) ?_)
    refine cf_l2 a b c d e L sS i m l hlt (by omega) r _ 0 rfl (by omega) (fun h => ?_) (fun h => ?_)
    · apply h1
      rw [List.drop_zero] at h
      exact cfDup_hit (List.contains_iff_mem.2 ((hmem _).1 h))
    · rw [List.drop_zero] at h
      have hni : ¬ sI.contains l[m] = true := fun hc => h ((hmem _).2 (List.contains_iff_mem.1 hc))
      rw [w_succ m (by omega)]
      rw [cfDup_miss hni] at h1 h2
      refine ih (m + 1) (by omega) (by omega) (sS ++ [l[m]]) (l[m] :: sI) (fun p => ?_) (by rw [List.length_append, List.length_singleton]; omega) hi h1 h2
      rw [List.mem_append, List.mem_singleton, List.mem_cons, hmem]
      exact Or.comm
theorem cf_l0 (hL : L.length ≤ 50) (hs : ∀ s ∈ L, s.size ≤ 1048576) : ∀ (n i : Nat), L.length - i = n → i ≤ L.length → ∀ (sS sI : List Int), (∀ p, p ∈ sS ↔ p ∈ sI) → sS.length ≤ 10 * i →
    Ev (fun k => spec_CostsFault.l0 k sS (i : Int) a b c d e L) (kinsV sI (L.drop i)) := by
  intro n
  induction n with
  | zero =>
    intro i hn hi sS sI hmem hz
    rw [List.drop_eq_nil_of_le (by omega)]
    exact Ev.step (fun k => by rw [spec_CostsFault.l0]) (Ev.neg (by omega) ((Ev.now 0).to (by unfold kinsV; rfl)))
  | succ n ih =>
    intro i hn hi sS sI hmem hz
    have hlt : i < L.length := by omega
    have hsz := hs L[i] (List.getElem_mem hlt)
    have hpl : (pts L[i]).length ≤ L[i].size - 0 := pts_len L[i] 0
    rw [List.drop_eq_getElem_cons hlt]
    refine Ev.step (fun k => by rw [spec_CostsFault.l0]) (Ev.pos (by omega) (Ev.pos (by omega) ?_))
    have er : rdOf ByteArray.empty L (i : Int) = L[i] := by simp [rdOf, hlt]
    rw [er]
    refine Ev.bind (spoints_f L[i] (by omega)) ?_
    unfold kinsV
    by_cases c2 : ((pts L[i]).length : Int) < 2
    · refine Ev.pos c2 ?_
      rw [if_neg (by omega)]
      exact Ev.step (fun k => by rw [spec_CostsFault.j2]) (Ev.pos rfl (Ev.now _))
    refine Ev.neg c2 ?_
    by_cases c3 : ((pts L[i]).length : Int) > 10
    · refine Ev.pos c3 ?_
      rw [if_neg (by omega)]
      exact Ev.step (fun k => by rw [spec_CostsFault.j2]) (Ev.pos rfl (Ev.now _))
    refine Ev.neg c3 (Ev.bind (text_f (pts L[i]) (by omega)) ?_)
    by_cases hg : goodFrom L[i] 0 = true
    · have ht := (txt_back L[i]).2 hg
      rw [ht, if_pos ⟨hg, by omega, by omega⟩]
      refine Ev.step (fun k => by rw [spec_CostsFault.j2]) (Ev.neg (by simp) ?_)
      refine cf_l1 a b c d e L i (pts L[i]) (by omega) _ _ 0 rfl (by omega) sS sI hmem (by omega) (by omega) (fun h => ?_) (fun sI' h sS' hm' hz' => ?_)
      · rw [List.drop_zero] at h
        rw [h]
      · rw [List.drop_zero] at h
        rw [h, w_succ i (by omega)]
        exact ih (i + 1) (by omega) (by omega) sS' sI' hm' (by omega)
    · rw [if_neg (fun h => hg h.1)]
      have ht : (txt (pts L[i])).toList ≠ L[i].toList := by
        intro h
        apply hg
        rw [← txt_back]
        rw [Lib.toList_data, Lib.toList_data] at h
        cases h1 : txt (pts L[i]) with
        | mk x =>
          cases h2 : L[i] with
          | mk y =>
            rw [h1, h2] at h
            congr
            exact Array.toList_inj.1 h
      refine Ev.step (fun k => by rw [spec_CostsFault.j2]) (Ev.pos ?_ (Ev.now _))
      exact bne_iff_ne.2 ht
end
/-- What both answer. -/
def cfV (a b c d e : Int) (L : List ByteArray) : Int :=
  if cfOk a ∧ cfOk b ∧ cfOk c ∧ cfOk d ∧ cfOk e then (if a = 0 ∨ b = 0 ∨ d > c ∨ c > a + b ∨ L.length > 50 then 1 else kinsV [] L) else 1
theorem cf_implf (a b c d e : Int) (L : List ByteArray) (hs : ∀ s ∈ L, s.size ≤ 1048576) : Ev (fun k => impl_CostsFault.f k a b c d e L) (cfV a b c d e L) := by
  unfold impl_CostsFault.f cfV
  by_cases h : cfOk a ∧ cfOk b ∧ cfOk c ∧ cfOk d ∧ cfOk e
  · rw [if_pos h]
    refine Ev.pos h ?_
    by_cases h2 : a = 0 ∨ b = 0 ∨ d > c ∨ c > a + b ∨ L.length > 50
    · rw [if_pos h2]; exact Ev.pos h2 (Ev.now _)
    · rw [if_neg h2]; exact Ev.neg h2 (cf_impl L [] hs)
  · rw [if_neg h]; exact Ev.neg h (Ev.now _)
theorem cost_f (n : Int) : spec_l16Cost.f n = some (decide (cfOk n)) := by
  unfold spec_l16Cost.f
  by_cases h : n ≥ 0
  · rw [if_pos h]
    by_cases h2 : n ≤ 1000
    · rw [decide_eq_true h2, decide_eq_true (show cfOk n from ⟨h, h2⟩)]
    · rw [decide_eq_false h2, decide_eq_false (show ¬ cfOk n from fun h3 => h2 h3.2)]
  · rw [if_neg h, decide_eq_false (show ¬ cfOk n from fun h3 => h h3.1)]
theorem cf_specf (a b c d e : Int) (L : List ByteArray) (hs : ∀ s ∈ L, s.size ≤ 1048576) : Ev (fun k => spec_CostsFault.f k a b c d e L) (cfV a b c d e L) := by
  have bad : Ev (fun k => spec_CostsFault.j0 k true a b c d e L) 1 := Ev.step (fun k => by rw [spec_CostsFault.j0]) (Ev.pos rfl (Ev.now _))
  unfold spec_CostsFault.f cfV
  by_cases h1 : ¬ cfOk a
  · rw [if_neg (fun h => h1 h.1)]
    exact Ev.bind (Ev.done (cost_f a)) (Ev.neg (by simpa using h1) bad)
  replace h1 := Decidable.not_not.1 h1
  refine Ev.bind (Ev.done (cost_f a)) (Ev.pos (by simpa using h1) ?_)
  by_cases h2 : ¬ cfOk b
  · rw [if_neg (fun h => h2 h.2.1)]
    exact Ev.bind (Ev.done (cost_f b)) (Ev.neg (by simpa using h2) bad)
  replace h2 := Decidable.not_not.1 h2
  refine Ev.bind (Ev.done (cost_f b)) (Ev.pos (by simpa using h2) ?_)
  by_cases h3 : ¬ cfOk c
  · rw [if_neg (fun h => h3 h.2.2.1)]
    exact Ev.bind (Ev.done (cost_f c)) (Ev.neg (by simpa using h3) bad)
  replace h3 := Decidable.not_not.1 h3
  refine Ev.bind (Ev.done (cost_f c)) (Ev.pos (by simpa using h3) ?_)
  by_cases h4 : ¬ cfOk d
  · rw [if_neg (fun h => h4 h.2.2.2.1)]
    exact Ev.bind (Ev.done (cost_f d)) (Ev.neg (by simpa using h4) bad)
  replace h4 := Decidable.not_not.1 h4
  refine Ev.bind (Ev.done (cost_f d)) (Ev.pos (by simpa using h4) ?_)
  by_cases h5 : ¬ cfOk e
  · rw [if_neg (fun h => h5 h.2.2.2.2)]
    exact Ev.bind (Ev.done (cost_f e)) (Ev.neg (by simpa using h5) bad)
  replace h5 := Decidable.not_not.1 h5
  refine Ev.bind (Ev.done (cost_f e)) (Ev.pos (by simpa using h5) ?_)
  rw [if_pos ⟨h1, h2, h3, h4, h5⟩]
  have e0 : wrap64 (a + b) = a + b := by unfold cfOk at h1 h2; exact w64 (by omega) (by omega)
  rw [e0]
  by_cases c1 : a = 0
  · rw [if_pos (.inl c1)]; exact Ev.pos c1 bad
  refine Ev.neg c1 ?_
  by_cases c2 : b = 0
  · rw [if_pos (.inr (.inl c2))]; exact Ev.pos c2 bad
  refine Ev.neg c2 ?_
  by_cases c3 : d > c
  · rw [if_pos (.inr (.inr (.inl c3)))]; exact Ev.pos c3 bad
  refine Ev.neg c3 ?_
  by_cases c4 : c > a + b
  · rw [if_pos (.inr (.inr (.inr (.inl c4))))]; exact Ev.pos c4 bad
  refine Ev.neg c4 ?_
  by_cases c5 : L.length > 50
  · rw [if_pos (.inr (.inr (.inr (.inr c5)))), decide_eq_true (by omega)]; exact bad
  · rw [if_neg (by omega), decide_eq_false (by omega)]
    have hh : Ev (fun k => spec_CostsFault.l0 k [] 0 a b c d e L) (kinsV [] L) := cf_l0 a b c d e L (by omega) hs _ 0 rfl (by omega) [] [] (by simp) (by simp)
    exact Ev.step (fun k => by rw [spec_CostsFault.j0]) (Ev.neg Bool.false_ne_true hh)
theorem law_CostsFault (a b c d e : Int) (L : List ByteArray) (hl : L.length ≤ 9223372036854775807) (hs : ∀ s ∈ L, s.size ≤ 9223372036854775807) : ∃ k, laws_FnExactCostsFault.f k a b c d e L = some true := by
  apply Ev.rounds
  obtain ⟨r, hr, hra, hrs⟩ := szS_f L hl hs 1048576 (by omega) (by omega)
  unfold laws_FnExactCostsFault.f
  have hsz : Ev (fun k => laws_szCosts.f k a b c d e L 1048576) (if r < 0 then -1 else r) := by
    unfold laws_szCosts.f
    refine Ev.bind hr ?_
    by_cases h : r < 0
    · exact Ev.pos h ((Ev.now _).to (by rw [if_pos h]))
    · exact Ev.neg h ((Ev.now _).to (by rw [if_neg h]))
  refine Ev.bind hsz ?_
  by_cases h : r < 0
  · rw [if_pos h]; exact Ev.pos (by omega) (Ev.now _)
  · rw [if_neg h]
    obtain ⟨hl2, hs2⟩ := hrs (by omega)
    have hto : Ev (fun k => laws_toCosts.f k a b c d e L) (a, b, c, d, e, L) := Ev.bind (toS_f L (by omega)) (Ev.now _)
    refine Ev.neg h (Ev.bind hto (Ev.bind (cf_specf a b c d e L hs2) (Ev.bind hto (Ev.bind (cf_implf a b c d e L hs2) (Ev.pos rfl (Ev.bind hto ?_))))))
    refine Ev.bind (a := true) ?_ (Ev.pos rfl (Ev.now _))
    unfold laws_eqCosts.f
    exact Ev.pos rfl (Ev.pos rfl (Ev.pos rfl (Ev.pos rfl (Ev.pos rfl (Ev.bind (eqS_f L (by omega)) (Ev.pos rfl (Ev.now _)))))))
end Go.Proofs.YtgahimbccbghnaaDoor.P
