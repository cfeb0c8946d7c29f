/- ScriptsOf, in plain lists: the program's and the reference's come to the same. -/
import Derived.Test.YtgahimbccbghnaaDoorS4
import Derived.Test.YtgahimbccbghnaaDoorS11
import Derived.Test.YtgahimbccbghnaaDoorXCat
import Derived.Test.YtgahimbccbghnaaDoorXSet
import Derived.Test.YtgahimbccbghnaaDoorXSc
import Derived.Test.YtgahimbccbghnaaDoorXPt
import Derived.Test.YtgahimbccbghnaaDoorXPu
namespace Go.Proofs.YtgahimbccbghnaaDoor.P
open Go.RowKit Go.Proofs.YtgahimbccbghnaaDoorW.PrintWords
set_option linter.unusedVariables false
theorem rd_lt (l : List Int) (i : Nat) (h : i < l.length) : rd l (i : Int) = l[i] := by simp [rd, h]
/-- The scripts of the letters of a list, in order. -/
def scrOf : List Int → List Int
  | [] => []
  | p :: r => if 0 < (kd p).2 ∧ ltr p = true then (kd p).2 :: scrOf r else scrOf r
theorem scrOf_len : ∀ l : List Int, (scrOf l).length ≤ l.length
  | [] => by simp [scrOf]
  | p :: r => by
    unfold scrOf
    have := scrOf_len r
    by_cases h : 0 < (kd p).2 ∧ ltr p = true
    · rw [if_pos h]; simp; omega
    · rw [if_neg h]; simp; omega
theorem scrL_ev : ∀ (l y : List Int), (∀ p ∈ l, 0 ≤ p) → Ev (fun k => scrL k l y) (y ++ scrOf l)
  | [], y, _ => by
    unfold scrL scrOf
    rw [List.append_nil]
    exact Ev.now _
  | p :: r, y, h => by
    have h0 := h p (List.mem_cons_self ..)
    have hr : ∀ p ∈ r, 0 ≤ p := fun q hq => h q (List.mem_cons_of_mem _ hq)
    unfold scrL scrOf
    refine Ev.bind (Script_ev p h0) ?_
    by_cases h1 : 0 < (kd p).2
    · refine Ev.pos h1 (Ev.bind (isLetter_ev p h0) ?_)
      by_cases h2 : ltr p = true
      · rw [if_pos ⟨h1, h2⟩]
        refine Ev.pos h2 ?_
        have := scrL_ev r (y ++ [(kd p).2]) hr
        rw [List.append_assoc, List.singleton_append] at this
        exact this
      · rw [if_neg (fun h => h2 h.2)]
        exact Ev.neg h2 (scrL_ev r y hr)
    · rw [if_neg (fun h => h1 h.1)]
      exact Ev.neg h1 (scrL_ev r y hr)
theorem put_ev (l : List Int) (n : Int) (hl : l.length ≤ 1000000000) : ∀ (j i : Nat), l.length - i = j → i ≤ l.length → Ev (fun k => spec_l19Put.l0 k l n (i : Int)) (l.take i ++ insS (l.drop i) n) := by
  intro j
  induction j with
  | zero =>
    intro i hj hi
    obtain rfl : i = l.length := by omega
    rw [List.drop_length, List.take_length]
    refine Ev.step (fun k => by rw [spec_l19Put.l0]) (Ev.neg (by omega) ?_)
    simp only [Option.bind_some, Int.toNat_natCast, List.nil_append, List.take_length, List.drop_length, List.append_nil, List.length_append, List.length_nil, List.length_cons]
    exact Ev.pos (by omega) (Ev.pos (by omega) (Ev.pos (by omega) (Ev.pos (by omega) (Ev.pos (by omega) (Ev.now _)))))
  | succ j ih =>
    intro i hj hi
    have hlt : i < l.length := by omega
    have hrd := rd_lt l i hlt
    refine Ev.step (fun k => by rw [spec_l19Put.l0, hrd, w_succ i (by omega)]) (Ev.pos (by omega) (Ev.pos (by omega) ?_))
    rw [List.drop_eq_getElem_cons hlt]
    unfold insS
    by_cases h1 : l[i] < n
    · refine Ev.pos h1 (Ev.to (ih (i + 1) (by omega) (by omega)) ?_)
      rw [if_pos h1, List.take_succ_eq_append_getElem hlt, List.append_assoc, List.singleton_append]
    · refine Ev.neg h1 ?_
      by_cases h2 : l[i] = n
      · refine Ev.pos h2 (Ev.to (Ev.now _) ?_)
        rw [if_neg h1, if_pos h2, ← List.drop_eq_getElem_cons hlt, List.take_append_drop]
      · refine Ev.neg h2 ?_
        have ht : (l.take i).length = i := by rw [List.length_take]; omega
        simp only [Option.bind_some, Int.toNat_natCast, List.nil_append, List.length_append, List.length_nil, List.length_cons, List.length_drop, ht]
        refine Ev.pos (by omega) (Ev.pos (by omega) (Ev.pos (by omega) (Ev.pos (by omega) (Ev.to (Ev.now _) ?_))))
        rw [if_neg h1, if_neg h2, ← List.drop_eq_getElem_cons hlt, List.append_assoc, List.singleton_append]
theorem put_f (l : List Int) (n : Int) (hl : l.length ≤ 1000000000) : Ev (fun k => spec_l19Put.f k l n) (insS l n) := by
  have := put_ev l n hl _ 0 rfl (by omega)
  rw [List.take_zero, List.nil_append, List.drop_zero] at this
  exact this
theorem scripts_ev (l : List Int) (hl : l.length ≤ 1000000000) (hp : ∀ p ∈ l, 0 ≤ p ∧ p < 1000000000) : ∀ (j i : Nat), l.length - i = j → i ≤ l.length → ∀ y : List Int, y.length ≤ i →
    Ev (fun k => spec_l19Scripts.l0 k l y (i : Int)) ((scrOf (l.drop i)).foldl insS y) := by
  intro j
  induction j with
  | zero =>
    intro i hj hi y hy
    rw [List.drop_eq_nil_of_le (by omega)]
    exact Ev.to (r := y) (Ev.step (fun k => by rw [spec_l19Scripts.l0]) (Ev.neg (by omega) (Ev.now _))) rfl
  | succ j ih =>
    intro i hj hi y hy
    have hlt : i < l.length := by omega
    have hrd := rd_lt l i hlt
    have hq := hp l[i] (List.getElem_mem hlt)
    have ws := w_succ i (by omega)
    rw [List.drop_eq_getElem_cons hlt]
    refine Ev.step (fun k => by rw [spec_l19Scripts.l0, hrd]) (Ev.pos (by clear ws; omega) (Ev.pos (by clear ws; omega) (Ev.bind (sLetter_ev l[i] hq.1 hq.2) ?_)))
    unfold scrOf
    by_cases h2 : ltr l[i] = true
    · refine Ev.pos h2 (Ev.bind (sScript_ev l[i] hq.1 hq.2) ?_)
      by_cases h1 : 0 < (kd l[i]).2
      · rw [decide_eq_true (show (kd l[i]).2 > 0 from h1), if_pos ⟨h1, h2⟩]
        refine Ev.step (fun k => by rw [spec_l19Scripts.j1, hrd, ws]) (Ev.pos rfl (Ev.pos (by clear ws; omega) (Ev.pos (by clear ws; omega) (Ev.bind (sScript_ev l[i] hq.1 hq.2) (Ev.bind (put_f y _ (by clear ws; omega)) ?_)))))
        rw [List.foldl_cons]
        exact ih (i + 1) (by clear ws; omega) (by clear ws; omega) _ (by clear ws; have := insS_len (kd l[i]).2 y; omega)
      · rw [decide_eq_false (show ¬ (kd l[i]).2 > 0 from h1), if_neg (fun h => h1 h.1)]
        refine Ev.step (fun k => by rw [spec_l19Scripts.j1, ws]) (Ev.neg (by simp) ?_)
        exact ih (i + 1) (by clear ws; omega) (by clear ws; omega) _ (by clear ws; omega)
    · rw [if_neg (fun h => h2 h.2)]
      refine Ev.neg h2 (Ev.step (fun k => by rw [spec_l19Scripts.j1, ws]) (Ev.neg (by simp) ?_))
      exact ih (i + 1) (by clear ws; omega) (by clear ws; omega) _ (by clear ws; omega)
/-- The scripts of a text. -/
def scripts (s : ByteArray) : List Int := if s.size > 65536 then [] else (scrOf (pts s)).foldl insS []
theorem scripts_len (s : ByteArray) : (scripts s).length ≤ 65536 := by
  unfold scripts
  by_cases h : s.size > 65536
  · rw [if_pos h]; simp
  · rw [if_neg h]
    have h1 := foldS_len (scrOf (pts s)) []
    have h2 := scrOf_len (pts s)
    have h3 : (pts s).length ≤ s.size - 0 := pts_len s 0
    simp only [List.length_nil] at h1
    omega
theorem iScripts_ev (s : ByteArray) : Ev (fun k => impl_ScriptsOf.f k s) (scripts s) := by
  unfold impl_ScriptsOf.f scripts
  refine Ev.bind (Ev.done (show impl_long.f s = some (decide ((s.size : Int) > 65536)) from rfl)) ?_
  by_cases h : s.size > 65536
  · rw [decide_eq_true (by omega), if_pos h]
    exact Ev.pos rfl (Ev.now _)
  · rw [decide_eq_false (by omega), if_neg h]
    refine Ev.neg (by simp) (Ev.bind (points_f s (by omega)) ?_)
    have h3 : (pts s).length ≤ s.size - 0 := pts_len s 0
    refine Ev.pos (by omega) (Ev.bind (scrL_ev (pts s) [] fun p hp => (pts_range s 0 p hp).1) ?_)
    rw [List.nil_append]
    exact Ev.to (Ev.now _) (compact_sort _)
theorem sScripts_ev (s : ByteArray) : Ev (fun k => spec_ScriptsOf.f k s) (scripts s) := by
  unfold spec_ScriptsOf.f scripts
  by_cases h : s.size > 65536
  · rw [if_pos h]
    exact Ev.pos (by omega) (Ev.now _)
  · rw [if_neg h]
    have h3 : (pts s).length ≤ s.size - 0 := pts_len s 0
    refine Ev.neg (by omega) (Ev.bind (spoints_f s (by omega)) (Ev.bind ?_ (Ev.now _)))
    have := scripts_ev (pts s) (by omega) (fun p hp => ⟨(pts_range s 0 p hp).1, by have := (pts_range s 0 p hp).2.1; omega⟩) _ 0 rfl (by omega) [] (by simp)
    rw [List.drop_zero] at this
    exact this
theorem eqI_ev (l : List Int) (hl : l.length ≤ 1000000000) : Ev (fun k => laws_eqInt64S.f k l l) true := by
  unfold laws_eqInt64S.f
  refine Ev.pos rfl ?_
  suffices H : ∀ (j i : Nat), l.length - i = j → i ≤ l.length → Ev (fun k => laws_eqInt64S.l0 k l l (i : Int)) true from H _ 0 rfl (by omega)
  intro j
  induction j with
  | zero =>
    intro i hj hi
    exact Ev.step (fun k => by rw [laws_eqInt64S.l0]) (Ev.neg (by omega) (Ev.now _))
  | succ j ih =>
    intro i hj hi
    exact Ev.step (fun k => by rw [laws_eqInt64S.l0, w_succ i (by omega)]) (Ev.pos (by omega) (Ev.pos (by omega) (Ev.pos (by omega) (Ev.pos rfl (ih (i + 1) (by omega) (by omega))))))
/-- n numbers, rising by one. -/
def upFrom : Nat → Int → List Int
  | 0, _ => []
  | n + 1, x => x :: upFrom n (x + 1)
theorem upFrom_len : ∀ (n : Nat) (x : Int), (upFrom n x).length = n
  | 0, _ => rfl
  | n + 1, x => by simp [upFrom, upFrom_len n]
theorem upFrom_get : ∀ (n : Nat) (x : Int) (i : Nat) (h : i < (upFrom n x).length), (upFrom n x)[i] = x + i
  | 0, _, i, h => by simp [upFrom] at h
  | n + 1, x, 0, h => by simp [upFrom]
  | n + 1, x, i + 1, h => by
    simp only [upFrom, List.getElem_cons_succ]
    rw [upFrom_get n (x + 1) i]
    omega
theorem mark_ev : ∀ (j : Nat) (l : List Int) (i : Nat) (x : Int), l.length - i = j → i ≤ l.length → l.length ≤ 1000000000 → 0 ≤ x → x + j ≤ 2000000000 → Ev (fun k => laws_markInt64S.l0 k l x (i : Int)) (x + j, l.take i ++ upFrom j x)
  | 0, l, i, x, hj, hi, hl, hx, hx2 => by
    obtain rfl : i = l.length := by omega
    refine Ev.step (fun k => by rw [laws_markInt64S.l0]) (Ev.neg (by omega) (Ev.to (Ev.now _) ?_))
    simp [upFrom]
  | j + 1, l, i, x, hj, hi, hl, hx, hx2 => by
    have hlt : i < l.length := by omega
    refine Ev.step (fun k => by rw [laws_markInt64S.l0, w_succ i (by omega), w64 (x := x + 1) (by omega) (by omega), Int.toNat_natCast]) (Ev.pos (by omega) (Ev.pos (by omega) ?_))
    refine Ev.to (mark_ev j (l.set i x) (i + 1) (x + 1) (by rw [List.length_set]; omega) (by rw [List.length_set]; omega) (by rw [List.length_set]; omega) (by omega) (by omega)) ?_
    have e1 : (l.set i x).take (i + 1) = l.take i ++ [x] := by
      rw [List.take_succ_eq_append_getElem (by rw [List.length_set]; exact hlt), List.getElem_set_self, List.take_set_of_le (Nat.le_refl _)]
    rw [e1, List.append_assoc, List.singleton_append]
    simp only [upFrom, Prod.mk.injEq, and_true]
    omega
theorem held_ev (l : List Int) (n : Nat) (hl : l.length = n) (hn : n ≤ 1000000000) (hg : ∀ i, (h : i < l.length) → l[i] = 1 + (i : Int)) : ∀ (j i : Nat), n - i = j → i ≤ n → Ev (fun k => laws_heldInt64S.l0 k l (1 + (i : Int)) (i : Int)) (1 + (n : Int)) := by
  intro j
  induction j with
  | zero =>
    intro i hj hi
    obtain rfl : i = n := by omega
    exact Ev.step (fun k => by rw [laws_heldInt64S.l0]) (Ev.neg (by omega) (Ev.now _))
  | succ j ih =>
    intro i hj hi
    have hlt : i < l.length := by omega
    refine Ev.step (fun k => by rw [laws_heldInt64S.l0, rd_lt l i hlt, hg i hlt, w_succ i (by omega), w64 (x := 1 + (i : Int) + 1) (by omega) (by omega)]) (Ev.pos (by omega) (Ev.pos (by omega) (Ev.pos rfl ?_)))
    have := ih (i + 1) (by omega) (by omega)
    rw [show (1 : Int) + ((i + 1 : Nat) : Int) = 1 + (i : Int) + 1 by omega] at this
    exact this
/-- A list marked, and held against its marks. -/
theorem marks_ev (l : List Int) (hl : l.length ≤ 1000000000) : ∃ y : List Int, Ev (fun k => laws_markInt64S.f k l 1) (1 + (l.length : Int), y) ∧ Ev (fun k => laws_heldInt64S.f k y 1) (1 + (l.length : Int)) := by
  refine ⟨upFrom l.length 1, ?_, ?_⟩
  · have := mark_ev l.length l 0 1 (by omega) (by omega) hl (by omega) (by omega)
    rw [List.take_zero, List.nil_append] at this
    exact this
  · exact held_ev (upFrom l.length 1) l.length (upFrom_len _ _) hl (fun i h => upFrom_get _ _ i h) _ 0 rfl (by omega)
theorem law_ScriptsOf (s : ByteArray) : ∃ k, laws_FnExactScriptsOf.f k s = some true := by
  apply Ev.rounds
  unfold laws_FnExactScriptsOf.f
  by_cases h : (s.size : Int) > 1048576
  · exact Ev.pos h (Ev.now _)
  · have hlen := scripts_len s
    obtain ⟨y, m1, m2⟩ := marks_ev (scripts s) (by omega)
    refine Ev.neg h (Ev.bind (sScripts_ev s) (Ev.bind (iScripts_ev s) (Ev.bind (eqI_ev _ (by omega)) (Ev.pos rfl (Ev.bind m1 (Ev.bind m2 (Ev.neg (by omega) (Ev.pos rfl ?_))))))))
    exact Ev.bind (iScripts_ev s) (Ev.bind (eqI_ev _ (by omega)) (Ev.pos rfl (Ev.bind m2 (Ev.neg (by omega) (Ev.pos rfl (Ev.now _))))))
end Go.Proofs.YtgahimbccbghnaaDoor.P
