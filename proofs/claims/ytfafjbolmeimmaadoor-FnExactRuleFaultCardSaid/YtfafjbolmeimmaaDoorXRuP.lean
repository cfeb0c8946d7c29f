/- Rules of plurals, in plain lists of bytes: test by test, or piece by piece. -/
import Derived.Test.YtfafjbolmeimmaaDoorWWords
namespace Go.Proofs.YtfafjbolmeimmaaDoor.P
open Go.RowKit Go.Proofs.YtfafjbolmeimmaaDoorW.PrintWords
set_option linter.unusedVariables false
def isDg (c : UInt8) : Bool := decide (48 ≤ c.toNat ∧ c.toNat ≤ 57)
def isSep (c : UInt8) : Bool := c == 38 || c == 124
/-- The number that digits tell. -/
def valD (l : List UInt8) : Nat := l.foldl (fun n c => n * 10 + (c.toNat - 48)) 0
/-- A number, as far as its digits go on; none: it is no right one. -/
def pNum : List UInt8 → Option (Nat × List UInt8)
  | [] => none
  | c :: r => if isDg c = false then none else if c = 48 then some (0, r)
    else if valD ((c :: r).takeWhile isDg) ≤ 1000000 then some (valD ((c :: r).takeWhile isDg), (c :: r).dropWhile isDg) else none
theorem pNum_cons (c : UInt8) (r : List UInt8) : pNum (c :: r) = if isDg c = false then none else if c = 48 then some (0, r)
    else if valD ((c :: r).takeWhile isDg) ≤ 1000000 then some (valD ((c :: r).takeWhile isDg), (c :: r).dropWhile isDg) else none := rfl
/-- A byte that may be left out. -/
def pOpt (b : UInt8) : List UInt8 → Bool × List UInt8
  | [] => (false, [])
  | c :: r => if c = b then (true, r) else (false, c :: r)
def isOf (c : UInt8) : Bool := c == 105 || c == 102 || c == 118 || c == 110
/-- Behind the letter: the rest that stays. -/
def pMod (r : List UInt8) : Option (List UInt8) :=
  if (pOpt 37 r).1 = true then (match pNum (pOpt 37 r).2 with | none => none | some (m, q) => if m = 0 then none else some q) else some r
def pHigh (r : List UInt8) : Option (List UInt8) :=
  if (pOpt 46 r).1 = true then (if (pOpt 46 (pOpt 46 r).2).1 = true then (match pNum (pOpt 46 (pOpt 46 r).2).2 with | none => none | some (m, q) => some q) else none) else some r
def pEq (r : List UInt8) : Option (List UInt8) :=
  if (pOpt 61 (pOpt 33 r).2).1 = true then (match pNum (pOpt 61 (pOpt 33 r).2).2 with | none => none | some (m, q) => pHigh q) else none
def pTest : List UInt8 → Option (List UInt8)
  | [] => none
  | c :: r => if isOf c = true then (match pMod r with | none => none | some q => pEq q) else none
/-! ### what is read is read alike ahead of a sign between tests -/
/-- Nothing, or a sign between tests. -/
def Stop (r : List UInt8) : Prop := r = [] ∨ ∃ c q, r = c :: q ∧ isSep c = true
theorem pOpt_local (b : UInt8) (hb : isSep b = false) (x r : List UInt8) (hr : Stop r) : pOpt b (x ++ r) = ((pOpt b x).1, (pOpt b x).2 ++ r) := by
  cases x with
  | nil =>
    rcases hr with rfl | ⟨c, q, rfl, hc⟩
    · rfl
    · show (if c = b then (true, q) else (false, c :: q)) = (false, c :: q)
      rw [if_neg]
      rintro rfl
      rw [hb] at hc
      cases hc
  | cons c x =>
    show (if c = b then (true, x ++ r) else (false, c :: (x ++ r))) = ((if c = b then (true, x) else (false, c :: x)).1, (if c = b then (true, x) else (false, c :: x)).2 ++ r)
    split <;> rfl
theorem sep_dg {c : UInt8} (h : isSep c = true) : isDg c = false := by
  unfold isSep at h
  unfold isDg
  rcases (Bool.or_eq_true _ _).mp h with h | h
  · rw [beq_iff_eq.1 h]; rfl
  · rw [beq_iff_eq.1 h]; rfl
theorem take_local (x r : List UInt8) (hr : Stop r) : (x ++ r).takeWhile isDg = x.takeWhile isDg ∧ (x ++ r).dropWhile isDg = x.dropWhile isDg ++ r := by
  induction x with
  | nil =>
    rcases hr with rfl | ⟨c, q, rfl, hc⟩
    · exact ⟨rfl, rfl⟩
    · show (c :: q).takeWhile isDg = [] ∧ (c :: q).dropWhile isDg = c :: q
      rw [List.takeWhile_cons, List.dropWhile_cons, sep_dg hc]
      exact ⟨rfl, rfl⟩
  | cons c x ih =>
    rw [List.cons_append, List.takeWhile_cons, List.dropWhile_cons, List.takeWhile_cons, List.dropWhile_cons]
    cases isDg c
    · exact ⟨rfl, rfl⟩
    · exact ⟨by rw [if_pos rfl, if_pos rfl, ih.1], by rw [if_pos rfl, if_pos rfl, ih.2]⟩
theorem pNum_local (x r : List UInt8) (hr : Stop r) : pNum (x ++ r) = (pNum x).map (fun p => (p.1, p.2 ++ r)) := by
  cases x with
  | nil =>
    rcases hr with rfl | ⟨c, q, rfl, hc⟩
    · rfl
    · show (if isDg c = false then none else _) = none
      rw [if_pos (sep_dg hc)]
  | cons c x =>
    have e := take_local (c :: x) r hr
    rw [List.cons_append] at e ⊢
    rw [pNum_cons, pNum_cons, e.1, e.2]
    by_cases h1 : isDg c = false
    · rw [if_pos h1, if_pos h1]; rfl
    · rw [if_neg h1, if_neg h1]
      by_cases h2 : c = 48
      · rw [if_pos h2, if_pos h2]; rfl
      · rw [if_neg h2, if_neg h2]
        split <;> rfl
theorem pMod_local (x r : List UInt8) (hr : Stop r) : pMod (x ++ r) = (pMod x).map (· ++ r) := by
  unfold pMod
  rw [pOpt_local 37 rfl x r hr]
  dsimp only
  split
  · rw [pNum_local _ r hr]
    cases pNum (pOpt 37 x).2 with
    | none => rfl
    | some p =>
      obtain ⟨m, q⟩ := p
      show (if m = 0 then none else some (q ++ r)) = _
      dsimp only
      split <;> rfl
  · rfl
theorem pHigh_local (x r : List UInt8) (hr : Stop r) : pHigh (x ++ r) = (pHigh x).map (· ++ r) := by
  unfold pHigh
  rw [pOpt_local 46 rfl x r hr]
  dsimp only
  rw [pOpt_local 46 rfl _ r hr]
  dsimp only
  split
  · split
    · rw [pNum_local _ r hr]
      cases pNum (pOpt 46 (pOpt 46 x).2).2 with
      | none => rfl
      | some p => rfl
    · rfl
  · rfl
theorem pEq_local (x r : List UInt8) (hr : Stop r) : pEq (x ++ r) = (pEq x).map (· ++ r) := by
  unfold pEq
  rw [pOpt_local 33 rfl x r hr]
  dsimp only
  rw [pOpt_local 61 rfl _ r hr]
  dsimp only
  split
  · rw [pNum_local _ r hr]
    cases pNum (pOpt 61 (pOpt 33 x).2).2 with
    | none => rfl
    | some p => exact pHigh_local _ r hr
  · rfl
theorem pTest_local (x r : List UInt8) (hx : x ≠ []) (hr : Stop r) : pTest (x ++ r) = (pTest x).map (· ++ r) := by
  cases x with
  | nil => exact absurd rfl hx
  | cons c x =>
    show (if isOf c = true then (match pMod (x ++ r) with | none => none | some q => pEq q) else none) = Option.map _ (if isOf c = true then (match pMod x with | none => none | some q => pEq q) else none)
    rw [pMod_local x r hr]
    split
    · cases pMod x with
      | none => rfl
      | some q => exact pEq_local q r hr
    · rfl
theorem pTest_nil (r : List UInt8) (hr : Stop r) : pTest r = none := by
  rcases hr with rfl | ⟨c, q, rfl, hc⟩
  · rfl
  · show (if isOf c = true then _ else none) = none
    rw [if_neg]
    intro h
    unfold isSep at hc
    rcases (Bool.or_eq_true _ _).mp hc with h' | h'
    · rw [beq_iff_eq.1 h'] at h; exact absurd h (by decide)
    · rw [beq_iff_eq.1 h'] at h; exact absurd h (by decide)
/-! ### what is left is shorter -/
theorem pOpt_len (b : UInt8) (l : List UInt8) : (pOpt b l).2.length ≤ l.length := by
  unfold pOpt
  split
  · exact Nat.le_refl _
  · split
    · simp
    · exact Nat.le_refl _
theorem pNum_len {l q : List UInt8} {m : Nat} (h : pNum l = some (m, q)) : q.length < l.length := by
  unfold pNum at h
  split at h
  · cases h
  · rename_i c r
    split at h
    · cases h
    · split at h
      · cases h; simp
      · split at h
        · cases h
          rename_i hd _ _
          have : isDg c = true := by simpa using hd
          rw [List.dropWhile_cons, if_pos this, List.length_cons]
          have := (List.dropWhile_sublist (l := r) isDg).length_le
          omega
        · cases h
theorem pTest_len {l q : List UInt8} (h : pTest l = some q) : q.length < l.length := by
  unfold pTest at h
  split at h
  · cases h
  · rename_i c r
    split at h
    · split at h
      · cases h
      · rename_i q1 hq1
        have h1 : q1.length ≤ r.length := by
          unfold pMod at hq1
          split at hq1
          · split at hq1
            · cases hq1
            · rename_i m q2 h2
              split at hq1
              · cases hq1
              · cases hq1
                have := pNum_len h2
                have := pOpt_len 37 r
                omega
          · cases hq1; exact Nat.le_refl _
        have h2 : q.length ≤ q1.length := by
          unfold pEq at h
          split at h
          · split at h
            · cases h
            · rename_i m q2 h2
              have a1 := pNum_len h2
              have a2 := pOpt_len 61 (pOpt 33 q1).2
              have a3 := pOpt_len 33 q1
              have h3 : q.length ≤ q2.length := by
                unfold pHigh at h
                split at h
                · split at h
                  · split at h
                    · cases h
                    · rename_i m3 q3 h3
                      cases h
                      have b1 := pNum_len h3
                      have b2 := pOpt_len 46 (pOpt 46 q2).2
                      have b3 := pOpt_len 46 q2
                      omega
                  · cases h
                · cases h; exact Nat.le_refl _
              omega
          · cases h
        rw [List.length_cons]
        omega
    · cases h
/-! ### a rule -/
/-- The reference's: test by test. -/
def pRule (l : List UInt8) : Bool :=
  match h : pTest l with
  | none => false
  | some [] => true
  | some (c :: q) => if isSep c = true then pRule q else false
termination_by l.length
decreasing_by have := pTest_len h; rw [List.length_cons] at this; omega
/-- The program's: piece by piece. -/
def okI (x : List UInt8) : Bool := pTest x == some []
def allP : List UInt8 → List UInt8 → Bool
  | cur, [] => okI cur
  | cur, c :: r => if isSep c = true then okI cur && allP [] r else allP (cur ++ [c]) r
theorem pRule_none {l : List UInt8} (h : pTest l = none) : pRule l = false := by
  rw [pRule]; split
  · rfl
  · rename_i h2; rw [h] at h2; cases h2
  · rename_i h2; rw [h] at h2; cases h2
theorem pRule_end {l : List UInt8} (h : pTest l = some []) : pRule l = true := by
  rw [pRule]; split
  · rename_i h2; rw [h] at h2; cases h2
  · rfl
  · rename_i h2; rw [h] at h2; cases h2
theorem pRule_on {l q : List UInt8} {c : UInt8} (h : pTest l = some (c :: q)) : pRule l = if isSep c = true then pRule q else false := by
  rw [pRule]; split
  · rename_i h2; rw [h] at h2; cases h2
  · rename_i h2; rw [h] at h2; cases h2
  · rename_i h2; rw [h] at h2; cases h2; rfl
def noSep (x : List UInt8) : Prop := ∀ c ∈ x, isSep c = false
theorem pTest_suf {l q : List UInt8} (h : pTest l = some q) : ∀ c ∈ q, c ∈ l := by
  have hO : ∀ (b : UInt8) (l : List UInt8), ∀ c ∈ (pOpt b l).2, c ∈ l := by
    intro b l c hc
    unfold pOpt at hc
    split at hc
    · exact hc
    · split at hc
      · exact List.mem_cons_of_mem _ hc
      · exact hc
  have hN : ∀ {l q : List UInt8} {m : Nat}, pNum l = some (m, q) → ∀ c ∈ q, c ∈ l := by
    intro l q m h c hc
    unfold pNum at h
    split at h
    · cases h
    · split at h
      · cases h
      · split at h
        · cases h; exact List.mem_cons_of_mem _ hc
        · split at h
          · cases h
            exact (List.dropWhile_sublist isDg).subset hc
          · cases h
  intro c hc
  unfold pTest at h
  split at h
  · cases h
  · rename_i c0 r
    refine List.mem_cons_of_mem _ ?_
    split at h
    · split at h
      · cases h
      · rename_i q1 hq1
        have h1 : c ∈ q1 := by
          unfold pEq at h
          split at h
          · split at h
            · cases h
            · rename_i m q2 h2
              refine hO 33 _ c (hO 61 _ c (hN h2 c ?_))
              unfold pHigh at h
              split at h
              · split at h
                · split at h
                  · cases h
                  · rename_i m3 q3 h3
                    cases h
                    exact hO 46 _ c (hO 46 _ c (hN h3 c hc))
                · cases h
              · cases h; exact hc
          · cases h
        unfold pMod at hq1
        split at hq1
        · split at hq1
          · cases hq1
          · rename_i m q2 h2
            split at hq1
            · cases hq1
            · cases hq1; exact hO 37 _ c (hN h2 c h1)
        · cases hq1; exact h1
    · cases h
/-- Test by test, or piece by piece: the same. -/
theorem rule_eq : ∀ (l cur : List UInt8), noSep cur → pRule (cur ++ l) = allP cur l := by
  intro l
  induction l with
  | nil =>
    intro cur hc
    rw [List.append_nil]
    show _ = okI cur
    unfold okI
    cases h : pTest cur with
    | none => rw [pRule_none h]; rfl
    | some q =>
      cases q with
      | nil => rw [pRule_end h]; rfl
      | cons c q =>
        rw [pRule_on h, if_neg (by rw [hc c (pTest_suf h c (List.mem_cons_self ..))]; simp)]
        rfl
  | cons c r ih =>
    intro cur hc
    show _ = if isSep c = true then okI cur && allP [] r else allP (cur ++ [c]) r
    by_cases hs : isSep c = true
    · rw [if_pos hs, ← ih [] (fun c hc => by cases hc), List.nil_append]
      have hst : Stop (c :: r) := .inr ⟨c, r, rfl, hs⟩
      cases cur with
      | nil =>
        rw [List.nil_append, pRule_none (pTest_nil _ hst)]
        rfl
      | cons c0 cur =>
        have hl := pTest_local (c0 :: cur) (c :: r) (by simp) hst
        unfold okI
        cases h : pTest (c0 :: cur) with
        | none =>
          rw [h] at hl
          rw [pRule_none hl]; rfl
        | some q =>
          rw [h] at hl
          replace hl : pTest (c0 :: cur ++ c :: r) = some (q ++ c :: r) := hl
          cases q with
          | nil => rw [pRule_on hl, if_pos hs]; rfl
          | cons c1 q =>
            rw [pRule_on hl, if_neg (by rw [hc c1 (pTest_suf h c1 (List.mem_cons_self ..))]; simp)]
            rfl
    · rw [if_neg hs, ← ih (cur ++ [c]) ?_, List.append_assoc]
      · rfl
      · intro d hd
        rcases List.mem_append.1 hd with h | h
        · exact hc d h
        · rw [List.mem_singleton.1 h]; simpa using hs
end Go.Proofs.YtfafjbolmeimmaaDoor.P
