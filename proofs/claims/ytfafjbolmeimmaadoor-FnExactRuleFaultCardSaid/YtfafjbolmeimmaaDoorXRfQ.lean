/- impl's readTest in plain lists of bytes, and that it reads what the reference reads. -/
import Derived.Test.YtfafjbolmeimmaaDoorXRuN
import Derived.Lib.Strings
import Derived.Lib.Bytealg
namespace Go.Proofs.YtfafjbolmeimmaaDoor.P
open Go.RowKit Go.Proofs.YtfafjbolmeimmaaDoorW.PrintWords
set_option linter.unusedVariables false
/-- The program's number: is it one; what it is. -/
def numI (l : List UInt8) : Bool × Nat :=
  (match l.takeWhile isDg with | [] => false | c :: r => decide ((c = 48 → r = []) ∧ valD (l.takeWhile isDg) ≤ 1000000), valD (l.takeWhile isDg))
abbrev TI := Int × Int × Bool × Int × Int
def tI5 (c m : Int) (n : Bool) (lo hi : Int) (r : List UInt8) : Option TI := if r = [] then some (c, m, n, lo, hi) else none
def tI4 (c m : Int) (n : Bool) (lo : Int) (r : List UInt8) : Option TI :=
  if Lib.hasPrefix r [46, 46] = true then (if (numI (Lib.trimPrefix r [46, 46])).1 = true then tI5 c m n lo (numI (Lib.trimPrefix r [46, 46])).2 ((Lib.trimPrefix r [46, 46]).dropWhile isDg) else none) else tI5 c m n lo lo r
def tI3 (c m : Int) (n : Bool) (r : List UInt8) : Option TI :=
  if Lib.hasPrefix r [61] = true then (if (numI (r.drop 1)).1 = true then tI4 c m n (numI (r.drop 1)).2 ((r.drop 1).dropWhile isDg) else none) else none
def tI2 (c m : Int) (r : List UInt8) : Option TI := tI3 c m (Lib.hasPrefix r [33]) (Lib.trimPrefix r [33])
def tI1 (c : Int) (r : List UInt8) : Option TI :=
  if Lib.hasPrefix r [37] = true then (if (numI (Lib.trimPrefix r [37])).1 = true ∧ (numI (Lib.trimPrefix r [37])).2 ≠ 0 then tI2 c (numI (Lib.trimPrefix r [37])).2 ((Lib.trimPrefix r [37]).dropWhile isDg) else none) else tI2 c 0 r
def tI : List UInt8 → Option TI
  | [] => none
  | c :: r => if isOf c = true then tI1 c.toNat r else none
theorem pre_one (b : UInt8) (l : List UInt8) : Lib.hasPrefix l [b] = (pOpt b l).1 ∧ Lib.trimPrefix l [b] = (pOpt b l).2 := by
  cases l with
  | nil => exact ⟨rfl, rfl⟩
  | cons c r =>
    have h1 : Lib.hasPrefix (c :: r) [b] = (b == c) := by unfold Lib.hasPrefix; simp [List.isPrefixOf]
    have e : pOpt b (c :: r) = if c = b then (true, r) else (false, c :: r) := rfl
    unfold Lib.trimPrefix
    rw [h1, e]
    by_cases h : c = b
    · subst h; simp
    · have h2 : (b == c) = false := beq_eq_false_iff_ne.2 (fun x => h x.symm)
      rw [h2, if_neg h]
      exact ⟨rfl, rfl⟩
/-- The number read by the one, and by the other: alike, but for a 0 ahead of more digits. -/
theorem num_same (l : List UInt8) : ((numI l).1 = true ∧ pNum l = some ((numI l).2, l.dropWhile isDg)) ∨ ((numI l).1 = false ∧ (pNum l = none ∨ ∃ c r, pNum l = some (0, c :: r) ∧ isDg c = true)) := by
  cases l with
  | nil => exact .inr ⟨rfl, .inl rfl⟩
  | cons c r =>
    rw [pNum_cons]
    unfold numI
    dsimp only
    by_cases hd : isDg c = true
    · rw [if_neg (by simp [hd]), List.takeWhile_cons, if_pos hd, List.dropWhile_cons, if_pos hd]
      by_cases h0 : c = 48
      · rw [if_pos h0]
        cases hr : r with
        | nil => subst h0; left; exact ⟨rfl, rfl⟩
        | cons c2 r2 =>
          by_cases hd2 : isDg c2 = true
          · right
            refine ⟨decide_eq_false ?_, .inr ⟨c2, r2, rfl, hd2⟩⟩
            rintro ⟨h, _⟩
            have := h h0
            rw [List.takeWhile_cons, if_pos hd2] at this
            cases this
          · left
            rw [List.takeWhile_cons, if_neg hd2, List.dropWhile_cons, if_neg hd2]
            subst h0
            exact ⟨rfl, rfl⟩
      · rw [if_neg h0]
        by_cases hv : valD (c :: r.takeWhile isDg) ≤ 1000000
        · left
          rw [if_pos hv]
          exact ⟨decide_eq_true ⟨fun h => absurd h h0, hv⟩, rfl⟩
        · right
          rw [if_neg hv]
          exact ⟨decide_eq_false (fun h => hv h.2), .inl rfl⟩
    · right
      rw [if_pos (by simpa using hd), List.takeWhile_cons, if_neg hd]
      exact ⟨rfl, .inl rfl⟩
theorem dg_ne {c : UInt8} (h : isDg c = true) : c ≠ 46 ∧ c ≠ 61 ∧ c ≠ 33 := by
  have := dg_of c h
  refine ⟨?_, ?_, ?_⟩ <;> (rintro rfl; revert this; decide)
/-- What is left is nothing. -/
def fin (o : Option (List UInt8)) : Bool := o == some []
theorem high_same (c m : Int) (n : Bool) (lo : Int) (r : List UInt8) : (tI4 c m n lo r).isSome = fin (pHigh r) := by
  have five : ∀ (hi : Int) (q : List UInt8), (tI5 c m n lo hi q).isSome = fin (some q) := by
    intro hi q
    unfold tI5 fin
    cases q with
    | nil => rfl
    | cons a b => rfl
  unfold tI4 pHigh
  cases r with
  | nil => rfl
  | cons a r =>
    have e1 : pOpt 46 (a :: r) = if a = 46 then (true, r) else (false, a :: r) := rfl
    have h1 : Lib.hasPrefix (a :: r) [46, 46] = (decide (a = 46) && Lib.hasPrefix r [46]) := by
      unfold Lib.hasPrefix
      show (46 == a && _) = _
      congr 1
      rw [Bool.eq_iff_iff, beq_iff_eq, decide_eq_true_iff]
      exact ⟨fun h => h.symm, fun h => h.symm⟩
    have h2 := pre_one 46 r
    unfold Lib.trimPrefix
    rw [h1, e1, h2.1]
    by_cases ha : a = 46
    · rw [if_pos ha, decide_eq_true ha, Bool.true_and]
      dsimp only
      rw [if_pos rfl]
      cases hb : (pOpt 46 r).1 with
      | false =>
        rw [if_neg (by simp), if_neg (by simp), five]
        rfl
      | true =>
        rw [if_pos rfl, if_pos rfl, if_pos rfl]
        have e3 : (a :: r).drop [46, 46].length = (pOpt 46 r).2 := by
          cases r with
          | nil => cases hb
          | cons b r =>
            have e4 : pOpt 46 (b :: r) = if b = 46 then (true, r) else (false, b :: r) := rfl
            rw [e4] at hb ⊢
            by_cases hb2 : b = 46
            · rw [if_pos hb2]; rfl
            · rw [if_neg hb2] at hb; cases hb
        rw [show (46 :: [46] : List UInt8).length = [46, 46].length from rfl] at *
        rw [e3]
        rcases num_same (pOpt 46 r).2 with ⟨h3, h4⟩ | ⟨h3, h4⟩
        · rw [if_pos h3, h4, five]
        · rw [if_neg (by rw [h3]; simp)]
          rcases h4 with h4 | ⟨b, q, h4, _⟩
          · rw [h4]; rfl
          · rw [h4]; rfl
    · rw [if_neg ha, decide_eq_false ha, Bool.false_and]
      rw [if_neg (by simp), if_neg (by simp), five]
theorem eq_same (c m : Int) (r : List UInt8) : (tI2 c m r).isSome = fin (pEq r) := by
  unfold tI2 tI3 pEq
  rw [(pre_one 33 r).2, (pre_one 61 _).1]
  cases hb : (pOpt 61 (pOpt 33 r).2).1 with
  | false => rw [if_neg (by simp), if_neg (by simp)]; rfl
  | true =>
    rw [if_pos rfl, if_pos rfl]
    have e3 : (pOpt 33 r).2.drop 1 = (pOpt 61 (pOpt 33 r).2).2 := by
      generalize (pOpt 33 r).2 = q at hb ⊢
      cases q with
      | nil => cases hb
      | cons b q =>
        have e4 : pOpt 61 (b :: q) = if b = 61 then (true, q) else (false, b :: q) := rfl
        rw [e4] at hb ⊢
        by_cases hb2 : b = 61
        · rw [if_pos hb2]; rfl
        · rw [if_neg hb2] at hb; cases hb
    rw [e3]
    rcases num_same (pOpt 61 (pOpt 33 r).2).2 with ⟨h3, h4⟩ | ⟨h3, h4⟩
    · rw [if_pos h3, h4, high_same]
    · rw [if_neg (by rw [h3]; simp)]
      rcases h4 with h4 | ⟨b, q, h4, hd⟩
      · rw [h4]; rfl
      · rw [h4]
        have : pHigh (b :: q) = some (b :: q) := by
          unfold pHigh
          have e1 : pOpt 46 (b :: q) = if b = 46 then (true, q) else (false, b :: q) := rfl
          rw [e1, if_neg (dg_ne hd).1, if_neg (by simp)]
        show false = fin (pHigh (b :: q))
        rw [this]
        rfl
theorem mod_same (c : Int) (r : List UInt8) : (tI1 c r).isSome = fin (match pMod r with | none => none | some q => pEq q) := by
  unfold tI1 pMod
  rw [(pre_one 37 r).1, (pre_one 37 r).2]
  cases hb : (pOpt 37 r).1 with
  | false => rw [if_neg (by simp), if_neg (by simp), eq_same]
  | true =>
    rw [if_pos rfl, if_pos rfl]
    rcases num_same (pOpt 37 r).2 with ⟨h3, h4⟩ | ⟨h3, h4⟩
    · rw [h4]
      dsimp only
      by_cases h0 : (numI (pOpt 37 r).2).2 = 0
      · rw [if_neg (fun h => h.2 h0), if_pos h0]; rfl
      · rw [if_pos ⟨h3, h0⟩, if_neg h0, eq_same]
    · rw [if_neg (fun h => by rw [h3] at h; exact absurd h.1 (by simp))]
      rcases h4 with h4 | ⟨b, q, h4, _⟩
      · rw [h4]; rfl
      · rw [h4]; rfl
/-- Both read alike. -/
theorem tI_ok (l : List UInt8) : (tI l).isSome = okI l := by
  cases l with
  | nil => rfl
  | cons c r =>
    show (if isOf c = true then tI1 c.toNat r else none).isSome = fin (if isOf c = true then (match pMod r with | none => none | some q => pEq q) else none)
    cases isOf c with
    | false => rfl
    | true => exact mod_same _ r
end Go.Proofs.YtfafjbolmeimmaaDoor.P
