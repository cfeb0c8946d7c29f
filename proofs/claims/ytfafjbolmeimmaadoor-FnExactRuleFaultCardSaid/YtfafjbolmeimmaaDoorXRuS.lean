/- strings.Split at one byte, twice: the pieces of a rule. -/
import Derived.Test.YtfafjbolmeimmaaDoorXRuP
import Derived.Lib.Split
namespace Go.Proofs.YtfafjbolmeimmaaDoor.P
open Go.RowKit Go.Proofs.YtfafjbolmeimmaaDoorW.PrintWords
set_option linter.unusedVariables false
def consHead (c : UInt8) : List (List UInt8) → List (List UInt8)
  | [] => []
  | h :: t => (c :: h) :: t
/-- Cut at each byte b. -/
def sp (b : UInt8) : List UInt8 → List (List UInt8)
  | [] => [[]]
  | c :: r => if c = b then [] :: sp b r else consHead c (sp b r)
def spB : List UInt8 → List (List UInt8)
  | [] => [[]]
  | c :: r => if isSep c = true then [] :: spB r else consHead c (spB r)
theorem sp_ne (b : UInt8) (l : List UInt8) : ∃ h t, sp b l = h :: t := by
  induction l with
  | nil => exact ⟨[], [], rfl⟩
  | cons c r ih =>
    obtain ⟨h, t, e⟩ := ih
    show ∃ h t, (if c = b then [] :: sp b r else consHead c (sp b r)) = h :: t
    rw [e]
    split
    · exact ⟨_, _, rfl⟩
    · exact ⟨_, _, rfl⟩
theorem spB_eq (l : List UInt8) : (sp 124 l).flatMap (sp 38) = spB l := by
  induction l with
  | nil => rfl
  | cons c r ih =>
    obtain ⟨h, t, e⟩ := sp_ne 124 r
    rw [e, List.flatMap_cons] at ih
    show (if c = 124 then [] :: sp 124 r else consHead c (sp 124 r)).flatMap (sp 38) = if isSep c = true then [] :: spB r else consHead c (spB r)
    rw [← ih, e]
    by_cases h1 : c = 124
    · subst h1
      rw [if_pos rfl, if_pos (show isSep 124 = true from rfl)]
      rfl
    · rw [if_neg h1]
      show sp 38 (c :: h) ++ t.flatMap (sp 38) = _
      obtain ⟨h2, t2, e2⟩ := sp_ne 38 h
      by_cases h3 : c = 38
      · subst h3
        rw [if_pos (show isSep 38 = true from rfl)]
        show (if (38 : UInt8) = 38 then [] :: sp 38 h else consHead 38 (sp 38 h)) ++ _ = _
        rw [if_pos rfl]
        rfl
      · have hs : isSep c = false := by unfold isSep; rw [beq_eq_false_iff_ne.2 h1, beq_eq_false_iff_ne.2 h3]; rfl
        rw [if_neg (by rw [hs]; simp)]
        show (if c = 38 then [] :: sp 38 h else consHead c (sp 38 h)) ++ _ = _
        rw [if_neg h3, e2]
        rfl
theorem index_cons (b c : UInt8) (r : List UInt8) : Go.Lib.index (c :: r) [b] = if c = b then 0 else if Go.Lib.index r [b] = -1 then -1 else Go.Lib.index r [b] + 1 := by
  have : [b].isPrefixOf (c :: r) = (b == c) := by simp [List.isPrefixOf]
  show (if [b].isPrefixOf (c :: r) then 0 else if Go.Lib.index r [b] == -1 then -1 else Go.Lib.index r [b] + 1) = _
  rw [this]
  by_cases h : c = b
  · subst h; simp
  · have hb : ¬ b = c := fun e => h e.symm
    rw [if_neg h, if_neg (by simpa using hb)]
    by_cases h2 : Go.Lib.index r [b] = -1
    · rw [if_pos h2, if_pos (by rw [h2]; rfl)]
    · rw [if_neg h2, if_neg (by simpa using h2)]
/-- strings.Split at one byte. -/
theorem split_one (b : UInt8) (l : List UInt8) : Go.Lib.split l [b] = sp b l := by
  unfold Go.Lib.split
  induction l with
  | nil => rfl
  | cons c r ih =>
    have hi := index_cons b c r
    show _ = if c = b then [] :: sp b r else consHead c (sp b r)
    by_cases h : c = b
    · rw [if_pos h] at hi ⊢
      rw [Go.Lib.count_hit (i := 0) (by simp) hi, Nat.add_comm, ← ih]
      rw [show Go.Lib.splitK [b] 0 (Go.Lib.count (List.drop (0 + [b].length) (c :: r)) [b] + 1) (c :: r) = if Go.Lib.index (c :: r) [b] == -1 then [c :: r] else (c :: r).take ((Go.Lib.index (c :: r) [b]).toNat + 0) :: Go.Lib.splitK [b] 0 (Go.Lib.count (List.drop (0 + [b].length) (c :: r)) [b]) ((c :: r).drop ((Go.Lib.index (c :: r) [b]).toNat + [b].length)) from rfl]
      rw [if_neg (by rw [hi]; decide), hi]
      rfl
    · rw [if_neg h] at hi ⊢
      by_cases h2 : Go.Lib.index r [b] = -1
      · rw [if_pos h2] at hi
        rw [Go.Lib.count_miss hi]
        rw [Go.Lib.count_miss h2] at ih
        rw [← ih]
        rfl
      · rw [if_neg h2] at hi
        have hg := Go.Lib.index_ge r [b]
        obtain ⟨i, hii⟩ : ∃ i : Nat, Go.Lib.index r [b] = i := ⟨(Go.Lib.index r [b]).toNat, by omega⟩
        rw [hii] at hi
        rw [Go.Lib.count_hit (i := i + 1) (by simp) (by rw [hi]; rfl), Nat.add_comm]
        rw [Go.Lib.count_hit (i := i) (by simp) hii, Nat.add_comm] at ih
        rw [← ih]
        unfold Go.Lib.splitK
        rw [if_neg (by rw [hi]; simp; omega), if_neg (by rw [hii]; simp), hi, hii]
        show _ = consHead c (_ :: _)
        unfold consHead
        have e1 : ((i : Int) + 1).toNat = i + 1 := by omega
        rw [e1, Int.toNat_natCast]
        have e2 : (c :: r).drop (i + 1 + [b].length) = r.drop (i + [b].length) := by rw [show i + 1 + [b].length = (i + [b].length) + 1 by omega]; rfl
        rw [e2]
        rfl
/-- All pieces are tests. -/
theorem allP_sp (cur l : List UInt8) : ∃ h t, spB l = h :: t ∧ allP cur l = ((cur ++ h) :: t).all okI := by
  induction l generalizing cur with
  | nil => exact ⟨[], [], rfl, by show okI cur = _; rw [List.append_nil]; simp⟩
  | cons c r ih =>
    show ∃ h t, (if isSep c = true then [] :: spB r else consHead c (spB r)) = h :: t ∧ (if isSep c = true then okI cur && allP [] r else allP (cur ++ [c]) r) = _
    by_cases hs : isSep c = true
    · rw [if_pos hs, if_pos hs]
      obtain ⟨h, t, e, e2⟩ := ih []
      refine ⟨[], h :: t, by rw [e], ?_⟩
      rw [e2, List.append_nil]
      rfl
    · rw [if_neg hs, if_neg hs]
      obtain ⟨h, t, e, e2⟩ := ih (cur ++ [c])
      refine ⟨c :: h, t, by rw [e]; rfl, ?_⟩
      rw [e2, List.append_assoc]
      rfl
/-- The reference's rule is that all pieces of all rows are tests. -/
theorem rule_split (l : List UInt8) : pRule l = ((Go.Lib.split l [124]).all fun row => (Go.Lib.split row [38]).all okI) := by
  have h1 := rule_eq l [] (fun c hc => by cases hc)
  rw [List.nil_append] at h1
  obtain ⟨h, t, e, e2⟩ := allP_sp [] l
  rw [h1, e2, List.nil_append, ← e, ← spB_eq, split_one]
  rw [List.all_flatMap]
  congr 1
  funext row
  rw [split_one]
end Go.Proofs.YtfafjbolmeimmaaDoor.P
