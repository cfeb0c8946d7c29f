/- The kinds of points: a plain function for the reference's l01Known, and what is checked of the program's kind at each of the low points. -/
import Derived.Test.YtbppeepihlajoaaDoorM9
import Derived.Test.YtbppeepihlajoaaDoorM1
import Derived.Test.YtbppeepihlajoaaDoorXEv
namespace Go.Proofs.YtbppeepihlajoaaDoor.P
open Go.RowKit Go.Proofs.YtbppeepihlajoaaDoorW.PrintWords Go.Proofs.YtbppeepihlajoaaDoorW.PrintMore
set_option linter.unusedVariables false
abbrev KRow := S172
/-- The row that a number is in. -/
def rowIn (p : Int) : List KRow → Option KRow
  | [] => none
  | r :: t => if p ≥ r.f0 then (if p ≤ r.f1 then some r else rowIn p t) else rowIn p t
def kdHi : List KRow := [⟨9728, 9753, 4, 1⟩, ⟨9984, 10009, 10, 0⟩, ⟨10016, 10025, 8, 0⟩, ⟨10032, 10035, 10, 0⟩, ⟨12288, 23459, 7, 7⟩, ⟨24576, 26623, 7, 9⟩]
def kdLow : List KRow := [⟨0, 31, 1, 0⟩, ⟨32, 32, 2, 0⟩, ⟨48, 57, 8, 0⟩, ⟨65, 90, 4, 1⟩, ⟨97, 122, 5, 1⟩, ⟨33, 126, 9, 0⟩, ⟨127, 159, 1, 0⟩, ⟨160, 160, 2, 0⟩, ⟨173, 173, 11, 0⟩, ⟨161, 191, 10, 0⟩, ⟨1280, 1311, 7, 5⟩, ⟨1360, 1369, 8, 5⟩, ⟨1536, 1567, 7, 6⟩, ⟨1568, 1579, 3, 6⟩, ⟨1584, 1585, 3, 6⟩, ⟨1616, 1625, 8, 6⟩, ⟨1792, 1810, 7, 7⟩, ⟨1824, 1844, 7, 7⟩, ⟨1857, 1883, 7, 7⟩, ⟨2048, 2095, 7, 8⟩, ⟨4096, 4159, 3, 0⟩, ⟨7680, 7748, 10, 0⟩, ⟨7760, 7785, 10, 0⟩, ⟨7936, 7947, 11, 0⟩, ⟨7953, 7954, 11, 0⟩, ⟨8064, 8064, 2, 0⟩]
def kdCased : List KRow := [⟨0, 31, 4, 0⟩, ⟨32, 63, 5, 0⟩, ⟨64, 67, 4, 0⟩, ⟨68, 71, 6, 0⟩, ⟨72, 75, 5, 0⟩, ⟨80, 89, 8, 0⟩, ⟨96, 97, 5, 0⟩]
/-- A point's category and script. -/
def kd (p : Int) : Int × Int :=
  if 512 ≤ p ∧ p < 1280 then (match rowIn (p % 256) kdCased with | some r => (r.f2, p / 256) | none => (0, 0))
  else if 8192 ≤ p ∧ p < 9728 then (if p % 512 ≥ 416 then (0, 0) else if p % 512 < 208 then (4, 1) else (5, 1))
  else (match rowIn p (kdLow ++ kdHi) with | some r => (r.f2, r.f3) | none => (0, 0))
theorem rowIn_skip {p : Int} {r : KRow} {t : List KRow} (h : r.f1 < p) : rowIn p (r :: t) = rowIn p t := by
  show (if p ≥ r.f0 then (if p ≤ r.f1 then some r else rowIn p t) else rowIn p t) = rowIn p t
  rw [if_neg (show ¬ p ≤ r.f1 by omega), ite_self]
theorem rowIn_skips {p : Int} : ∀ (l t : List KRow), (∀ r ∈ l, r.f1 < p) → rowIn p (l ++ t) = rowIn p t
  | [], _, _ => rfl
  | r :: l, t, h => by
    rw [List.cons_append, rowIn_skip (h r (List.mem_cons_self ..)), rowIn_skips l t fun x hx => h x (List.mem_cons_of_mem _ hx)]
theorem kd_hi {p : Int} (h : 9728 ≤ p) : kd p = match rowIn p kdHi with | some r => (r.f2, r.f3) | none => (0, 0) := by
  unfold kd
  rw [if_neg (by omega), if_neg (by omega)]
  have e : rowIn p (kdLow ++ kdHi) = rowIn p kdHi := rowIn_skips _ _ fun r hr => by
    have : ∀ r ∈ kdLow, r.f1 < 9728 := by decide
    have := this r hr
    omega
  rw [e]
theorem known_l1 (p : Int) (l : List KRow) (hl : l.length < 1000) : ∀ (d i : Nat) (k : Nat), l.length - i ≤ d → d < k → spec_l01Known.l1 k p l (i : Int) = some (match rowIn p (l.drop i) with | some r => (r.f2, r.f3) | none => (0, 0))
  | d, i, 0, _, hk => by omega
  | d, i, k + 1, hd, hk => by
    simp only [spec_l01Known.l1]
    by_cases hi : i < l.length
    · rw [if_pos (by omega), if_pos (by omega), List.drop_eq_getElem_cons hi, w_succ i (by omega)]
      have er : rd_T172 l (i : Int) = l[i] := by simp [rd_T172, hi]
      rw [er]
      have IH := known_l1 p l hl (d - 1) (i + 1) k (by omega) (by omega)
      simp only [rowIn]
      by_cases h1 : p ≥ l[i].f0
      · rw [if_pos h1, if_pos h1]
        by_cases h2 : p ≤ l[i].f1
        · rw [if_pos h2, if_pos h2]
        · rw [if_neg h2, if_neg h2, IH]
      · rw [if_neg h1, if_neg h1, IH]
    · rw [if_neg (by omega), List.drop_eq_nil_of_le (by omega)]
      rfl
theorem known_l0 (p : Int) (hp : 0 ≤ p) (hp2 : p < 1000000000) (l : List KRow) (hl : l.length < 1000) : ∀ (d i : Nat) (k : Nat), l.length - i ≤ d → d < k → spec_l01Known.l0 k p l (i : Int) = some (match rowIn (p % 256) (l.drop i) with | some r => (r.f2, p / 256) | none => (0, 0))
  | d, i, 0, _, hk => by omega
  | d, i, k + 1, hd, hk => by
    simp only [spec_l01Known.l0]
    by_cases hi : i < l.length
    · rw [if_pos (by omega), if_pos (by omega), List.drop_eq_getElem_cons hi, w_succ i (by omega)]
      have er : rd_T172 l (i : Int) = l[i] := by simp [rd_T172, hi]
      rw [er, Int.tmod_eq_emod_of_nonneg hp, Int.tdiv_eq_ediv_of_nonneg hp, w64 (x := p / 256) (by omega) (by omega)]
      have IH := known_l0 p hp hp2 l hl (d - 1) (i + 1) k (by omega) (by omega)
      simp only [rowIn]
      by_cases h1 : p % 256 ≥ l[i].f0
      · rw [if_pos h1, if_pos h1]
        by_cases h2 : p % 256 ≤ l[i].f1
        · rw [if_pos h2, if_pos h2]
        · rw [if_neg h2, if_neg h2, IH]
      · rw [if_neg h1, if_neg h1, IH]
    · rw [if_neg (by omega), List.drop_eq_nil_of_le (by omega)]
      rfl
/-- The reference's l01Known. -/
theorem known_f (p : Int) (h0 : 0 ≤ p) (h1 : p < 1000000000) (k : Nat) : spec_l01Known.f (k + 40) p = some (kd p) := by
  unfold spec_l01Known.f kd
  have ec : spec_l01Cased.f = some kdCased := rfl
  have er : spec_l01Rows.f = some (kdLow ++ kdHi) := rfl
  by_cases ha : 512 ≤ p ∧ p < 1280
  · rw [if_pos (by omega), if_pos ha, decide_eq_true ha.2]
    simp only [spec_l01Known.j0]
    rw [if_pos trivial, ec, Option.bind_some]
    exact known_l0 p h0 h1 kdCased (by decide) 7 0 _ (by decide) (by omega)
  · rw [if_neg ha]
    have e : (if p ≥ 512 then spec_l01Known.j0 (k + 40) p (decide (p < 1280)) else spec_l01Known.j0 (k + 40) p false) = spec_l01Known.j0 (k + 40) p false := by
      by_cases h : p ≥ 512
      · rw [if_pos h, decide_eq_false (by omega)]
      · rw [if_neg h]
    rw [e]
    simp only [spec_l01Known.j0]
    rw [if_neg (by simp)]
    by_cases hb : 8192 ≤ p ∧ p < 9728
    · rw [if_pos hb, if_pos (by omega), decide_eq_true hb.2]
      simp only [spec_l01Known.j2]
      rw [if_pos trivial, Int.tmod_eq_emod_of_nonneg h0]
      by_cases h2 : p % 512 ≥ 416
      · rw [if_pos h2, if_pos h2]
      · rw [if_neg h2, if_neg h2]
        by_cases h3 : p % 512 < 208
        · rw [if_pos h3, if_pos h3]
        · rw [if_neg h3, if_neg h3]
    · rw [if_neg hb]
      have e2 : (if p ≥ 8192 then spec_l01Known.j2 (k + 39) p (decide (p < 9728)) else spec_l01Known.j2 (k + 39) p false) = spec_l01Known.j2 (k + 39) p false := by
        by_cases h : p ≥ 8192
        · rw [if_pos h, decide_eq_false (by omega)]
        · rw [if_neg h]
      rw [e2]
      simp only [spec_l01Known.j2]
      rw [if_neg (by simp), er, Option.bind_some]
      exact known_l1 p (kdLow ++ kdHi) (by decide) 32 0 _ (by decide) (by omega)
def kdGood (n : Nat) : Bool := impl_kind.f 12 (n : Int) == some (kd n)
def kdAll : Nat → Nat → Bool
  | 0, n => kdGood n
  | d + 1, n => kdAll d n && kdAll d (n + 2 ^ d)
theorem kdAll_get : ∀ (d n m : Nat), kdAll d n = true → n ≤ m → m < n + 2 ^ d → kdGood m = true
  | 0, n, m, h, h1, h2 => by
    obtain rfl : m = n := by omega
    exact h
  | d + 1, n, m, h, h1, h2 => by
    unfold kdAll at h
    obtain ⟨a, b⟩ := Bool.and_eq_true_iff.mp h
    by_cases hm : m < n + 2 ^ d
    · exact kdAll_get d n m a h1 hm
    · exact kdAll_get d (n + 2 ^ d) m b (by omega) (by rw [Nat.pow_succ] at h2; omega)
end Go.Proofs.YtbppeepihlajoaaDoor.P
