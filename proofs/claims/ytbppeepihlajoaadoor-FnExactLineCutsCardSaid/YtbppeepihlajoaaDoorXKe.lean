/- Parts of a proof: words of the print tool that this claim uses, or plain lists. -/
import Derived.Test.YtbppeepihlajoaaDoorL0
import Derived.Test.YtbppeepihlajoaaDoorL15
import Derived.Test.YtbppeepihlajoaaDoorL1
namespace Go.Proofs.YtbppeepihlajoaaDoorW.PrintWords
open Go.RowKit
set_option linter.unusedVariables false
theorem Ev.pos {α : Type} {c : Prop} [Decidable c] {a b : Nat → Option α} {r : α} (h : c) (k : Ev a r) : Ev (fun n => if c then a n else b n) r :=
 Ev.congr (fun _ => if_pos h) k
theorem Ev.neg {α : Type} {c : Prop} [Decidable c] {a b : Nat → Option α} {r : α} (h : ¬ c) (k : Ev b r) : Ev (fun n => if c then a n else b n) r :=
 Ev.congr (fun _ => if_neg h) k
theorem Ev.done {α : Type} {g : Option α} {r : α} (h : g = some r) : Ev (fun _ => g) r := ⟨0, fun _ _ => h⟩
theorem Ev.to {α : Type} {g : Nat → Option α} {r r' : α} (h : Ev g r) (e : r = r') : Ev g r' := e ▸ h
theorem w64 {x : Int} (h0 : -9223372036854775808 ≤ x) (h1 : x ≤ 9223372036854775807) : wrap64 x = x := by unfold wrap64; omega
theorem w_succ (n : Nat) (h : n ≤ 1152921504606846976) : wrap64 ((n : Int) + 1) = ((n + 1 : Nat) : Int) := by
 rw [w64 (by omega) (by omega)]
 omega
end Go.Proofs.YtbppeepihlajoaaDoorW.PrintWords
namespace Go.Proofs.YtbppeepihlajoaaDoor.P
open Go.RowKit Go.Proofs.YtbppeepihlajoaaDoorW.PrintWords Go.Proofs.YtbppeepihlajoaaDoorW.PrintMore
set_option linter.unusedVariables false
abbrev KRow := S172
def rowIn (p : Int) : List KRow → Option KRow
 | [] => none
 | r :: t => if p ≥ r.f0 then (if p ≤ r.f1 then some r else rowIn p t) else rowIn p t
def kdHi : List KRow := [⟨9728, 9753, 4, 1⟩, ⟨9984, 10009, 10, 0⟩, ⟨10016, 10025, 8, 0⟩, ⟨10032, 10035, 10, 0⟩, ⟨12288, 23459, 7, 7⟩, ⟨24576, 26623, 7, 9⟩]
def kdLow : List KRow := [⟨0, 31, 1, 0⟩, ⟨32, 32, 2, 0⟩, ⟨48, 57, 8, 0⟩, ⟨65, 90, 4, 1⟩, ⟨97, 122, 5, 1⟩, ⟨33, 126, 9, 0⟩, ⟨127, 159, 1, 0⟩, ⟨160, 160, 2, 0⟩, ⟨173, 173, 11, 0⟩, ⟨161, 191, 10, 0⟩, ⟨1280, 1311, 7, 5⟩, ⟨1360, 1369, 8, 5⟩, ⟨1536, 1567, 7, 6⟩, ⟨1568, 1579, 3, 6⟩, ⟨1584, 1585, 3, 6⟩, ⟨1616, 1625, 8, 6⟩, ⟨1792, 1810, 7, 7⟩, ⟨1824, 1844, 7, 7⟩, ⟨1857, 1883, 7, 7⟩, ⟨2048, 2095, 7, 8⟩, ⟨4096, 4159, 3, 0⟩, ⟨7680, 7748, 10, 0⟩, ⟨7760, 7785, 10, 0⟩, ⟨7936, 7947, 11, 0⟩, ⟨7953, 7954, 11, 0⟩, ⟨8064, 8064, 2, 0⟩]
def kdCased : List KRow := [⟨0, 31, 4, 0⟩, ⟨32, 63, 5, 0⟩, ⟨64, 67, 4, 0⟩, ⟨68, 71, 6, 0⟩, ⟨72, 75, 5, 0⟩, ⟨80, 89, 8, 0⟩, ⟨96, 97, 5, 0⟩]
def kd (p : Int) : Int × Int :=
 if 512 ≤ p ∧ p < 1280 then (match rowIn (p % 256) kdCased with | some r => (r.f2, p / 256) | none => (0, 0))
 else if 8192 ≤ p ∧ p < 9728 then (if p % 512 ≥ 416 then (0, 0) else if p % 512 < 208 then (4, 1) else (5, 1))
 else (match rowIn p (kdLow ++ kdHi) with | some r => (r.f2, r.f3) | none => (0, 0))
theorem rowIn_skip {p : Int} {r : KRow} {t : List KRow} (h : r.f1 < p) : rowIn p (r :: t) = rowIn p t := by
 show (if p ≥ r.f0 then (if p ≤ r.f1 then some r else rowIn p t) else rowIn p t) = rowIn p t
 rw [if_neg (show ¬ p ≤ r.f1 by omega), ite_self]
theorem rowIn_skips {p : Int} : ∀ (l t : List KRow), (∀ r ∈ l, r.f1 < p) → rowIn p (l ++ t) = rowIn p t
 | [], _, _ => rfl
 | r :: l, t, h => by
  rw [List.cons_append, rowIn_skip (h r (List.mem_cons_self ..)), rowIn_skips l t fun x hx => h x (List.mem_cons_of_mem _ hx)]
theorem kd_hi {p : Int} (h : 9728 ≤ p) : kd p = match rowIn p kdHi with | some r => (r.f2, r.f3) | none => (0, 0) := by
 unfold kd
 rw [if_neg (by omega), if_neg (by omega)]
 have e : rowIn p (kdLow ++ kdHi) = rowIn p kdHi := rowIn_skips _ _ fun r hr => by
  have : ∀ r ∈ kdLow, r.f1 < 9728 := by decide
  have := this r hr
  omega
 rw [e]
theorem known_l1 (p : Int) (l : List KRow) (hl : l.length < 1000) : ∀ (d i : Nat) (k : Nat), l.length - i ≤ d → d < k → zaH.l1 k p l (i : Int) = some (match rowIn p (l.drop i) with | some r => (r.f2, r.f3) | none => (0, 0))
 | d, i, 0, _, hk => by omega
 | d, i, k + 1, hd, hk => by
  simp only [zaH.l1]
  by_cases hi : i < l.length
  ·rw [if_pos (by omega), if_pos (by omega), List.drop_eq_getElem_cons hi, w_succ i (by omega)]
   have er : rd_T172 l (i : Int) = l[i] := by simp [rd_T172, hi]
   rw [er]
   have IH := known_l1 p l hl (d - 1) (i + 1) k (by omega) (by omega)
   simp only [rowIn]
   by_cases h1 : p ≥ l[i].f0
   ·rw [if_pos h1, if_pos h1]
    by_cases h2 : p ≤ l[i].f1
    ·rw [if_pos h2, if_pos h2]
    rw [if_neg h2, if_neg h2, IH]
   rw [if_neg h1, if_neg h1, IH]
  rw [if_neg (by omega), List.drop_eq_nil_of_le (by omega)]
  rfl
theorem known_l0 (p : Int) (hp : 0 ≤ p) (hp2 : p < 1000000000) (l : List KRow) (hl : l.length < 1000) : ∀ (d i : Nat) (k : Nat), l.length - i ≤ d → d < k → zaH.l0 k p l (i : Int) = some (match rowIn (p % 256) (l.drop i) with | some r => (r.f2, p / 256) | none => (0, 0))
 | d, i, 0, _, hk => by omega
 | d, i, k + 1, hd, hk => by
  simp only [zaH.l0]
  by_cases hi : i < l.length
  ·rw [if_pos (by omega), if_pos (by omega), List.drop_eq_getElem_cons hi, w_succ i (by omega)]
   have er : rd_T172 l (i : Int) = l[i] := by simp [rd_T172, hi]
   rw [er, Int.tmod_eq_emod_of_nonneg hp, Int.tdiv_eq_ediv_of_nonneg hp, w64 (x := p / 256) (by omega) (by omega)]
   have IH := known_l0 p hp hp2 l hl (d - 1) (i + 1) k (by omega) (by omega)
   simp only [rowIn]
   by_cases h1 : p % 256 ≥ l[i].f0
   ·rw [if_pos h1, if_pos h1]
    by_cases h2 : p % 256 ≤ l[i].f1
    ·rw [if_pos h2, if_pos h2]
    rw [if_neg h2, if_neg h2, IH]
   rw [if_neg h1, if_neg h1, IH]
  rw [if_neg (by omega), List.drop_eq_nil_of_le (by omega)]
  rfl
theorem known_f (p : Int) (h0 : 0 ≤ p) (h1 : p < 1000000000) (k : Nat) : zaH.f (k + 40) p = some (kd p) := by
 unfold zaH.f kd
 have ec : spec_l01Cased.f = some kdCased := rfl
 have er : spec_l01Rows.f = some (kdLow ++ kdHi) := rfl
 by_cases ha : 512 ≤ p ∧ p < 1280
 ·rw [if_pos (by omega), if_pos ha, decide_eq_true ha.2]
  simp only [zaH.j0]
  rw [if_pos trivial, ec, Option.bind_some]
  exact known_l0 p h0 h1 kdCased (by decide) 7 0 _ (by decide) (by omega)
 rw [if_neg ha]
 have e : (if p ≥ 512 then zaH.j0 (k + 40) p (decide (p < 1280)) else zaH.j0 (k + 40) p false) = zaH.j0 (k + 40) p false := by
  by_cases h : p ≥ 512
  ·rw [if_pos h, decide_eq_false (by omega)]
  rw [if_neg h]
 rw [e]
 simp only [zaH.j0]
 rw [if_neg (by simp)]
 by_cases hb : 8192 ≤ p ∧ p < 9728
 ·rw [if_pos hb, if_pos (by omega), decide_eq_true hb.2]
  simp only [zaH.j2]
  rw [if_pos trivial, Int.tmod_eq_emod_of_nonneg h0]
  by_cases h2 : p % 512 ≥ 416
  ·rw [if_pos h2, if_pos h2]
  rw [if_neg h2, if_neg h2]
  by_cases h3 : p % 512 < 208
  ·rw [if_pos h3, if_pos h3]
  rw [if_neg h3, if_neg h3]
 rw [if_neg hb]
 have e2 : (if p ≥ 8192 then zaH.j2 (k + 39) p (decide (p < 9728)) else zaH.j2 (k + 39) p false) = zaH.j2 (k + 39) p false := by
  by_cases h : p ≥ 8192
  ·rw [if_pos h, decide_eq_false (by omega)]
  rw [if_neg h]
 rw [e2]
 simp only [zaH.j2]
 rw [if_neg (by simp), er, Option.bind_some]
 exact known_l1 p (kdLow ++ kdHi) (by decide) 32 0 _ (by decide) (by omega)
def kdGood (n : Nat) : Bool := zah.f 12 (n : Int) == some (kd n)
def kdAll : Nat → Nat → Bool
 | 0, n => kdGood n
 | d + 1, n => kdAll d n && kdAll d (n + 2 ^ d)
theorem kdAll_get : ∀ (d n m : Nat), kdAll d n = true → n ≤ m → m < n + 2 ^ d → kdGood m = true
 | 0, n, m, h, h1, h2 => by
  obtain rfl : m = n := by omega
  exact h
 | d + 1, n, m, h, h1, h2 => by
  unfold kdAll at h
  obtain ⟨a, b⟩ := Bool.and_eq_true_iff.mp h
  by_cases hm : m < n + 2 ^ d
  ·exact kdAll_get d n m a h1 hm
  exact kdAll_get d (n + 2 ^ d) m b (by omega) (by rw [Nat.pow_succ] at h2; omega)
end Go.Proofs.YtbppeepihlajoaaDoor.P
namespace Go.Proofs.YtbppeepihlajoaaDoor.P
open Go.RowKit Go.Proofs.YtbppeepihlajoaaDoorW.PrintWords Go.Proofs.YtbppeepihlajoaaDoorW.PrintMore
theorem kd_0 : kdAll 10 0 = true := by decide +kernel
theorem kd_1 : kdAll 10 1024 = true := by decide +kernel
theorem kd_2 : kdAll 10 2048 = true := by decide +kernel
theorem kd_3 : kdAll 10 3072 = true := by decide +kernel
theorem kd_4 : kdAll 10 4096 = true := by decide +kernel
end Go.Proofs.YtbppeepihlajoaaDoor.P
namespace Go.Proofs.YtbppeepihlajoaaDoor.P
open Go.RowKit Go.Proofs.YtbppeepihlajoaaDoorW.PrintWords Go.Proofs.YtbppeepihlajoaaDoorW.PrintMore
theorem kd_5 : kdAll 10 5120 = true := by decide +kernel
theorem kd_6 : kdAll 10 6144 = true := by decide +kernel
theorem kd_7 : kdAll 10 7168 = true := by decide +kernel
theorem kd_8 : kdAll 10 8192 = true := by decide +kernel
theorem kd_9 : kdAll 9 9216 = true := by decide +kernel
end Go.Proofs.YtbppeepihlajoaaDoor.P
namespace Go.Proofs.YtbppeepihlajoaaDoor.P
open Go.RowKit Go.Proofs.YtbppeepihlajoaaDoorW.PrintWords Go.Proofs.YtbppeepihlajoaaDoorW.PrintMore
set_option linter.unusedVariables false
theorem kd_low (m : Nat) (h : m < 9728) : kdGood m = true := by
 have : m < 0 + 2 ^ 10 ∨ (1024 ≤ m ∧ m < 1024 + 2 ^ 10) ∨ (2048 ≤ m ∧ m < 2048 + 2 ^ 10) ∨ (3072 ≤ m ∧ m < 3072 + 2 ^ 10) ∨ (4096 ≤ m ∧ m < 4096 + 2 ^ 10) ∨ (5120 ≤ m ∧ m < 5120 + 2 ^ 10) ∨ (6144 ≤ m ∧ m < 6144 + 2 ^ 10) ∨ (7168 ≤ m ∧ m < 7168 + 2 ^ 10) ∨ (8192 ≤ m ∧ m < 8192 + 2 ^ 10) ∨ (9216 ≤ m ∧ m < 9216 + 2 ^ 9) := by omega
 rcases this with h | ⟨h1, h2⟩ | ⟨h1, h2⟩ | ⟨h1, h2⟩ | ⟨h1, h2⟩ | ⟨h1, h2⟩ | ⟨h1, h2⟩ | ⟨h1, h2⟩ | ⟨h1, h2⟩ | ⟨h1, h2⟩
 ·exact kdAll_get 10 _ m kd_0 (by omega) h
 ·exact kdAll_get 10 _ m kd_1 h1 h2
 ·exact kdAll_get 10 _ m kd_2 h1 h2
 ·exact kdAll_get 10 _ m kd_3 h1 h2
 ·exact kdAll_get 10 _ m kd_4 h1 h2
 ·exact kdAll_get 10 _ m kd_5 h1 h2
 ·exact kdAll_get 10 _ m kd_6 h1 h2
 ·exact kdAll_get 10 _ m kd_7 h1 h2
 ·exact kdAll_get 10 _ m kd_8 h1 h2
 exact kdAll_get 9 _ m kd_9 h1 h2
theorem in_f (p a b : Int) : zaq.f p a b = some (decide (a ≤ p ∧ p ≤ b)) := by
 unfold zaq.f
 by_cases h1 : p ≥ a
 ·rw [if_pos h1]
  congr 1
  rw [decide_eq_decide]
  omega
 rw [if_neg h1]
 congr 1
 symm
 rw [decide_eq_false_iff_not]
 omega
theorem key : ∀ o : Option KRow, o = none → ((0, 0) : Int × Int) = (match o with | some r => (r.f2, r.f3) | none => (0, 0)) := by rintro _ rfl; rfl
set_option maxHeartbeats 2000000 in
theorem kind_hi (k : Nat) (p : Int) (h : 9728 ≤ p) : zah.f (k + 12) p = some (kd p) := by
 rw [kd_hi h]
 have hin : ∀ a b : Int, b ≤ 9727 → zaq.f p a b = some false := by
  intro a b hb
  rw [in_f, decide_eq_false (by omega)]
 have hb : impl_block.f p = some (0, 0) := by unfold impl_block.f; rw [if_pos (by omega), if_neg (by omega)]
 have e8 : zaq.f p 8192 9631 = some false := hin _ _ (by omega)
 unfold zah.f
 rw [hb]
 by_cases h1 : 9728 ≤ p ∧ p ≤ 9753
 ·have e1 : zaq.f p 12288 23459 = some false := by rw [in_f, decide_eq_false (by omega)]
  have e2 : zaq.f p 9728 9753 = some true := by rw [in_f, decide_eq_true h1]
  simp [hin, e1, e2, zah.j2, zah.j3, zah.j4, zah.j5, zah.j6, zah.j7, zah.j8, zah.j9, show ¬ p = 32 by omega, show ¬ p = 160 by omega, show ¬ p = 8064 by omega, show ¬ p = 173 by omega, show ¬ p = 1584 by omega, show ¬ p = 1585 by omega, show ¬ p = 7953 by omega, show ¬ p = 7954 by omega, kdHi, rowIn, h1.1, h1.2]
 by_cases h2 : 12288 ≤ p ∧ p ≤ 23459
 ·have e1 : zaq.f p 12288 23459 = some true := by rw [in_f, decide_eq_true h2]
  simp [hin, e1, zah.j2, zah.j3, zah.j4, zah.j5, show ¬ p = 32 by omega, show ¬ p = 160 by omega, show ¬ p = 8064 by omega, show ¬ p = 173 by omega, show ¬ p = 1584 by omega, show ¬ p = 1585 by omega, kdHi, rowIn, h2.1, h2.2, show ¬ p ≤ 9753 by omega, show ¬ p ≤ 10009 by omega, show ¬ p ≤ 10025 by omega, show ¬ p ≤ 10035 by omega]
 have e1 : zaq.f p 12288 23459 = some false := by rw [in_f, decide_eq_false h2]
 have e2 : zaq.f p 9728 9753 = some false := by rw [in_f, decide_eq_false h1]
 have r1 : rowIn p kdHi = rowIn p [⟨9984, 10009, 10, 0⟩, ⟨10016, 10025, 8, 0⟩, ⟨10032, 10035, 10, 0⟩, ⟨12288, 23459, 7, 7⟩, ⟨24576, 26623, 7, 9⟩] := rowIn_skip (show (9753 : Int) < p by omega)
 rw [r1]
 simp only [in_f, Option.bind_some, zah.j2, zah.j3, zah.j4, zah.j5, zah.j6, zah.j7, zah.j8, zah.j9, decide_eq_true_eq, beq_iff_eq, rowIn]
 by_cases a1 : 9984 ≤ p ∧ p ≤ 10009
 ·simp [a1, show ¬ p = 32 by omega, show ¬ p = 160 by omega, show ¬ p = 8064 by omega, show ¬ p = 173 by omega, show ¬ p = 1584 by omega, show ¬ p = 1585 by omega, show ¬ p = 7953 by omega, show ¬ p = 7954 by omega, show ¬ p ≤ 31 by omega, show ¬ p ≤ 159 by omega, show ¬ p ≤ 57 by omega, show ¬ p ≤ 90 by omega, show ¬ p ≤ 122 by omega, show ¬ p ≤ 126 by omega, show ¬ p ≤ 191 by omega, show ¬ p ≤ 1311 by omega, show ¬ p ≤ 1369 by omega, show ¬ p ≤ 1567 by omega, show ¬ p ≤ 1579 by omega, show ¬ p ≤ 1625 by omega, show ¬ p ≤ 1810 by omega, show ¬ p ≤ 1844 by omega, show ¬ p ≤ 1883 by omega, show ¬ p ≤ 2095 by omega, show ¬ p ≤ 4159 by omega, show ¬ p ≤ 7748 by omega, show ¬ p ≤ 7785 by omega, show ¬ p ≤ 7947 by omega, show ¬ p ≤ 9631 by omega, show ¬ p ≤ 9753 by omega, show ¬ 12288 ≤ p by omega]
 by_cases a2 : 10032 ≤ p ∧ p ≤ 10035
 ·simp [a2, show ¬ p ≤ 10009 by omega, show ¬ p ≤ 10025 by omega, show ¬ p = 32 by omega, show ¬ p = 160 by omega, show ¬ p = 8064 by omega, show ¬ p = 173 by omega, show ¬ p = 1584 by omega, show ¬ p = 1585 by omega, show ¬ p = 7953 by omega, show ¬ p = 7954 by omega, show ¬ p ≤ 31 by omega, show ¬ p ≤ 159 by omega, show ¬ p ≤ 57 by omega, show ¬ p ≤ 90 by omega, show ¬ p ≤ 122 by omega, show ¬ p ≤ 126 by omega, show ¬ p ≤ 191 by omega, show ¬ p ≤ 1311 by omega, show ¬ p ≤ 1369 by omega, show ¬ p ≤ 1567 by omega, show ¬ p ≤ 1579 by omega, show ¬ p ≤ 1625 by omega, show ¬ p ≤ 1810 by omega, show ¬ p ≤ 1844 by omega, show ¬ p ≤ 1883 by omega, show ¬ p ≤ 2095 by omega, show ¬ p ≤ 4159 by omega, show ¬ p ≤ 7748 by omega, show ¬ p ≤ 7785 by omega, show ¬ p ≤ 7947 by omega, show ¬ p ≤ 9631 by omega, show ¬ p ≤ 9753 by omega, show ¬ 12288 ≤ p by omega]
 by_cases a3 : 10016 ≤ p ∧ p ≤ 10025
 ·simp [a3, show ¬ p ≤ 10009 by omega, show ¬ 10032 ≤ p by omega, show ¬ p = 32 by omega, show ¬ p = 160 by omega, show ¬ p = 8064 by omega, show ¬ p = 173 by omega, show ¬ p = 1584 by omega, show ¬ p = 1585 by omega, show ¬ p = 7953 by omega, show ¬ p = 7954 by omega, show ¬ p ≤ 31 by omega, show ¬ p ≤ 159 by omega, show ¬ p ≤ 57 by omega, show ¬ p ≤ 90 by omega, show ¬ p ≤ 122 by omega, show ¬ p ≤ 126 by omega, show ¬ p ≤ 191 by omega, show ¬ p ≤ 1311 by omega, show ¬ p ≤ 1369 by omega, show ¬ p ≤ 1567 by omega, show ¬ p ≤ 1579 by omega, show ¬ p ≤ 1625 by omega, show ¬ p ≤ 1810 by omega, show ¬ p ≤ 1844 by omega, show ¬ p ≤ 1883 by omega, show ¬ p ≤ 2095 by omega, show ¬ p ≤ 4159 by omega, show ¬ p ≤ 7748 by omega, show ¬ p ≤ 7785 by omega, show ¬ p ≤ 7947 by omega, show ¬ p ≤ 9631 by omega, show ¬ p ≤ 9753 by omega, show ¬ 12288 ≤ p by omega]
 by_cases a4 : 24576 ≤ p ∧ p ≤ 26623
 ·simp [a4, show ¬ p ≤ 23459 by omega, show ¬ p ≤ 10009 by omega, show ¬ p ≤ 10025 by omega, show ¬ p ≤ 10035 by omega, show ¬ p = 32 by omega, show ¬ p = 160 by omega, show ¬ p = 8064 by omega, show ¬ p = 173 by omega, show ¬ p = 1584 by omega, show ¬ p = 1585 by omega, show ¬ p = 7953 by omega, show ¬ p = 7954 by omega, show ¬ p ≤ 31 by omega, show ¬ p ≤ 159 by omega, show ¬ p ≤ 57 by omega, show ¬ p ≤ 90 by omega, show ¬ p ≤ 122 by omega, show ¬ p ≤ 126 by omega, show ¬ p ≤ 191 by omega, show ¬ p ≤ 1311 by omega, show ¬ p ≤ 1369 by omega, show ¬ p ≤ 1567 by omega, show ¬ p ≤ 1579 by omega, show ¬ p ≤ 1625 by omega, show ¬ p ≤ 1810 by omega, show ¬ p ≤ 1844 by omega, show ¬ p ≤ 1883 by omega, show ¬ p ≤ 2095 by omega, show ¬ p ≤ 4159 by omega, show ¬ p ≤ 7748 by omega, show ¬ p ≤ 7785 by omega, show ¬ p ≤ 7947 by omega, show ¬ p ≤ 9631 by omega, show ¬ p ≤ 9753 by omega]
 simp [a1, a2, a3, a4, h2, show ¬ p = 32 by omega, show ¬ p = 160 by omega, show ¬ p = 8064 by omega, show ¬ p = 173 by omega, show ¬ p = 1584 by omega, show ¬ p = 1585 by omega, show ¬ p = 7953 by omega, show ¬ p = 7954 by omega, show ¬ p ≤ 31 by omega, show ¬ p ≤ 159 by omega, show ¬ p ≤ 57 by omega, show ¬ p ≤ 90 by omega, show ¬ p ≤ 122 by omega, show ¬ p ≤ 126 by omega, show ¬ p ≤ 191 by omega, show ¬ p ≤ 1311 by omega, show ¬ p ≤ 1369 by omega, show ¬ p ≤ 1567 by omega, show ¬ p ≤ 1579 by omega, show ¬ p ≤ 1625 by omega, show ¬ p ≤ 1810 by omega, show ¬ p ≤ 1844 by omega, show ¬ p ≤ 1883 by omega, show ¬ p ≤ 2095 by omega, show ¬ p ≤ 4159 by omega, show ¬ p ≤ 7748 by omega, show ¬ p ≤ 7785 by omega, show ¬ p ≤ 7947 by omega, show ¬ p ≤ 9631 by omega, show ¬ p ≤ 9753 by omega]
 refine key _ ?_
 repeat' split
 all_goals first | rfl | (exfalso; omega)
theorem kind_mono (k m : Nat) (p : Int) (r : Int × Int) (h : zah.f k p = some r) (hm : k ≤ m) : zah.f m p = some r := by
 obtain ⟨d, rfl⟩ : ∃ d, m = k + d := ⟨m - k, by omega⟩
 clear hm
 induction d with
 | zero => exact h
 | succ d ih => exact zah.mono p (k + d) r ih
theorem kind_f (p : Int) (h0 : 0 ≤ p) (k : Nat) : zah.f (k + 12) p = some (kd p) := by
 by_cases h : 9728 ≤ p
 ·exact kind_hi k p h
 have := kd_low p.toNat (by omega)
 unfold kdGood at this
 have e : ((p.toNat : Nat) : Int) = p := by omega
 rw [e] at this
 exact kind_mono 12 _ p _ (by simpa using this) (by omega)
theorem kind_ev (p : Int) (h0 : 0 ≤ p) : Ev (fun k => zah.f k p) (kd p) := ⟨12, fun k hk => by obtain ⟨m, rfl⟩ : ∃ m, k = m + 12 := ⟨k - 12, by omega⟩; exact kind_f p h0 m⟩
theorem known_ev (p : Int) (h0 : 0 ≤ p) (h1 : p < 1000000000) : Ev (fun k => zaH.f k p) (kd p) := ⟨40, fun k hk => by obtain ⟨m, rfl⟩ : ∃ m, k = m + 40 := ⟨k - 40, by omega⟩; exact known_f p h0 h1 m⟩
end Go.Proofs.YtbppeepihlajoaaDoor.P
namespace Go.Proofs.YtbppeepihlajoaaDoor.P
open Go.RowKit Go.Proofs.YtbppeepihlajoaaDoorW.PrintWords
set_option linter.unusedVariables false
theorem rowIn_some {p : Int} {r : KRow} : ∀ (l : List KRow), rowIn p l = some r → r ∈ l ∧ r.f0 ≤ p ∧ p ≤ r.f1
 | [], h => by cases h
 | x :: t, h => by
  unfold rowIn at h
  by_cases h1 : p ≥ x.f0
  ·rw [if_pos h1] at h
   by_cases h2 : p ≤ x.f1
   ·rw [if_pos h2] at h
    obtain rfl := Option.some.inj h
    exact ⟨List.mem_cons_self .., h1, h2⟩
   rw [if_neg h2] at h
   obtain ⟨a, b⟩ := rowIn_some t h
   exact ⟨List.mem_cons_of_mem _ a, b⟩
  rw [if_neg h1] at h
  obtain ⟨a, b⟩ := rowIn_some t h
  exact ⟨List.mem_cons_of_mem _ a, b⟩
theorem kd_cases (p : Int) : kd p = (0, 0) ∨ (512 ≤ p ∧ p < 1280 ∧ ∃ r ∈ kdCased, r.f0 ≤ p % 256 ∧ p % 256 ≤ r.f1 ∧ kd p = (r.f2, p / 256)) ∨ (8192 ≤ p ∧ p < 9728 ∧ (kd p = (4, 1) ∨ kd p = (5, 1))) ∨ (¬ (512 ≤ p ∧ p < 1280) ∧ ¬ (8192 ≤ p ∧ p < 9728) ∧ ∃ r ∈ kdLow ++ kdHi, r.f0 ≤ p ∧ p ≤ r.f1 ∧ kd p = (r.f2, r.f3)) := by
 by_cases h1 : 512 ≤ p ∧ p < 1280
 ·cases hr : rowIn (p % 256) kdCased with
  | none => exact .inl (by unfold kd; rw [if_pos h1, hr])
  | some r =>
   obtain ⟨a, b, c⟩ := rowIn_some _ hr
   exact .inr (.inl ⟨h1.1, h1.2, r, a, b, c, by unfold kd; rw [if_pos h1, hr]⟩)
 by_cases h2 : 8192 ≤ p ∧ p < 9728
 ·by_cases h3 : p % 512 ≥ 416
  ·exact .inl (by unfold kd; rw [if_neg h1, if_pos h2, if_pos h3])
  refine .inr (.inr (.inl ⟨h2.1, h2.2, ?_⟩))
  by_cases h4 : p % 512 < 208
  ·exact .inl (by unfold kd; rw [if_neg h1, if_pos h2, if_neg h3, if_pos h4])
  exact .inr (by unfold kd; rw [if_neg h1, if_pos h2, if_neg h3, if_neg h4])
 cases hr : rowIn p (kdLow ++ kdHi) with
 | none => exact .inl (by unfold kd; rw [if_neg h1, if_neg h2, hr])
 | some r =>
  obtain ⟨a, b, c⟩ := rowIn_some _ hr
  exact .inr (.inr (.inr ⟨h1, h2, r, a, b, c, by unfold kd; rw [if_neg h1, if_neg h2, hr]⟩))
end Go.Proofs.YtbppeepihlajoaaDoor.P
