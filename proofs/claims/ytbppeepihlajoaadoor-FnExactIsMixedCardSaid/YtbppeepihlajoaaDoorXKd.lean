/- The kinds of points: the program's kind and the reference's l01Known are one plain function. -/
import Derived.Test.YtbppeepihlajoaaDoorXKdB
import Derived.Test.YtbppeepihlajoaaDoorXKdC
namespace Go.Proofs.YtbppeepihlajoaaDoor.P
open Go.RowKit Go.Proofs.YtbppeepihlajoaaDoorW.PrintWords Go.Proofs.YtbppeepihlajoaaDoorW.PrintMore
set_option linter.unusedVariables false
theorem kd_low (m : Nat) (h : m < 9728) : kdGood m = true := by
  have : m < 0 + 2 ^ 10 ∨ (1024 ≤ m ∧ m < 1024 + 2 ^ 10) ∨ (2048 ≤ m ∧ m < 2048 + 2 ^ 10) ∨ (3072 ≤ m ∧ m < 3072 + 2 ^ 10) ∨ (4096 ≤ m ∧ m < 4096 + 2 ^ 10) ∨ (5120 ≤ m ∧ m < 5120 + 2 ^ 10) ∨ (6144 ≤ m ∧ m < 6144 + 2 ^ 10) ∨ (7168 ≤ m ∧ m < 7168 + 2 ^ 10) ∨ (8192 ≤ m ∧ m < 8192 + 2 ^ 10) ∨ (9216 ≤ m ∧ m < 9216 + 2 ^ 9) := by omega
  rcases this with h | ⟨h1, h2⟩ | ⟨h1, h2⟩ | ⟨h1, h2⟩ | ⟨h1, h2⟩ | ⟨h1, h2⟩ | ⟨h1, h2⟩ | ⟨h1, h2⟩ | ⟨h1, h2⟩ | ⟨h1, h2⟩
  · exact kdAll_get 10 _ m kd_0 (by omega) h
  · exact kdAll_get 10 _ m kd_1 h1 h2
  · exact kdAll_get 10 _ m kd_2 h1 h2
  · exact kdAll_get 10 _ m kd_3 h1 h2
  · exact kdAll_get 10 _ m kd_4 h1 h2
  · exact kdAll_get 10 _ m kd_5 h1 h2
  · exact kdAll_get 10 _ m kd_6 h1 h2
  · exact kdAll_get 10 _ m kd_7 h1 h2
  · exact kdAll_get 10 _ m kd_8 h1 h2
  · exact kdAll_get 9 _ m kd_9 h1 h2
theorem in_f (p a b : Int) : impl_in.f p a b = some (decide (a ≤ p ∧ p ≤ b)) := by
  unfold impl_in.f
  by_cases h1 : p ≥ a
  · rw [if_pos h1]
    congr 1
    rw [decide_eq_decide]
    omega
  · rw [if_neg h1]
    congr 1
    symm
    rw [decide_eq_false_iff_not]
    omega
theorem key : ∀ o : Option KRow, o = none → ((0, 0) : Int × Int) = (match o with | some r => (r.f2, r.f3) | none => (0, 0)) := by rintro _ rfl; rfl
set_option maxHeartbeats 2000000 in
theorem kind_hi (k : Nat) (p : Int) (h : 9728 ≤ p) : impl_kind.f (k + 12) p = some (kd p) := by
  rw [kd_hi h]
  have hin : ∀ a b : Int, b ≤ 9727 → impl_in.f p a b = some false := by
    intro a b hb
    rw [in_f, decide_eq_false (by omega)]
  have hb : impl_block.f p = some (0, 0) := by unfold impl_block.f; rw [if_pos (by omega), if_neg (by omega)]
  have e8 : impl_in.f p 8192 9631 = some false := hin _ _ (by omega)
  unfold impl_kind.f
  rw [hb]
  by_cases h1 : 9728 ≤ p ∧ p ≤ 9753
  · have e1 : impl_in.f p 12288 23459 = some false := by rw [in_f, decide_eq_false (by omega)]
    have e2 : impl_in.f p 9728 9753 = some true := by rw [in_f, decide_eq_true h1]
    simp [hin, e1, e2, impl_kind.j2, impl_kind.j3, impl_kind.j4, impl_kind.j5, impl_kind.j6, impl_kind.j7, impl_kind.j8, impl_kind.j9, show ¬ p = 32 by omega, show ¬ p = 160 by omega, show ¬ p = 8064 by omega, show ¬ p = 173 by omega, show ¬ p = 1584 by omega, show ¬ p = 1585 by omega, show ¬ p = 7953 by omega, show ¬ p = 7954 by omega, kdHi, rowIn, h1.1, h1.2]
  · by_cases h2 : 12288 ≤ p ∧ p ≤ 23459
    · have e1 : impl_in.f p 12288 23459 = some true := by rw [in_f, decide_eq_true h2]
      simp [hin, e1, impl_kind.j2, impl_kind.j3, impl_kind.j4, impl_kind.j5, show ¬ p = 32 by omega, show ¬ p = 160 by omega, show ¬ p = 8064 by omega, show ¬ p = 173 by omega, show ¬ p = 1584 by omega, show ¬ p = 1585 by omega, kdHi, rowIn, h2.1, h2.2, show ¬ p ≤ 9753 by omega, show ¬ p ≤ 10009 by omega, show ¬ p ≤ 10025 by omega, show ¬ p ≤ 10035 by omega]
    · have e1 : impl_in.f p 12288 23459 = some false := by rw [in_f, decide_eq_false h2]
      have e2 : impl_in.f p 9728 9753 = some false := by rw [in_f, decide_eq_false h1]
      have r1 : rowIn p kdHi = rowIn p [⟨9984, 10009, 10, 0⟩, ⟨10016, 10025, 8, 0⟩, ⟨10032, 10035, 10, 0⟩, ⟨12288, 23459, 7, 7⟩, ⟨24576, 26623, 7, 9⟩] := rowIn_skip (show (9753 : Int) < p by omega)
      rw [r1]
      simp only [in_f, Option.bind_some, impl_kind.j2, impl_kind.j3, impl_kind.j4, impl_kind.j5, impl_kind.j6, impl_kind.j7, impl_kind.j8, impl_kind.j9, decide_eq_true_eq, beq_iff_eq, rowIn]
      by_cases a1 : 9984 ≤ p ∧ p ≤ 10009
      · simp [a1, show ¬ p = 32 by omega, show ¬ p = 160 by omega, show ¬ p = 8064 by omega, show ¬ p = 173 by omega, show ¬ p = 1584 by omega, show ¬ p = 1585 by omega, show ¬ p = 7953 by omega, show ¬ p = 7954 by omega, show ¬ p ≤ 31 by omega, show ¬ p ≤ 159 by omega, show ¬ p ≤ 57 by omega, show ¬ p ≤ 90 by omega, show ¬ p ≤ 122 by omega, show ¬ p ≤ 126 by omega, show ¬ p ≤ 191 by omega, show ¬ p ≤ 1311 by omega, show ¬ p ≤ 1369 by omega, show ¬ p ≤ 1567 by omega, show ¬ p ≤ 1579 by omega, show ¬ p ≤ 1625 by omega, show ¬ p ≤ 1810 by omega, show ¬ p ≤ 1844 by omega, show ¬ p ≤ 1883 by omega, show ¬ p ≤ 2095 by omega, show ¬ p ≤ 4159 by omega, show ¬ p ≤ 7748 by omega, show ¬ p ≤ 7785 by omega, show ¬ p ≤ 7947 by omega, show ¬ p ≤ 9631 by omega, show ¬ p ≤ 9753 by omega, show ¬ 12288 ≤ p by omega]
      · by_cases a2 : 10032 ≤ p ∧ p ≤ 10035
        · simp [a2, show ¬ p ≤ 10009 by omega, show ¬ p ≤ 10025 by omega, show ¬ p = 32 by omega, show ¬ p = 160 by omega, show ¬ p = 8064 by omega, show ¬ p = 173 by omega, show ¬ p = 1584 by omega, show ¬ p = 1585 by omega, show ¬ p = 7953 by omega, show ¬ p = 7954 by omega, show ¬ p ≤ 31 by omega, show ¬ p ≤ 159 by omega, show ¬ p ≤ 57 by omega, show ¬ p ≤ 90 by omega, show ¬ p ≤ 122 by omega, show ¬ p ≤ 126 by omega, show ¬ p ≤ 191 by omega, show ¬ p ≤ 1311 by omega, show ¬ p ≤ 1369 by omega, show ¬ p ≤ 1567 by omega, show ¬ p ≤ 1579 by omega, show ¬ p ≤ 1625 by omega, show ¬ p ≤ 1810 by omega, show ¬ p ≤ 1844 by omega, show ¬ p ≤ 1883 by omega, show ¬ p ≤ 2095 by omega, show ¬ p ≤ 4159 by omega, show ¬ p ≤ 7748 by omega, show ¬ p ≤ 7785 by omega, show ¬ p ≤ 7947 by omega, show ¬ p ≤ 9631 by omega, show ¬ p ≤ 9753 by omega, show ¬ 12288 ≤ p by omega]
        · by_cases a3 : 10016 ≤ p ∧ p ≤ 10025
          · simp [a3, show ¬ p ≤ 10009 by omega, show ¬ 10032 ≤ p by omega, show ¬ p = 32 by omega, show ¬ p = 160 by omega, show ¬ p = 8064 by omega, show ¬ p = 173 by omega, show ¬ p = 1584 by omega, show ¬ p = 1585 by omega, show ¬ p = 7953 by omega, show ¬ p = 7954 by omega, show ¬ p ≤ 31 by omega, show ¬ p ≤ 159 by omega, show ¬ p ≤ 57 by omega, show ¬ p ≤ 90 by omega, show ¬ p ≤ 122 by omega, show ¬ p ≤ 126 by omega, show ¬ p ≤ 191 by omega, show ¬ p ≤ 1311 by omega, show ¬ p ≤ 1369 by omega, show ¬ p ≤ 1567 by omega, show ¬ p ≤ 1579 by omega, show ¬ p ≤ 1625 by omega, show ¬ p ≤ 1810 by omega, show ¬ p ≤ 1844 by omega, show ¬ p ≤ 1883 by omega, show ¬ p ≤ 2095 by omega, show ¬ p ≤ 4159 by omega, show ¬ p ≤ 7748 by omega, show ¬ p ≤ 7785 by omega, show ¬ p ≤ 7947 by omega, show ¬ p ≤ 9631 by omega, show ¬ p ≤ 9753 by omega, show ¬ 12288 ≤ p by omega]
          · by_cases a4 : 24576 ≤ p ∧ p ≤ 26623
            · simp [a4, show ¬ p ≤ 23459 by omega, show ¬ p ≤ 10009 by omega, show ¬ p ≤ 10025 by omega, show ¬ p ≤ 10035 by omega, show ¬ p = 32 by omega, show ¬ p = 160 by omega, show ¬ p = 8064 by omega, show ¬ p = 173 by omega, show ¬ p = 1584 by omega, show ¬ p = 1585 by omega, show ¬ p = 7953 by omega, show ¬ p = 7954 by omega, show ¬ p ≤ 31 by omega, show ¬ p ≤ 159 by omega, show ¬ p ≤ 57 by omega, show ¬ p ≤ 90 by omega, show ¬ p ≤ 122 by omega, show ¬ p ≤ 126 by omega, show ¬ p ≤ 191 by omega, show ¬ p ≤ 1311 by omega, show ¬ p ≤ 1369 by omega, show ¬ p ≤ 1567 by omega, show ¬ p ≤ 1579 by omega, show ¬ p ≤ 1625 by omega, show ¬ p ≤ 1810 by omega, show ¬ p ≤ 1844 by omega, show ¬ p ≤ 1883 by omega, show ¬ p ≤ 2095 by omega, show ¬ p ≤ 4159 by omega, show ¬ p ≤ 7748 by omega, show ¬ p ≤ 7785 by omega, show ¬ p ≤ 7947 by omega, show ¬ p ≤ 9631 by omega, show ¬ p ≤ 9753 by omega]
            · simp [a1, a2, a3, a4, h2, show ¬ p = 32 by omega, show ¬ p = 160 by omega, show ¬ p = 8064 by omega, show ¬ p = 173 by omega, show ¬ p = 1584 by omega, show ¬ p = 1585 by omega, show ¬ p = 7953 by omega, show ¬ p = 7954 by omega, show ¬ p ≤ 31 by omega, show ¬ p ≤ 159 by omega, show ¬ p ≤ 57 by omega, show ¬ p ≤ 90 by omega, show ¬ p ≤ 122 by omega, show ¬ p ≤ 126 by omega, show ¬ p ≤ 191 by omega, show ¬ p ≤ 1311 by omega, show ¬ p ≤ 1369 by omega, show ¬ p ≤ 1567 by omega, show ¬ p ≤ 1579 by omega, show ¬ p ≤ 1625 by omega, show ¬ p ≤ 1810 by omega, show ¬ p ≤ 1844 by omega, show ¬ p ≤ 1883 by omega, show ¬ p ≤ 2095 by omega, show ¬ p ≤ 4159 by omega, show ¬ p ≤ 7748 by omega, show ¬ p ≤ 7785 by omega, show ¬ p ≤ 7947 by omega, show ¬ p ≤ 9631 by omega, show ¬ p ≤ 9753 by omega]
              refine key _ ?_
              repeat' split
              all_goals first | rfl | (exfalso; omega)
theorem kind_mono (k m : Nat) (p : Int) (r : Int × Int) (h : impl_kind.f k p = some r) (hm : k ≤ m) : impl_kind.f m p = some r := by
  obtain ⟨d, rfl⟩ : ∃ d, m = k + d := ⟨m - k, by omega⟩
  clear hm
  induction d with
  | zero => exact h
  | succ d ih => exact impl_kind.mono p (k + d) r ih
/-- The program's kind. -/
theorem kind_f (p : Int) (h0 : 0 ≤ p) (k : Nat) : impl_kind.f (k + 12) p = some (kd p) := by
  by_cases h : 9728 ≤ p
  · exact kind_hi k p h
  · have := kd_low p.toNat (by omega)
    unfold kdGood at this
    have e : ((p.toNat : Nat) : Int) = p := by omega
    rw [e] at this
    exact kind_mono 12 _ p _ (by simpa using this) (by omega)
theorem kind_ev (p : Int) (h0 : 0 ≤ p) : Ev (fun k => impl_kind.f k p) (kd p) := ⟨12, fun k hk => by obtain ⟨m, rfl⟩ : ∃ m, k = m + 12 := ⟨k - 12, by omega⟩; exact kind_f p h0 m⟩
theorem known_ev (p : Int) (h0 : 0 ≤ p) (h1 : p < 1000000000) : Ev (fun k => spec_l01Known.f k p) (kd p) := ⟨40, fun k hk => by obtain ⟨m, rfl⟩ : ∃ m, k = m + 40 := ⟨k - 40, by omega⟩; exact known_f p h0 h1 m⟩
end Go.Proofs.YtbppeepihlajoaaDoor.P
