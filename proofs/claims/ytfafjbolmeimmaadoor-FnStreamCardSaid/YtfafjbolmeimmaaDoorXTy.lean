/- The points of a text that was written of points are these points. -/
import Derived.Test.YtfafjbolmeimmaaDoorXTx
namespace Go.Proofs.YtfafjbolmeimmaaDoor.P
open Go.RowKit Go.Proofs.YtfafjbolmeimmaaDoorW.PrintWords
set_option linter.unusedVariables false
theorem drop_cons {s : ByteArray} {i : Nat} {a : Int} {r : List Int} (h : (bytesOf s).drop i = a :: r) : i < s.size ∧ ((s.get! i).toNat : Int) = a ∧ (bytesOf s).drop (i + 1) = r := by
 have hi : i < s.size := by
  rcases Nat.lt_or_ge i s.size with h' | h'
  ·exact h'
  rw [List.drop_eq_nil_of_le (by rw [bytesOf_length]; exact h')] at h
  cases h
 rw [bytesOf_drop s i hi] at h
 injection h with h1 h2
 exact ⟨hi, h1, h2⟩
theorem dec_wr (s : ByteArray) (i : Nat) (p : Int) (hp : isPt p = true) (r : List Int) (h : (bytesOf s).drop i = wrB p ++ r) : i < s.size ∧ ((dec s i).1 : Int) = p ∧ (dec s i).2 = (wrB p).length ∧ (bytesOf s).drop (i + (wrB p).length) = r ∧ badAt s i = false := by
 obtain ⟨p0, p1, p2⟩ := isPt_iff.1 hp
 have hb : ∀ v n : Nat, dec s i = (v, n) → ¬ (v = 65533 ∧ n = 1) → badAt s i = false := by
  intro v n h1 h2
  unfold badAt
  rw [h1]
  simp only [Bool.and_eq_false_iff, beq_eq_false_iff_ne]
  by_cases a : v = 65533
  ·exact .inr fun hh => h2 ⟨a, hh⟩
  exact .inl a
 have e : wrB p = wrNums p := by unfold wrB; rw [if_pos hp]
 rw [e] at h ⊢
 unfold wrNums at h ⊢
 by_cases h1 : p < 128
 ·rw [if_pos h1] at h ⊢
  obtain ⟨a1, a2, a3⟩ := drop_cons h
  have hd : dec s i = ((s.get! i).toNat, 1) := by rw [dec_eq, dN1 (by omega)]
  refine ⟨a1, by rw [hd]; simp only; omega, by rw [hd]; rfl, a3, hb _ _ hd (by omega)⟩
 rw [if_neg h1] at h ⊢
 by_cases h2 : p < 2048
 ·rw [if_pos h2] at h ⊢
  obtain ⟨a1, a2, a3⟩ := drop_cons h
  obtain ⟨b1, b2, b3⟩ := drop_cons a3
  have hd : dec s i = (p.toNat, 2) := by
   rw [dec_eq, dN2 (by omega), if_pos (by omega)]
   congr 1
   omega
  refine ⟨a1, by rw [hd]; simp only; omega, by rw [hd]; rfl, b3, hb _ _ hd (by omega)⟩
 rw [if_neg h2] at h ⊢
 by_cases h3 : p < 65536
 ·rw [if_pos h3] at h ⊢
  obtain ⟨a1, a2, a3⟩ := drop_cons h
  obtain ⟨b1, b2, b3⟩ := drop_cons a3
  obtain ⟨c1, c2, c3⟩ := drop_cons b3
  replace c2 : ((s.get! (i + 2)).toNat : Int) = _ := c2
  have hd : dec s i = (p.toNat, 3) := by
   rw [dec_eq, dN3 (by omega), if_pos (by omega)]
   congr 1
   omega
  refine ⟨a1, by rw [hd]; simp only; omega, by rw [hd]; rfl, c3, hb _ _ hd (by omega)⟩
 rw [if_neg h3] at h ⊢
 obtain ⟨a1, a2, a3⟩ := drop_cons h
 obtain ⟨b1, b2, b3⟩ := drop_cons a3
 obtain ⟨c1, c2, c3⟩ := drop_cons b3
 obtain ⟨d1, d2, d3⟩ := drop_cons c3
 replace c2 : ((s.get! (i + 2)).toNat : Int) = _ := c2
 replace d2 : ((s.get! (i + 3)).toNat : Int) = _ := d2
 have hd : dec s i = (p.toNat, 4) := by
  rw [dec_eq, dN4 (by omega), if_pos (by omega)]
  congr 1
  omega
 refine ⟨a1, by rw [hd]; simp only; omega, by rw [hd]; rfl, d3, hb _ _ hd (by omega)⟩
end Go.Proofs.YtfafjbolmeimmaaDoor.P
