/- What every point that the program reads is: a number of 64 bits. -/
import Derived.Test.YtgahimbccbghnaaDoorQ5
namespace Go.Proofs.YtgahimbccbghnaaDoor.P
open Go.RowKit Go.Proofs.YtgahimbccbghnaaDoorW.PrintWords
set_option linter.unusedVariables false
theorem wf_wrap64 (x : Int) : (Lit.int .i64 (wrap64 x)).wf = true := by
  have h1 : -9223372036854775808 ≤ wrap64 x := by unfold wrap64; omega
  have h2 : wrap64 x ≤ 9223372036854775807 := by unfold wrap64; omega
  have e1 : IntKind.i64.min = -9223372036854775808 := rfl
  have e2 : IntKind.i64.max = 9223372036854775807 := rfl
  simp only [Lit.wf, e1, e2, decide_eq_true h1, decide_eq_true h2, Bool.and_self]
theorem read_wf (s : ByteArray) : ∀ (k : Nat) (acc : List S110) (i : Int) (r : List S110), impl_read.l0 k s acc i = some r → (∀ a ∈ acc, (Lit.int .i64 a.f0).wf = true) → ∀ a ∈ r, (Lit.int .i64 a.f0).wf = true
  | 0, acc, i, r, h, _ => by simp [impl_read.l0] at h
  | k + 1, acc, i, r, h, ha => by
    simp only [impl_read.l0] at h
    split at h
    · split at h
      · split at h
        · obtain ⟨t, ht, h⟩ := Option.bind_eq_some_iff.mp h
          have hx : ∀ (x : S110), x.f0 = wrap64 t.1 → ∀ a ∈ acc ++ [x], (Lit.int .i64 a.f0).wf = true := by
            intro x hx a hm
            rcases List.mem_append.1 hm with h1 | h1
            · exact ha a h1
            · rw [List.mem_singleton.1 h1, hx]
              exact wf_wrap64 _
          split at h
          · split at h
            · exact read_wf s k _ _ r h (hx _ rfl)
            · cases h
          · split at h
            · exact read_wf s k _ _ r h (hx _ rfl)
            · cases h
        · cases h
      · cases h
    · cases h
      exact ha
theorem points_wf_l (l : List S110) (hl : ∀ a ∈ l, (Lit.int .i64 a.f0).wf = true) : ∀ (k : Nat) (acc : List Int) (n i : Int) (r : List Int), impl_points.l0 k acc l n i = some r → (∀ a ∈ acc, (Lit.int .i64 a).wf = true) → ∀ a ∈ r, (Lit.int .i64 a).wf = true
  | 0, acc, n, i, r, h, _ => by simp [impl_points.l0] at h
  | k + 1, acc, n, i, r, h, ha => by
    simp only [impl_points.l0] at h
    split at h
    · split at h
      · split at h
        · split at h
          · refine points_wf_l l hl k _ n _ r h ?_
            intro a hm
            rcases List.mem_append.1 hm with h1 | h1
            · exact ha a h1
            · rw [List.mem_singleton.1 h1]
              have hi : i.toNat < l.length := by omega
              have : rd_T110 l i = l[i.toNat] := by simp [rd_T110, hi]
              rw [this]
              exact hl _ (List.getElem_mem hi)
          · cases h
        · cases h
      · cases h
    · cases h
      exact ha
theorem points_wf {k : Nat} {s : ByteArray} {r : List Int} (h : impl_points.f k s = some r) : ∀ a ∈ r, (Lit.int .i64 a).wf = true := by
  unfold impl_points.f at h
  obtain ⟨t, ht, h⟩ := Option.bind_eq_some_iff.mp h
  exact points_wf_l t (read_wf s k _ _ t ht (by simp)) k _ _ _ r h (by simp)
end Go.Proofs.YtgahimbccbghnaaDoor.P
