/- The draws' numbers, in plain words. -/
import Derived.Test.YtfafjbolmeimmaaDoorXSn
import Derived.Test.YtfafjbolmeimmaaDoorXEv
namespace Go.Proofs.YtfafjbolmeimmaaDoor.P
open Go.RowKit Go.Proofs.YtfafjbolmeimmaaDoorW.PrintWords
set_option linter.unusedVariables false
theorem wrapU_small {x : Int} (h0 : 0 ≤ x) (h1 : x < 18446744073709551616) : IntKind.u64.wrap x = x := by
 simp [IntKind.wrap, IntKind.bits, IntKind.signed]
 omega
theorem wrapU_bd (x : Int) : 0 ≤ IntKind.u64.wrap x ∧ IntKind.u64.wrap x < 18446744073709551616 := by
 simp [IntKind.wrap, IntKind.bits, IntKind.signed]
 omega
theorem drawN_bd (v m a1 : Int) (h1 : 1 < a1) (h2 : a1 ≤ 9223372036854775807) : 0 ≤ drawN v m a1 ∧ drawN v m a1 < a1 := by
 unfold drawN
 have hb := wrapU_bd (v + m / 1048576)
 rw [wrapU_small (x := a1) (by omega) (by omega)]
 generalize IntKind.u64.wrap (v + m / 1048576) = y at hb
 have e : Int.tmod y a1 = y % a1 := Int.tmod_eq_emod_of_nonneg hb.1
 have h3 := Int.emod_nonneg y (b := a1) (by omega)
 have h4 := Int.emod_lt_of_pos y (b := a1) (by omega)
 rw [e, w64 (by omega) (by omega)]
 exact ⟨h3, h4⟩
theorem n_ex (l : List Int) (p m z a1 : Int) (hp : 0 ≤ p) (hp2 : p ≤ 1000000000) (hl : l.length ≤ 1000000000) (ha : a1 ≤ 9223372036854775807) :
  ∃ r q m', zaj.f l p m z a1 = some (r, q, m', z) ∧ 0 ≤ r ∧ (1 ≤ a1 → r < a1) ∧ r ≤ max 0 (a1 - 1) ∧ 0 ≤ q ∧ q ≤ max p l.length := by
 unfold zaj.f
 by_cases h : a1 ≤ 1
 ·exact ⟨0, p, m, by rw [if_pos h], by omega, by omega, by omega, by omega, by omega⟩
 rw [if_neg h, if_neg (by rw [wrapU_small (by omega) (by omega)]; omega)]
 by_cases h2 : p < (l.length : Int)
 ·rw [if_pos h2, if_pos hp]
  have := drawN_bd (IntKind.u64.wrap (rd l p)) (mixN m) a1 (by omega) ha
  exact ⟨_, _, _, rfl, this.1, fun _ => this.2, by omega, by rw [w64 (by omega) (by omega)]; omega, by rw [w64 (by omega) (by omega)]; omega⟩
 rw [if_neg h2]
 have := drawN_bd 0 (mixN m) a1 (by omega) ha
 exact ⟨_, _, _, rfl, this.1, fun _ => this.2, by omega, hp, by omega⟩
end Go.Proofs.YtfafjbolmeimmaaDoor.P
