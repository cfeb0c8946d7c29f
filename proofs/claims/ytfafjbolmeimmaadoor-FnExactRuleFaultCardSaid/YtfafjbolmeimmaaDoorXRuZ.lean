/- FnExactRuleFault: both answer alike. -/
import Derived.Test.YtfafjbolmeimmaaDoorU4
namespace Go.Proofs.YtfafjbolmeimmaaDoor.P
open Go.RowKit Go.Proofs.YtfafjbolmeimmaaDoorW.PrintWords
set_option linter.unusedVariables false
theorem law_RuleFault (a0 : ByteArray) : laws_FnExactRuleFault.f a0 = some true := by
  unfold laws_FnExactRuleFault.f
  split
  · rfl
  · rename_i h
    have h1 : a0.size ≤ 1099511627776 := by omega
    have e1 : spec_RuleFault.f a0 = some (if (pRule a0.data.toList && decide (a0.size ≤ 200)) = true then 0 else 1) := by unfold spec_RuleFault.f; rw [if_pos h1]
    have e2 : impl_RuleFault.f a0 = some (if (whenI a0.data.toList).isSome = true then 0 else 1) := by unfold impl_RuleFault.f; rw [if_pos h1]
    have hl : a0.data.toList.length = a0.size := by rw [Array.length_toList]; rfl
    have e3 : (whenI a0.data.toList).isSome = (pRule a0.data.toList && decide (a0.size ≤ 200)) := by
      by_cases h2 : a0.size ≤ 200
      · rw [when_rule _ (by omega), decide_eq_true h2, Bool.and_true]
      · rw [decide_eq_false h2, Bool.and_false]
        unfold whenI
        rw [if_pos (by omega)]
        rfl
    rw [e1, e2, e3]
    show (if (if _ then (0 : Int) else 1) = (if _ then (0 : Int) else 1) then some true else some false) = some true
    rw [if_pos rfl]
end Go.Proofs.YtfafjbolmeimmaaDoor.P
