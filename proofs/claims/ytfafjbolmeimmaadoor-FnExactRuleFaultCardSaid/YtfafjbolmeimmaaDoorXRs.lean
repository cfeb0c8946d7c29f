/- spec.RuleFault, walked. -/
import Derived.Test.YtfafjbolmeimmaaDoorXRgW
namespace Go.Proofs.YtfafjbolmeimmaaDoor.P
open Go.RowKit Go.Proofs.YtfafjbolmeimmaaDoorW.PrintWords Go.Proofs.YtfafjbolmeimmaaDoorW.PrintLast Go.Proofs.YtfafjbolmeimmaaDoorW.PrintMore
set_option linter.unusedVariables false
set_option linter.unusedSimpArgs false
def spec_RuleFault.f (a0 : ByteArray) : Option Int := if a0.size ≤ 1099511627776 then some (if (pRule a0.data.toList && decide (a0.size ≤ 200)) = true then 0 else 1) else none
set_option maxHeartbeats 4000000 in
theorem spec_RuleFault.calls (a0 : ByteArray) (r : Int) (w : World) (h : spec_RuleFault.f a0 = some r) :
    Calls Tryd.prog 13 #[.string a0] w fun e w' => e = .returned (.int .i64 r) ∧ Below w.heap.size w w' := by
  unfold spec_RuleFault.f at h
  split at h
  case isFalse => cases h
  rename_i hs
  have hr := Option.some.inj h
  have HW := Aside0.mk (rule_calls a0 hs w)
  clear h hs
  go_enter Tryd.func13, Tryd.ntmps13
  go_wp2_with (fail)
  refine HW.out.mono ?_
  rintro e w1 ⟨v, rfl, hb⟩
  have HB := Aside0.mk hb
  clear hb HW
  cases hw : (pRule a0.data.toList && decide (a0.size ≤ 200)) with
  | true =>
    rw [hw, if_pos rfl] at hr
    subst hr
    go_wp2
    go_ret
    exact ⟨rfl, HB.out⟩
  | false =>
    rw [hw, if_neg (by simp)] at hr
    subst hr
    go_wp2
    go_ret
    exact ⟨rfl, HB.out⟩
end Go.Proofs.YtfafjbolmeimmaaDoor.P
