/- impl.RuleFault, walked. -/
import Derived.Test.YtfafjbolmeimmaaDoorXRfV
namespace Go.Proofs.YtfafjbolmeimmaaDoor.P
open Go.RowKit Go.Proofs.YtfafjbolmeimmaaDoorW.PrintWords Go.Proofs.YtfafjbolmeimmaaDoorW.PrintLast Go.Proofs.YtfafjbolmeimmaaDoorW.PrintMore
set_option linter.unusedVariables false
set_option linter.unusedSimpArgs false
def impl_RuleFault.f (a0 : ByteArray) : Option Int := if a0.size ≤ 1099511627776 then some (if (whenI a0.data.toList).isSome = true then 0 else 1) else none
set_option maxHeartbeats 4000000 in
theorem impl_RuleFault.calls (a0 : ByteArray) (r : Int) (w : World) (hG : GT w) (h : impl_RuleFault.f a0 = some r) :
    Calls Tryd.prog 14 #[.string a0] w fun e w' => e = .returned (.int .i64 r) ∧ Below w.heap.size w w' := by
  unfold impl_RuleFault.f at h
  split at h
  case isFalse => cases h
  rename_i hs
  have hr := Option.some.inj h
  have HW := Aside0.mk (when_calls a0.data.toList w hG (show a0.data.toList.length ≤ _ from by rw [Array.length_toList]; exact hs))
  rw [bs_self] at HW
  clear h hs hG
  go_enter Tryd.func14, Tryd.ntmps14
  go_wp2_with (fail)
  refine HW.out.mono ?_
  rintro e w1 ⟨v, rfl, hR, hb⟩
  have HB := Aside0.mk hb
  clear hR hb HW
  cases hw : (whenI a0.data.toList).isSome with
  | true =>
    rw [hw, if_pos rfl] at hr
    subst hr
    go_wp2
    go_ret
    exact ⟨rfl, HB.out⟩
  | false =>
    rw [hw, if_neg (by simp)] at hr
    subst hr
    go_wp2
    go_ret
    exact ⟨rfl, HB.out⟩
end Go.Proofs.YtfafjbolmeimmaaDoor.P
