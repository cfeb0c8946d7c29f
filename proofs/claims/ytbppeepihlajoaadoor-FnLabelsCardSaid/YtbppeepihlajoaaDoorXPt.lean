/- The points of a text, as the program lists them. -/
import Derived.Test.YtbppeepihlajoaaDoorB6
import Derived.Test.YtbppeepihlajoaaDoorB13
import Derived.Test.YtbppeepihlajoaaDoorXPtB
namespace Go.Proofs.YtbppeepihlajoaaDoor.P
open Go.RowKit Go.Proofs.YtbppeepihlajoaaDoorW.PrintWords
set_option linter.unusedVariables false
theorem points_l (l : List S110) (hl : l.length ≤ 1099511627776) : ∀ (d i : Nat), l.length - i = d → i ≤ l.length → ∀ acc : List Int, acc.length ≤ i → Ev (fun k => za0.l0 k acc l (l.length : Int) (i : Int)) (acc ++ (l.drop i).map (·.f0)) := by
 intro d
 induction d with
 | zero =>
  intro i hd hi acc ha
  refine Ev.step (fun k => by rw [za0.l0]) ?_
  refine Ev.neg (by omega) ((Ev.now _).to ?_)
  rw [List.drop_eq_nil_of_le (by omega)]
  simp
 | succ d ih =>
  intro i hd hi acc ha
  have hlt : i < l.length := by omega
  refine Ev.step (fun k => by rw [za0.l0]) ?_
  refine Ev.pos (by omega) (Ev.pos (by omega) (Ev.pos (by omega) (Ev.pos (by omega) ?_)))
  have e2 := w_succ i (by omega)
  have e3 : rd_T110 l (i : Int) = l[i] := by simp [rd_T110, hlt]
  rw [e2, e3]
  refine (ih (i + 1) (by omega) (by omega) _ (by rw [List.length_append, List.length_singleton]; omega)).to ?_
  rw [List.drop_eq_getElem_cons hlt, List.map_cons, List.append_assoc]
  rfl
theorem points_f (s : ByteArray) (hs : s.size ≤ 1099511627776) : Ev (fun k => za0.f k s) (pts s) := by
 refine Ev.bind (read_f s hs) ?_
 have := ats_len s 0
 refine (points_l (ats s) (by unfold ats; omega) _ 0 rfl (by omega) [] (by simp)).to ?_
 simp [ats, pts, ats_pts]
end Go.Proofs.YtbppeepihlajoaaDoor.P
