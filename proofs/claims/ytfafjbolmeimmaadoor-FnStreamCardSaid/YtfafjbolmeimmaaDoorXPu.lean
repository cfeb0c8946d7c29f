/- The reference's reader of points comes to the same plain list. -/
import Derived.Test.YtfafjbolmeimmaaDoorF5
import Derived.Test.YtfafjbolmeimmaaDoorXPuB
namespace Go.Proofs.YtfafjbolmeimmaaDoor.P
open Go.RowKit Go.Proofs.YtfafjbolmeimmaaDoorW.PrintWords
set_option linter.unusedVariables false
theorem spoints_l (s : ByteArray) (hs : s.size ≤ 1099511627776) : ∀ i, ∀ acc : List Int, acc.length + (s.size - i) ≤ 1099511627776 → Ev (fun k => zbd.l0 k s acc (i : Int)) (acc ++ ptsFrom s i) := by
 refine rec_places s (motive := fun i => ∀ acc : List Int, acc.length + (s.size - i) ≤ 1099511627776 → Ev (fun k => zbd.l0 k s acc (i : Int)) (acc ++ ptsFrom s i)) ?_ ?_
 ·intro i h acc ha
  refine Ev.step (fun k => by rw [zbd.l0]) ?_
  rw [ptsFrom_ge h, List.append_nil]
  exact Ev.neg (by omega) (Ev.now _)
 intro i h ih acc ha
 have hb := dec_bd s i h
 refine Ev.step (fun k => by rw [zbd.l0]) ?_
 refine Ev.pos (by omega) (Ev.bind (next_f s hs i h) (Ev.pos (by omega) ?_))
 have e2 : wrap64 ((i : Int) + (nextR (dec s i)).2.1) = ((i + (dec s i).2 : Nat) : Int) := by
  show wrap64 ((i : Int) + ((dec s i).2 : Int)) = _
  rw [w64 (by omega) (by omega)]; omega
 rw [e2]
 refine (ih _ (by rw [List.length_append, List.length_singleton]; omega)).to ?_
 rw [ptsFrom_lt h]
 simp [nextR]
theorem spoints_f (s : ByteArray) (hs : s.size ≤ 1099511627776) : Ev (fun k => zbd.f k s) (pts s) :=
 (spoints_l s hs 0 [] (by simp; omega)).to (by simp [pts])
end Go.Proofs.YtfafjbolmeimmaaDoor.P
