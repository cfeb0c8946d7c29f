/- What the shelf's sort leaves behind, in the words of the print: an own row of whole numbers put anew. -/
import Derived.Test.YtgahimbccbghnaaDoorD0
import Derived.Sort.Row
import Derived.Sort.Grow
import Derived.Lib.SlicesCompact
namespace Go.Proofs.YtgahimbccbghnaaDoor.P
open Go.RowKit Go.Sort Go.Proofs.YtgahimbccbghnaaDoorW.PrintWords Go.Proofs.YtgahimbccbghnaaDoorW.PrintMore
set_option linter.unusedVariables false
set_option linter.unusedSimpArgs false
/-- A row of the call's own holds its numbers, and none of its cells is frozen. -/
theorem own_holds {w : World} {base : Nat} {e : Nat} {g n cap : Nat} {xs : List Int} (ho : w.ownsRow base e 1 (.slice (some ⟨g, 0, none⟩) n cap) xs.length (encs (Value.int .i64) xs)) : Holds (Value.int .i64) w g 0 xs.toArray ∧ g < w.heap.size ∧ base ≤ g ∧ n = xs.length ∧ n ≤ cap ∧ cap ≤ maxLen := by
  obtain ⟨hl, ⟨hv, _⟩ | ⟨g', cap', cur, hv, hg, hb, hn, hc, hs, ht⟩⟩ := ho
  · cases hv
  · injection hv with h1 h2 h3
    injection h1 with h1
    injection h1 with h1
    subst h1 h2 h3
    refine ⟨fun j hj => ?_, blk_lt hb, hg, rfl, hn, hc⟩
    have hj' : j < xs.length := by simpa using hj
    refine ⟨?_, ?_⟩
    · have hc1 := blk_cell hb j
      rw [Nat.zero_add]
      rw [hc1]
      have hcur : j < cur.size := by omega
      have e1 : (cur.toList.take (xs.length * 1))[j]? = (encs (Value.int .i64) xs)[j]? := by rw [ht]
      rw [List.getElem?_take_of_lt (by omega), Array.getElem?_toList] at e1
      rw [e1]
      simp [encs, hj']
    · exact blk_frozen hb (0 + j)
theorem own_put {w w' : World} {base : Nat} {e : Nat} {g n cap : Nat} {xs : List Int} (ho : w.ownsRow base e 1 (.slice (some ⟨g, 0, none⟩) n cap) xs.length (encs (Value.int .i64) xs)) (d : List Int) (hd : d.length = xs.length) (m : Nat) (hm : m ≤ d.length) {q : Nat} {os : Array Obj}
    (hw : w' = grow (putRow (Value.int .i64) (Sort.ahead w q) g 0 d.toArray) os) :
    w'.ownsRow base e 1 (.slice (some ⟨g, 0, none⟩) m cap) (d.take m).length (encs (Value.int .i64) (d.take m)) ∧ Below base w w' ∧ w.grownBy w' (some g) := by
  obtain ⟨hl, ⟨hv, _⟩ | ⟨g', cap', cur, hv, hg, hb, hn, hc, hs, ht⟩⟩ := ho
  · cases hv
  injection hv with h1 h2 h3
  injection h1 with h1
  injection h1 with h1
  subst h1 h2 h3
  have hgl := blk_lt hb
  have hsz : w.heap.size ≤ w'.heap.size := by subst hw; simp [grow, putRow, mapBlock, Sort.ahead]
  have hoth : ∀ k, k < w.heap.size → k ≠ g → w'.heap[k]? = w.heap[k]? := by
    intro k hk hne
    subst hw
    show (w.heap.modify g (onCells (putCells (Value.int .i64) 0 d.toArray)) ++ os)[k]? = _
    rw [Array.getElem?_append_left (by simpa using hk), Array.getElem?_modify, if_neg (Ne.symm hne)]
  have hbk : w'.heap[g]? = some (.cells (putCells (Value.int .i64) 0 d.toArray cur) e (0, 0)) := by
    subst hw
    show (w.heap.modify g (onCells (putCells (Value.int .i64) 0 d.toArray)) ++ os)[g]? = _
    rw [Array.getElem?_append_left (by simpa using hgl), Array.getElem?_modify, if_pos rfl, hb]
    rfl
  have htl : (d.take m).length = m := by rw [List.length_take]; omega
  refine ⟨⟨by simp [encs], .inr ⟨g, cap, _, by rw [htl], hg, hbk, by rw [htl]; omega, hc, by simp [putCells]; omega, ?_⟩⟩, ⟨by subst hw; rfl, by subst hw; rfl, by subst hw; rfl, hsz, fun k hk => hoth k (by omega) (by omega)⟩, ⟨by subst hw; rfl, by subst hw; rfl, by subst hw; rfl, hsz, fun k hk hne => hoth k hk (fun h => hne (by rw [h]))⟩⟩
  rw [htl]
  apply List.ext_getElem?
  intro j
  by_cases hj : j < m
  · rw [List.getElem?_take_of_lt (by omega)]
    have hjc : j < cur.size := by omega
    have hjd : j < d.length := by omega
    simp [putCells, encs, Array.getElem?_mapIdx, hjc, hjd, hj, List.getElem?_take_of_lt hj]
  · rw [List.getElem?_eq_none (by rw [List.length_take]; omega), List.getElem?_eq_none (by simp [encs]; omega)]
end Go.Proofs.YtgahimbccbghnaaDoor.P
