/- The program's one: is a point one of a text's (of ASCII alone)? -/
import Derived.Test.YtbppeepihlajoaaDoorL0
import Derived.Laws.RangeString
import Derived.Laws.RangeAny
namespace Go.Proofs.YtbppeepihlajoaaDoor.P
open Go.RowKit Go.Proofs.YtbppeepihlajoaaDoorW.PrintWords Go.Proofs.YtbppeepihlajoaaDoorW.PrintLast Go.Proofs.YtbppeepihlajoaaDoorW.PrintMore
set_option linter.unusedVariables false
set_option linter.unusedSimpArgs false
def oneB (p : Int) (l : List UInt8) : Bool := l.any fun b => (b.toNat : Int) == p
def zbI.f (a0 : Int) (a1 : ByteArray) : Option Bool := if (a1.data.toList.all fun b => decide (b.toNat < 128)) = true then some (oneB a0 a1.data.toList) else none
set_option maxHeartbeats 2000000 in
theorem zbI.calls (a0 : Int) (a1 : ByteArray) (r : Bool) (w : World) (h : zbI.f a0 a1 = some r) :
  Calls Tryd.prog 123 #[.int .i64 a0, .string a1] w fun e w' => e = .returned (.bool r) ∧ Below w.heap.size w w' := by
 unfold zbI.f at h
 by_cases hs : (a1.data.toList.all fun b => decide (b.toNat < 128)) = true
 case neg => rw [if_neg hs] at h; cases h
 rw [if_pos hs] at h
 have HS := zab.mk hs
 have HR := zab.mk (Option.some.inj h)
 clear h hs
 go_enter Tryd.func123, Tryd.ntmps123
 go_wp2
 go_loopw [4] (fun v4 w' => ∃ (pos : Nat), w' = w.iter a1 pos ∧ v4 = .bool false ∧ pos ≤ a1.size ∧ zab (oneB a0 (a1.data.toList.drop pos) = r)) (fun _ w' => a1.size - w'.iterPos w.heap.size)
 case atStart => exact ⟨0, rfl, rfl, Nat.zero_le _, ⟨by rw [List.drop_zero]; exact HR.out⟩⟩
 case round =>
  obtain ⟨pos, rfl, rfl, hpos, HE⟩ := hrel
  by_cases hp : pos < a1.size
  ·have hl : pos < a1.data.toList.length := by simpa using hp
   have ha : (a1[pos]'hp).toNat < 128 := by
    have h1 := List.all_eq_true.1 HS.out (a1.data.toList[pos]) (List.getElem_mem hl)
    exact of_decide_eq_true h1
   have hE := HE.out
   rw [List.drop_eq_getElem_cons hl] at hE
   unfold oneB at hE
   rw [List.any_cons] at hE
   have eb : a1.data.toList[pos] = a1[pos]'hp := rfl
   rw [eb] at hE
   have hnx : ∀ ty, (Instr.next (.pointer (some ⟨w.heap.size, 0, none⟩)) true ty).run Tryd.prog (w.iter a1 pos) = _ := fun ty => run_next_ascii w a1 pos ty hp ha
   have hb : 0 ≤ ((a1[pos]'hp).toNat : Int) ∧ ((a1[pos]'hp).toNat : Int) < 128 := by omega
   generalize ((a1[pos]'hp).toNat : Int) = c at *
   obtain ⟨hb0, hb1⟩ := hb
   clear HE eb hl
   by_cases hc : c = a0
   ·subst hc
    have hr : r = true := by rw [← hE]; simp
    subst hr; clear hE
    go_wp2
    go_ret
    exact ⟨rfl, zac (Below.refl _ _) _⟩
   have c1 : (c == a0) = false := beq_eq_false_iff_ne.mpr hc
   rw [c1, Bool.false_or] at hE
   have HE := zab.mk hE; clear hE
   go_wp2
   go_roundw
   case rel => exact ⟨pos + 1, rfl, rfl, by omega, HE⟩
   case measure => simp; omega
  have hE := HE.out
  rw [List.drop_eq_nil_of_le (by simp; omega)] at hE
  have hr : r = false := hE.symm
  subst hr; clear HE hE
  have hnx : ∀ ty, (Instr.next (.pointer (some ⟨w.heap.size, 0, none⟩)) true ty).run Tryd.prog (w.iter a1 pos) = _ := fun ty => run_next_end w a1 pos ty hp
  go_wp2
  go_ret
  exact ⟨rfl, zac (Below.refl _ _) _⟩
end Go.Proofs.YtbppeepihlajoaaDoor.P
