/- The text of points, in plain lists. -/
import Derived.Test.YtfafjbolmeimmaaDoorWWords
import Derived.Lib.RuneBytes
namespace Go.Proofs.YtfafjbolmeimmaaDoor.P
open Go.RowKit Go.Proofs.YtfafjbolmeimmaaDoorW.PrintWords
set_option linter.unusedVariables false
def isPt (p : Int) : Bool := decide (0 ≤ p ∧ p ≤ 1114111 ∧ (p < 55296 ∨ 57343 < p))
theorem isPt_iff {p : Int} : isPt p = true ↔ 0 ≤ p ∧ p ≤ 1114111 ∧ (p < 55296 ∨ 57343 < p) := by unfold isPt; simp
def wrNums (p : Int) : List Int :=
 if p < 128 then [p % 256] else if p < 2048 then [(192 + p / 64) % 256, (128 + p % 64) % 256]
 else if p < 65536 then [(224 + p / 4096) % 256, (128 + p / 64 % 64) % 256, (128 + p % 64) % 256]
 else [(240 + p / 262144) % 256, (128 + p / 4096 % 64) % 256, (128 + p / 64 % 64) % 256, (128 + p % 64) % 256]
def wrP (p : Int) : ByteArray := strOfNums (wrNums (if isPt p then p else 65533))
def wrB (p : Int) : List Int := wrNums (if isPt p then p else 65533)
def txtB (l : List Int) : List Int := l.flatMap wrB
def txt (l : List Int) : ByteArray := strOfNums (txtB l)
theorem wrB_len (p : Int) : 1 ≤ (wrB p).length ∧ (wrB p).length ≤ 4 := by
 unfold wrB
 generalize (if isPt p = true then p else 65533) = q
 unfold wrNums
 repeat' split
 all_goals (simp only [List.length_cons, List.length_nil]; omega)
theorem txtB_len (l : List Int) : (txtB l).length ≤ 4 * l.length := by
 induction l with
 | nil => simp [txtB]
 | cons p r ih =>
  have := wrB_len p
  have e : txtB (p :: r) = wrB p ++ txtB r := rfl
  rw [e, List.length_append, List.length_cons]
  omega
theorem runeZ_eq (p : Int) (h0 : 0 ≤ p) (h1 : p ≤ 1114111) (h2 : p < 55296 ∨ 57343 < p) : Lib.encodeRuneZ p = wrNums p := by
 unfold wrNums
 by_cases a : p < 128
 ·rw [if_pos a, Lib.encodeRuneZ_one h0 (by omega), Int.emod_eq_of_lt h0 (by omega)]
 rw [if_neg a]
 by_cases b : p < 2048
 ·rw [if_pos b, Lib.encodeRuneZ_two (by omega) (by omega), Int.emod_eq_of_lt (a := 192 + p / 64) (by omega) (by omega), Int.emod_eq_of_lt (a := 128 + p % 64) (by omega) (by omega)]
 rw [if_neg b]
 by_cases c : p < 65536
 ·rw [if_pos c, Lib.encodeRuneZ_three (by omega), Int.emod_eq_of_lt (a := 224 + p / 4096) (by omega) (by omega), Int.emod_eq_of_lt (a := 128 + p / 64 % 64) (by omega) (by omega), Int.emod_eq_of_lt (a := 128 + p % 64) (by omega) (by omega)]
 rw [if_neg c, Lib.encodeRuneZ_four (by omega) h1, Int.emod_eq_of_lt (a := 240 + p / 262144) (by omega) (by omega), Int.emod_eq_of_lt (a := 128 + p / 4096 % 64) (by omega) (by omega), Int.emod_eq_of_lt (a := 128 + p / 64 % 64) (by omega) (by omega), Int.emod_eq_of_lt (a := 128 + p % 64) (by omega) (by omega)]
theorem runeCells_eq (p : Int) (h : isPt p = true) : Lib.runeCells p = encs (Value.int .u8) (wrNums p) := by
 obtain ⟨h0, h1, h2⟩ := isPt_iff.1 h
 unfold Lib.runeCells
 rw [runeZ_eq p h0 h1 h2]
 rfl
theorem txtB_snoc (l : List Int) (i : Nat) (h : i < l.length) : txtB (l.take (i + 1)) = txtB (l.take i) ++ wrB l[i] := by
 rw [List.take_succ_eq_append_getElem h]
 unfold txtB
 rw [List.flatMap_append]
 simp
end Go.Proofs.YtfafjbolmeimmaaDoor.P
