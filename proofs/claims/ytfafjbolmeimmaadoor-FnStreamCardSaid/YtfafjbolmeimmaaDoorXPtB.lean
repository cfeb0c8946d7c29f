/- The points of a text: both readers come to the same plain list. -/
import Derived.Test.YtfafjbolmeimmaaDoorF15
import Derived.Test.YtfafjbolmeimmaaDoorXEv
import Derived.Lib.RuneCountTail
namespace Go.Proofs.YtfafjbolmeimmaaDoor.P
open Go.RowKit Go.Proofs.YtfafjbolmeimmaaDoorW.PrintWords
set_option linter.unusedVariables false
theorem bt_get (s : ByteArray) (i : Nat) : bt s (i : Int) = ((s.get! i).toNat : Int) := by
 unfold bt
 rw [Int.toNat_natCast]
 by_cases h : i < s.size
 ·rw [dif_pos h, Utf8W.get!_of_lt s i h]
 rw [dif_neg h]
 cases s with
 | mk d =>
  have : d.size ≤ i := Nat.le_of_not_lt h
  show (0 : Int) = ((d[i]!).toNat : Int)
  rw [getElem!_neg d i (by omega)]
  rfl
def dec (s : ByteArray) (i : Nat) : Nat × Nat := Utf8.decode s i
theorem dec_eq (s : ByteArray) (i : Nat) : dec s i = Lib.decodeN (s.size - i) (s.get! i).toNat (s.get! (i + 1)).toNat (s.get! (i + 2)).toNat (s.get! (i + 3)).toNat := Lib.decode_at s i
theorem decodeN_bd (n b0 b1 b2 b3 : Nat) (hn : 1 ≤ n) : 1 ≤ (Lib.decodeN n b0 b1 b2 b3).2 ∧ (Lib.decodeN n b0 b1 b2 b3).2 ≤ 4 ∧ (Lib.decodeN n b0 b1 b2 b3).2 ≤ n ∧ (Lib.decodeN n b0 b1 b2 b3).1 ≤ 1114111 ∧ ((Lib.decodeN n b0 b1 b2 b3).1 < 55296 ∨ 57344 ≤ (Lib.decodeN n b0 b1 b2 b3).1) := by
 unfold Lib.decodeN
 repeat' split
 all_goals (simp only []; omega)
theorem dec_bd (s : ByteArray) (i : Nat) (h : i < s.size) : 1 ≤ (dec s i).2 ∧ (dec s i).2 ≤ 4 ∧ (dec s i).2 ≤ s.size - i ∧ (dec s i).1 ≤ 1114111 ∧ ((dec s i).1 < 55296 ∨ 57344 ≤ (dec s i).1) := by
 rw [dec_eq]
 exact decodeN_bd _ _ _ _ _ (by omega)
def badAt (s : ByteArray) (i : Nat) : Bool := (dec s i).1 == 65533 && (dec s i).2 == 1
def ptsFrom (s : ByteArray) (i : Nat) : List Int :=
 if h : i < s.size then ((dec s i).1 : Int) :: ptsFrom s (i + (dec s i).2) else []
termination_by s.size - i
decreasing_by have := dec_bd s i h; omega
def pts (s : ByteArray) : List Int := ptsFrom s 0
theorem ptsFrom_lt {s : ByteArray} {i : Nat} (h : i < s.size) : ptsFrom s i = ((dec s i).1 : Int) :: ptsFrom s (i + (dec s i).2) := by rw [ptsFrom, dif_pos h]
theorem ptsFrom_ge {s : ByteArray} {i : Nat} (h : ¬ i < s.size) : ptsFrom s i = [] := by rw [ptsFrom, dif_neg h]
def atsFrom (s : ByteArray) (i : Nat) : List S78 :=
 if h : i < s.size then ⟨((dec s i).1 : Int), (i : Int), ((i + (dec s i).2 : Nat) : Int), badAt s i⟩ :: atsFrom s (i + (dec s i).2) else []
termination_by s.size - i
decreasing_by have := dec_bd s i h; omega
def ats (s : ByteArray) : List S78 := atsFrom s 0
theorem atsFrom_lt {s : ByteArray} {i : Nat} (h : i < s.size) : atsFrom s i = ⟨((dec s i).1 : Int), (i : Int), ((i + (dec s i).2 : Nat) : Int), badAt s i⟩ :: atsFrom s (i + (dec s i).2) := by rw [atsFrom, dif_pos h]
theorem atsFrom_ge {s : ByteArray} {i : Nat} (h : ¬ i < s.size) : atsFrom s i = [] := by rw [atsFrom, dif_neg h]
theorem rec_places (s : ByteArray) {motive : Nat → Prop} (end_ : ∀ i, ¬ i < s.size → motive i) (step : ∀ i, i < s.size → motive (i + (dec s i).2) → motive i) : ∀ i, motive i := by
 have : ∀ d i, s.size - i ≤ d → motive i := by
  intro d
  induction d with
  | zero => intro i hi; exact end_ i (by omega)
  | succ d ih =>
   intro i hi
   by_cases h : i < s.size
   ·have := dec_bd s i h
    exact step i h (ih _ (by omega))
   exact end_ i h
 exact fun i => this _ i (Nat.le_refl _)
theorem pts_len (s : ByteArray) : ∀ i, (ptsFrom s i).length ≤ s.size - i := by
 refine rec_places s (motive := fun i => (ptsFrom s i).length ≤ s.size - i) ?_ ?_
 ·intro i h; show _ ≤ _; rw [ptsFrom_ge h]; simp
 intro i h ih
 have := dec_bd s i h
 show _ ≤ _
 rw [ptsFrom_lt h, List.length_cons]; omega
theorem decodeGo_at (s : ByteArray) (i : Nat) (h : i < s.size) : Lib.decodeGo (s.extract i s.size) = dec s i := by
 unfold Lib.decodeGo
 rw [if_neg (by rw [Lib.tail_size]; omega), Lib.tail_decode, Nat.add_zero]
 rfl
theorem read_ev (s : ByteArray) (hs : s.size ≤ 1099511627776) : ∀ i, ∀ acc : List S78, acc.length + (s.size - i) ≤ 1099511627776 → Ev (fun k => zbE.l0 k s acc (i : Int)) (acc ++ atsFrom s i) := by
 refine rec_places s (motive := fun i => ∀ acc : List S78, acc.length + (s.size - i) ≤ 1099511627776 → Ev (fun k => zbE.l0 k s acc (i : Int)) (acc ++ atsFrom s i)) ?_ ?_
 ·intro i h acc ha
  refine Ev.step (fun k => by rw [zbE.l0]) ?_
  rw [atsFrom_ge h, List.append_nil]
  exact Ev.neg (by omega) (Ev.now _)
 intro i h ih acc ha
 have hb := dec_bd s i h
 refine Ev.step (fun k => by rw [zbE.l0]) ?_
 refine Ev.pos (by omega) (Ev.pos (by omega) (Ev.pos (by omega) ?_))
 rw [Int.toNat_natCast]
 refine Ev.bind (Ev.done (r := (((dec s i).1 : Int), ((dec s i).2 : Int))) (by unfold utf8_DecodeRuneInString.f; rw [decodeGo_at s i h])) ?_
 have e1 : wrap64 ((dec s i).1 : Int) = ((dec s i).1 : Int) := w64 (by omega) (by omega)
 have e2 : wrap64 ((i : Int) + ((dec s i).2 : Int)) = ((i + (dec s i).2 : Nat) : Int) := by rw [w64 (by omega) (by omega)]; omega
 simp only [e1, e2]
 rw [atsFrom_lt h]
 have key : ∀ b : Bool, b = badAt s i → Ev (fun k => if acc.length < 4398046511104 then zbE.l0 k s (acc ++ [(⟨((dec s i).1 : Int), (i : Int), ((i + (dec s i).2 : Nat) : Int), b⟩ : S78)]) ((i + (dec s i).2 : Nat) : Int) else none) (acc ++ (⟨((dec s i).1 : Int), (i : Int), ((i + (dec s i).2 : Nat) : Int), badAt s i⟩ :: atsFrom s (i + (dec s i).2))) := by
  rintro b rfl
  refine Ev.pos (by omega) ?_
  refine (ih _ ?_).to (by simp)
  rw [List.length_append, List.length_singleton]
  omega
 by_cases h3 : (dec s i).1 = 65533
 ·refine Ev.pos (by omega) (key _ ?_)
  unfold badAt
  rw [h3]
  by_cases h4 : (dec s i).2 = 1
  ·rw [h4]; rfl
  have : ¬ (((dec s i).2 : Int) = 1) := by omega
  rw [beq_eq_false_iff_ne.2 this, beq_eq_false_iff_ne.2 h4]
  rfl
 refine Ev.neg (by omega) (key _ ?_)
 unfold badAt
 rw [beq_eq_false_iff_ne.2 h3]
 rfl
theorem read_f (s : ByteArray) (hs : s.size ≤ 1099511627776) : Ev (fun k => zbE.f k s) (ats s) :=
 (read_ev s hs 0 [] (by simp; omega)).to (by simp [ats])
end Go.Proofs.YtfafjbolmeimmaaDoor.P
