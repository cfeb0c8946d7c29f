/- Parts of a proof: words of the print tool that this claim uses, or plain lists. -/
import Derived.Test.YtfafjbolmeimmaaGreatDoorAb
import Derived.Test.YtfafjbolmeimmaaGreatDoorF7
import Derived.Test.YtfafjbolmeimmaaGreatDoorJ24
import Derived.Test.YtfafjbolmeimmaaGreatDoorF5
import Derived.Test.YtfafjbolmeimmaaGreatDoorJ18
import Derived.Lib.RuneCountTail
import Derived.Test.YtfafjbolmeimmaaGreatDoorJ6
import Derived.Test.YtfafjbolmeimmaaGreatDoorF12
namespace Go.Proofs.YtfafjbolmeimmaaGreatDoor.P
open Go.RowKit Go.Proofs.YtfafjbolmeimmaaGreatDoorW.PrintWords
set_option linter.unusedVariables false
theorem rdS (l : List ByteArray) (i : Nat) (h : i < l.length) : rdOf ByteArray.empty l (i : Int) = l[i] := by simp [rdOf, h]
theorem szS_l (l : List ByteArray) (hl : l.length ≤ 9223372036854775807) (hs : ∀ s ∈ l, s.size ≤ 9223372036854775807) : ∀ (d i : Nat), l.length - i = d → i ≤ l.length → ∀ a : Int, 0 ≤ a → a ≤ 1048576 →
  ∃ r, Ev (fun k => zaZ.l0 k l a (i : Int)) r ∧ r ≤ a ∧ (0 ≤ r → ∀ s ∈ l.drop i, s.size ≤ 1048576) := by
 intro d
 induction d with
 | zero =>
  intro i hd hi a h0 h1
  refine ⟨a, Ev.step (fun k => by rw [zaZ.l0]) (Ev.neg yq9 (Ev.now _)), Int.le_refl _, fun _ s hm => ?_⟩
  rw [List.drop_eq_nil_of_le yq9] at hm
  cases hm
 | succ d ih =>
  intro i hd hi a h0 h1
  have hlt : i < l.length := by omega
  have hz := hs l[i] (List.getElem_mem hlt)
  have e3 : wrap64 (a - (l[i].size : Int)) = a - (l[i].size : Int) := w64 yq9 yq9
  have e2 : wrap64 ((i : Int) + 1) = ((i + 1 : Nat) : Int) := by rw [w64 yq9 yq9]; omega
  by_cases hn : a - (l[i].size : Int) < 0
  ·refine ⟨-1, Ev.step (fun k => by rw [zaZ.l0]) (Ev.pos yq9 (Ev.pos yq9 ?_)), yq9, fun h => by omega⟩
   rw [rdS l i hlt, e3]
   exact Ev.pos hn (Ev.now _)
  obtain ⟨r, hr, hra, hrs⟩ := ih (i + 1) yq9 yq9 (a - (l[i].size : Int)) yq9 yq9
  refine ⟨r, Ev.step (fun k => by rw [zaZ.l0]) (Ev.pos yq9 (Ev.pos yq9 ?_)), yq9, fun h s hm => ?_⟩
  ·rw [rdS l i hlt, e3, e2]
   exact Ev.neg hn hr
  rw [List.drop_eq_getElem_cons hlt] at hm
  rcases List.mem_cons.1 hm with rfl | h2
  ·omega
  exact hrs h s h2
theorem szS_f (l : List ByteArray) (hl : l.length ≤ 9223372036854775807) (hs : ∀ s ∈ l, s.size ≤ 9223372036854775807) (a : Int) (h0 : 0 ≤ a) (h1 : a ≤ 1048576) :
  ∃ r, Ev (fun k => zaZ.f k l a) r ∧ r ≤ a ∧ (0 ≤ r → l.length ≤ 1048576 ∧ ∀ s ∈ l, s.size ≤ 1048576) := by
 have e3 : wrap64 (a - (l.length : Int)) = a - (l.length : Int) := w64 yq9 yq9
 by_cases hn : a - (l.length : Int) < 0
 ·refine ⟨-1, ?_, yq9, fun h => by omega⟩
  unfold zaZ.f
  rw [e3]
  exact Ev.pos hn (Ev.now _)
 obtain ⟨r, hr, hra, hrs⟩ := szS_l l hl hs _ 0 rfl yq9 (a - (l.length : Int)) yq9 yq9
 refine ⟨r, ?_, yq9, fun h => ⟨yq9, fun s hm => hrs h s (by simpa using hm)⟩⟩
 unfold zaZ.f
 rw [e3]
 exact Ev.neg hn hr
theorem copy_step {α : Type} (l : List α) (d : α) (i : Nat) (h : i < l.length) : ((l.take i ++ List.replicate (l.length - i) d).set i l[i]) = l.take (i + 1) ++ List.replicate (l.length - (i + 1)) d := by
 apply List.ext_getElem
 ·simp; omega
 intro j h1 h2
 simp at h1
 rw [List.getElem_set]
 by_cases e : i = j
 ·subst e
  rw [if_pos rfl, List.getElem_append_left (by simp; omega)]
  simp
 rw [if_neg e]
 by_cases c : j < i
 ·rw [List.getElem_append_left (by simp; omega), List.getElem_append_left (by simp; omega)]
  simp
 rw [List.getElem_append_right (by simp; omega), List.getElem_append_right (by simp; omega)]
 simp
theorem toS_l (l : List ByteArray) (hl : l.length ≤ 1099511627776) : ∀ (d i : Nat), l.length - i = d → i ≤ l.length →
  Ev (fun k => za2.l0 k l (l.take i ++ List.replicate (l.length - i) (⟨#[]⟩ : ByteArray)) (i : Int)) l := by
 intro d
 induction d with
 | zero =>
  intro i hd hi
  obtain rfl : i = l.length := by omega
  refine Ev.step (fun k => by rw [za2.l0]) (Ev.neg yq9 ((Ev.now _).to ?_))
  simp
 | succ d ih =>
  intro i hd hi
  have hlt : i < l.length := by omega
  have e2 := w_succ i yq9
  refine Ev.step (fun k => by rw [za2.l0]) (Ev.pos yq9 (Ev.pos yq9 (Ev.pos (by simp; omega) ?_)))
  rw [rdS l i hlt, e2, Int.toNat_natCast, copy_step l _ i hlt]
  exact ih (i + 1) yq9 yq9
theorem toS_f (l : List ByteArray) (hl : l.length ≤ 1099511627776) : Ev (fun k => za2.f k l) l := by
 have h := toS_l l hl _ 0 rfl yq9
 refine Ev.pos yq9 (Ev.pos yq9 ?_)
 rw [Int.toNat_natCast]
 simpa using h
theorem eqS_l (l : List ByteArray) (hl : l.length ≤ 1099511627776) : ∀ (d i : Nat), l.length - i = d → i ≤ l.length →
  Ev (fun k => zaR.l0 k l l (i : Int)) true := by
 intro d
 induction d with
 | zero =>
  intro i hd hi
  exact Ev.step (fun k => by rw [zaR.l0]) (Ev.neg yq9 (Ev.now _))
 | succ d ih =>
  intro i hd hi
  have e2 := w_succ i yq9
  refine Ev.step (fun k => by rw [zaR.l0]) (Ev.pos yq9 (Ev.pos yq9 (Ev.pos yq9 (Ev.pos rfl ?_))))
  rw [e2]
  exact ih (i + 1) yq9 yq9
theorem eqS_f (l : List ByteArray) (hl : l.length ≤ 1099511627776) : Ev (fun k => zaR.f k l l) true :=
 Ev.pos rfl (eqS_l l hl _ 0 rfl yq9)
end Go.Proofs.YtfafjbolmeimmaaGreatDoor.P
namespace Go.Proofs.YtfafjbolmeimmaaGreatDoor.P
open Go.RowKit Go.Proofs.YtfafjbolmeimmaaGreatDoorW.PrintWords
set_option linter.unusedVariables false
theorem bt_get (s : ByteArray) (i : Nat) : bt s (i : Int) = ((s.get! i).toNat : Int) := by
 unfold bt
 rw [Int.toNat_natCast]
 by_cases h : i < s.size
 ·rw [dif_pos h, Utf8W.get!_of_lt s i h]
 rw [dif_neg h]
 cases s with
 | mk d =>
  have : d.size ≤ i := Nat.le_of_not_lt h
  show (0 : Int) = ((d[i]!).toNat : Int)
  rw [getElem!_neg d i yq9]
  rfl
def dec (s : ByteArray) (i : Nat) : Nat × Nat := Utf8.decode s i
theorem dec_eq (s : ByteArray) (i : Nat) : dec s i = Lib.decodeN (s.size - i) (s.get! i).toNat (s.get! (i + 1)).toNat (s.get! (i + 2)).toNat (s.get! (i + 3)).toNat := Lib.decode_at s i
theorem decodeN_bd (n b0 b1 b2 b3 : Nat) (hn : 1 ≤ n) : 1 ≤ (Lib.decodeN n b0 b1 b2 b3).2 ∧ (Lib.decodeN n b0 b1 b2 b3).2 ≤ 4 ∧ (Lib.decodeN n b0 b1 b2 b3).2 ≤ n ∧ (Lib.decodeN n b0 b1 b2 b3).1 ≤ 1114111 ∧ ((Lib.decodeN n b0 b1 b2 b3).1 < 55296 ∨ 57344 ≤ (Lib.decodeN n b0 b1 b2 b3).1) := by
 unfold Lib.decodeN
 repeat' split
 all_goals (simp only []; omega)
theorem dec_bd (s : ByteArray) (i : Nat) (h : i < s.size) : 1 ≤ (dec s i).2 ∧ (dec s i).2 ≤ 4 ∧ (dec s i).2 ≤ s.size - i ∧ (dec s i).1 ≤ 1114111 ∧ ((dec s i).1 < 55296 ∨ 57344 ≤ (dec s i).1) := by
 rw [dec_eq]
 exact decodeN_bd _ _ _ _ _ yq9
def badAt (s : ByteArray) (i : Nat) : Bool := (dec s i).1 == 65533 && (dec s i).2 == 1
def ptsFrom (s : ByteArray) (i : Nat) : List Int :=
 if h : i < s.size then ((dec s i).1 : Int) :: ptsFrom s (i + (dec s i).2) else []
termination_by s.size - i
decreasing_by have := dec_bd s i h; omega
def pts (s : ByteArray) : List Int := ptsFrom s 0
theorem ptsFrom_lt {s : ByteArray} {i : Nat} (h : i < s.size) : ptsFrom s i = ((dec s i).1 : Int) :: ptsFrom s (i + (dec s i).2) := by rw [ptsFrom, dif_pos h]
theorem ptsFrom_ge {s : ByteArray} {i : Nat} (h : ¬ i < s.size) : ptsFrom s i = [] := by rw [ptsFrom, dif_neg h]
def atsFrom (s : ByteArray) (i : Nat) : List S89 :=
 if h : i < s.size then ⟨((dec s i).1 : Int), (i : Int), ((i + (dec s i).2 : Nat) : Int), badAt s i⟩ :: atsFrom s (i + (dec s i).2) else []
termination_by s.size - i
decreasing_by have := dec_bd s i h; omega
def ats (s : ByteArray) : List S89 := atsFrom s 0
theorem atsFrom_lt {s : ByteArray} {i : Nat} (h : i < s.size) : atsFrom s i = ⟨((dec s i).1 : Int), (i : Int), ((i + (dec s i).2 : Nat) : Int), badAt s i⟩ :: atsFrom s (i + (dec s i).2) := by rw [atsFrom, dif_pos h]
theorem atsFrom_ge {s : ByteArray} {i : Nat} (h : ¬ i < s.size) : atsFrom s i = [] := by rw [atsFrom, dif_neg h]
theorem rec_places (s : ByteArray) {motive : Nat → Prop} (end_ : ∀ i, ¬ i < s.size → motive i) (step : ∀ i, i < s.size → motive (i + (dec s i).2) → motive i) : ∀ i, motive i := by
 have : ∀ d i, s.size - i ≤ d → motive i := by
  intro d
  induction d with
  | zero => intro i hi; exact end_ i yq9
  | succ d ih =>
   intro i hi
   by_cases h : i < s.size
   ·have := dec_bd s i h
    exact step i h (ih _ yq9)
   exact end_ i h
 exact fun i => this _ i (Nat.le_refl _)
theorem ats_pts (s : ByteArray) : ∀ i, (atsFrom s i).map (·.f0) = ptsFrom s i := by
 refine rec_places s (motive := fun i => (atsFrom s i).map (·.f0) = ptsFrom s i) ?_ ?_
 ·intro i h; show _ = _; rw [atsFrom_ge h, ptsFrom_ge h]; rfl
 intro i h ih; show _ = _; rw [atsFrom_lt h, ptsFrom_lt h, List.map_cons, ih]
theorem pts_len (s : ByteArray) : ∀ i, (ptsFrom s i).length ≤ s.size - i := by
 refine rec_places s (motive := fun i => (ptsFrom s i).length ≤ s.size - i) ?_ ?_
 ·intro i h; show _ ≤ _; rw [ptsFrom_ge h]; simp
 intro i h ih
 have := dec_bd s i h
 show _ ≤ _
 rw [ptsFrom_lt h, List.length_cons]; omega
theorem ats_len (s : ByteArray) : ∀ i, (atsFrom s i).length ≤ s.size - i := by
 intro i
 have := pts_len s i
 rw [← ats_pts, List.length_map] at this
 exact this
theorem pts_range (s : ByteArray) : ∀ i, ∀ p ∈ ptsFrom s i, 0 ≤ p ∧ p ≤ 1114111 ∧ (p < 55296 ∨ 57344 ≤ p) := by
 refine rec_places s (motive := fun i => ∀ p ∈ ptsFrom s i, 0 ≤ p ∧ p ≤ 1114111 ∧ (p < 55296 ∨ 57344 ≤ p)) ?_ ?_
 ·intro i h p hp; rw [ptsFrom_ge h] at hp; cases hp
 intro i h ih p hp
 have := dec_bd s i h
 rw [ptsFrom_lt h] at hp
 rcases List.mem_cons.1 hp with rfl | h2
 ·omega
 exact ih p h2
theorem decodeGo_at (s : ByteArray) (i : Nat) (h : i < s.size) : Lib.decodeGo (s.extract i s.size) = dec s i := by
 unfold Lib.decodeGo
 rw [if_neg (by rw [Lib.tail_size]; omega), Lib.tail_decode, Nat.add_zero]
 rfl
theorem read_ev (s : ByteArray) (hs : s.size ≤ 1099511627776) : ∀ i, ∀ acc : List S89, acc.length + (s.size - i) ≤ 1099511627776 → Ev (fun k => impl_read.l0 k s acc (i : Int)) (acc ++ atsFrom s i) := by
 refine rec_places s (motive := fun i => ∀ acc : List S89, acc.length + (s.size - i) ≤ 1099511627776 → Ev (fun k => impl_read.l0 k s acc (i : Int)) (acc ++ atsFrom s i)) ?_ ?_
 ·intro i h acc ha
  refine Ev.step (fun k => by rw [impl_read.l0]) ?_
  rw [atsFrom_ge h, List.append_nil]
  exact Ev.neg yq9 (Ev.now _)
 intro i h ih acc ha
 have hb := dec_bd s i h
 refine Ev.step (fun k => by rw [impl_read.l0]) ?_
 refine Ev.pos yq9 (Ev.pos yq9 (Ev.pos yq9 ?_))
 rw [Int.toNat_natCast]
 refine Ev.bind (Ev.done (r := (((dec s i).1 : Int), ((dec s i).2 : Int))) (by unfold utf8_DecodeRuneInString.f; rw [decodeGo_at s i h])) ?_
 have e1 : wrap64 ((dec s i).1 : Int) = ((dec s i).1 : Int) := w64 yq9 yq9
 have e2 : wrap64 ((i : Int) + ((dec s i).2 : Int)) = ((i + (dec s i).2 : Nat) : Int) := by rw [w64 yq9 yq9]; omega
 simp only [e1, e2]
 rw [atsFrom_lt h]
 have key : ∀ b : Bool, b = badAt s i → Ev (fun k => if acc.length < 4398046511104 then impl_read.l0 k s (acc ++ [(⟨((dec s i).1 : Int), (i : Int), ((i + (dec s i).2 : Nat) : Int), b⟩ : S89)]) ((i + (dec s i).2 : Nat) : Int) else none) (acc ++ (⟨((dec s i).1 : Int), (i : Int), ((i + (dec s i).2 : Nat) : Int), badAt s i⟩ :: atsFrom s (i + (dec s i).2))) := by
  rintro b rfl
  refine Ev.pos yq9 ?_
  refine (ih _ ?_).to yq21
  rw [List.length_append, List.length_singleton]
  omega
 by_cases h3 : (dec s i).1 = 65533
 ·refine Ev.pos yq9 (key _ ?_)
  unfold badAt
  rw [h3]
  by_cases h4 : (dec s i).2 = 1
  ·rw [h4]; rfl
  have : ¬ (((dec s i).2 : Int) = 1) := by omega
  rw [beq_eq_false_iff_ne.2 this, beq_eq_false_iff_ne.2 h4]
  rfl
 refine Ev.neg yq9 (key _ ?_)
 unfold badAt
 rw [beq_eq_false_iff_ne.2 h3]
 rfl
theorem read_f (s : ByteArray) (hs : s.size ≤ 1099511627776) : Ev (fun k => impl_read.f k s) (ats s) :=
 (read_ev s hs 0 [] (by simp; omega)).to (by simp [ats])
end Go.Proofs.YtfafjbolmeimmaaGreatDoor.P
namespace Go.Proofs.YtfafjbolmeimmaaGreatDoor.P
open Go.RowKit Go.Proofs.YtfafjbolmeimmaaGreatDoorW.PrintWords
set_option linter.unusedVariables false
theorem dN1 {n b0 b1 b2 b3 : Nat} (h : b0 < 128) : Lib.decodeN n b0 b1 b2 b3 = (b0, 1) := by unfold Lib.decodeN; rw [if_pos h]
theorem dN0 {n b0 b1 b2 b3 : Nat} (h : (128 ≤ b0 ∧ b0 < 194) ∨ 245 ≤ b0) : Lib.decodeN n b0 b1 b2 b3 = (65533, 1) := by
 unfold Lib.decodeN
 repeat' split
 all_goals first | (exfalso; omega) | rfl
theorem dN2 {n b0 b1 b2 b3 : Nat} (h : 194 ≤ b0 ∧ b0 < 224) : Lib.decodeN n b0 b1 b2 b3 = if 1 < n ∧ b1 / 64 = 2 then (b0 % 32 * 64 + b1 % 64, 2) else (65533, 1) := by
 unfold Lib.decodeN
 repeat' split
 all_goals first | (exfalso; omega) | rfl
set_option maxRecDepth 100000 in
theorem dN3 {n b0 b1 b2 b3 : Nat} (h : 224 ≤ b0 ∧ b0 < 240) : Lib.decodeN n b0 b1 b2 b3 = if (1 < n ∧ b1 / 64 = 2) ∧ (2 < n ∧ b2 / 64 = 2) ∧ 2048 ≤ b0 % 16 * 4096 + b1 % 64 * 64 + b2 % 64 ∧ (b0 % 16 * 4096 + b1 % 64 * 64 + b2 % 64 < 55296 ∨ 57344 ≤ b0 % 16 * 4096 + b1 % 64 * 64 + b2 % 64) then (b0 % 16 * 4096 + b1 % 64 * 64 + b2 % 64, 3) else (65533, 1) := by
 unfold Lib.decodeN
 repeat' split
 all_goals first | (exfalso; omega) | rfl
set_option maxRecDepth 100000 in
theorem dN4 {n b0 b1 b2 b3 : Nat} (h : 240 ≤ b0 ∧ b0 < 245) : Lib.decodeN n b0 b1 b2 b3 = if (1 < n ∧ b1 / 64 = 2) ∧ (2 < n ∧ b2 / 64 = 2) ∧ (3 < n ∧ b3 / 64 = 2) ∧ 65536 ≤ b0 % 8 * 262144 + b1 % 64 * 4096 + b2 % 64 * 64 + b3 % 64 ∧ b0 % 8 * 262144 + b1 % 64 * 4096 + b2 % 64 * 64 + b3 % 64 ≤ 1114111 then (b0 % 8 * 262144 + b1 % 64 * 4096 + b2 % 64 * 64 + b3 % 64, 4) else (65533, 1) := by
 unfold Lib.decodeN
 repeat' split
 all_goals first | (exfalso; omega) | rfl
theorem isPoint_eq (p : Int) : spec_l01IsPoint.f p = some (isPt p) := by
 unfold spec_l01IsPoint.f
 by_cases h0 : 0 ≤ p
 ·rw [if_pos yq9]
  by_cases h1 : p ≤ 1114111
  ·rw [if_pos h1]
   by_cases h2 : p < 55296
   ·rw [if_pos h2, isPt_iff.2 ⟨h0, h1, .inl h2⟩]
   rw [if_neg h2]
   by_cases h3 : 57343 < p
   ·rw [isPt_iff.2 ⟨h0, h1, .inr h3⟩, decide_eq_true h3]
   rw [decide_eq_false h3, show isPt p = false from Bool.eq_false_iff.2 (fun h => by have := isPt_iff.1 h; omega)]
  rw [if_neg h1, show isPt p = false from Bool.eq_false_iff.2 (fun h => h1 (isPt_iff.1 h).2.1)]
 rw [if_neg yq9, show isPt p = false from Bool.eq_false_iff.2 (fun h => h0 (isPt_iff.1 h).1)]
theorem wr_j (p : Int) (hp : isPt p) : Ev (fun k => zaV.j0 k p) (strOfNums (wrNums p)) := by
 obtain ⟨h0, h1, h2⟩ := isPt_iff.1 hp
 have e1 : Int.tdiv p 64 = p / 64 := Int.tdiv_eq_ediv_of_nonneg h0
 have e2 : Int.tdiv p 4096 = p / 4096 := Int.tdiv_eq_ediv_of_nonneg h0
 have e3 : Int.tdiv p 262144 = p / 262144 := Int.tdiv_eq_ediv_of_nonneg h0
 have e4 : Int.tmod p 64 = p % 64 := Int.tmod_eq_emod_of_nonneg h0
 refine Ev.step (fun k => by rw [zaV.j0]) ?_
 rw [e1, e2, e3, e4, w64 (x := p / 64) yq9 yq9, w64 (x := p / 4096) yq9 yq9, w64 (x := p / 262144) yq9 yq9, w64 (x := 192 + p / 64) yq9 yq9, w64 (x := 128 + p % 64) yq9 yq9, w64 (x := 224 + p / 4096) yq9 yq9, w64 (x := 240 + p / 262144) yq9 yq9]
 have e5 : Int.tmod (p / 64) 64 = p / 64 % 64 := Int.tmod_eq_emod_of_nonneg yq9
 have e6 : Int.tmod (p / 4096) 64 = p / 4096 % 64 := Int.tmod_eq_emod_of_nonneg yq9
 rw [e5, e6, w64 (x := 128 + p / 64 % 64) yq9 yq9, w64 (x := 128 + p / 4096 % 64) yq9 yq9]
 by_cases c1 : p < 128
 ·exact Ev.pos c1 ((Ev.now _).to (by unfold wrNums; rw [if_pos c1]))
 by_cases c2 : p < 2048
 ·exact Ev.neg c1 (Ev.pos c2 ((Ev.now _).to (by unfold wrNums; rw [if_neg c1, if_pos c2])))
 by_cases c3 : p < 65536
 ·exact Ev.neg c1 (Ev.neg c2 (Ev.pos c3 ((Ev.now _).to (by unfold wrNums; rw [if_neg c1, if_neg c2, if_pos c3]))))
 exact Ev.neg c1 (Ev.neg c2 (Ev.neg c3 ((Ev.now _).to (by unfold wrNums; rw [if_neg c1, if_neg c2, if_neg c3]))))
theorem wr_ev (p : Int) : Ev (fun k => zaV.f k p) (wrP p) := by
 unfold wrP
 refine Ev.bind (Ev.done (isPoint_eq p)) ?_
 by_cases h : isPt p
 ·rw [if_pos h]
  exact Ev.pos h (wr_j p h)
 rw [if_neg h]
 exact Ev.neg h (wr_j 65533 (by rw [isPt_iff]; omega))
theorem size_strOfNums (l : List Int) : (strOfNums l).size = l.length := by
 unfold strOfNums
 show ((l.map fun n => UInt8.ofNat n.toNat).toArray).size = _
 simp
theorem wrP_size {p : Int} (h : isPt p) : ((wrP p).size : Int) = if p < 128 then 1 else if p < 2048 then 2 else if p < 65536 then 3 else 4 := by
 unfold wrP
 rw [if_pos h, size_strOfNums]
 unfold wrNums
 repeat' split
 all_goals rfl
def nextR (r : Nat × Nat) : Int × Int × Bool := ((r.1 : Int), (r.2 : Int), !(r.1 == 65533 && r.2 == 1))
theorem nextR_bad : nextR (65533, 1) = (65533, 1, false) := rfl
theorem nextR_good {v n : Nat} (h : v ≠ 65533 ∨ n ≠ 1) : nextR (v, n) = ((v : Int), (n : Int), true) := by
 unfold nextR
 rcases h with h | h
 ·rw [beq_eq_false_iff_ne.2 h]; rfl
 rw [beq_eq_false_iff_ne.2 h]; simp
theorem next_end (s : ByteArray) (i n v : Nat) (hn : 1 ≤ n) (hn4 : n ≤ 3) (hv : v ≤ 4000000) : Ev (fun k => zax.l0 k s (i : Int) (n : Int) (v : Int) ((n + 1 : Nat) : Int))
  (if isPt (v : Int) = true ∧ (if v < 128 then 1 else if v < 2048 then 2 else if v < 65536 then 3 else 4) = n + 1 then ((v : Int), ((n + 1 : Nat) : Int), true) else (65533, 1, false)) := by
 refine Ev.step (fun k => by rw [zax.l0]) ?_
 refine Ev.neg yq9 ?_
 refine Ev.bind (Ev.done (isPoint_eq _)) ?_
 by_cases h : isPt (v : Int) = true
 ·refine Ev.pos h (Ev.bind (wr_ev _) ?_)
  have hsz := wrP_size h
  have e1 := w_succ n yq9
  rw [e1]
  have hsz2 : ((wrP (v : Int)).size : Int) = ((if v < 128 then 1 else if v < 2048 then 2 else if v < 65536 then 3 else 4 : Nat) : Int) := by
   rw [hsz]
   by_cases c1 : v < 128
   ·rw [if_pos yq9, if_pos c1]; rfl
   rw [if_neg yq9, if_neg c1]
   by_cases c2 : v < 2048
   ·rw [if_pos yq9, if_pos c2]; rfl
   rw [if_neg yq9, if_neg c2]
   by_cases c3 : v < 65536
   ·rw [if_pos yq9, if_pos c3]; rfl
   rw [if_neg yq9, if_neg c3]; rfl
  generalize (if v < 128 then 1 else if v < 2048 then 2 else if v < 65536 then 3 else 4) = m at *
  by_cases h2 : m = n + 1
  ·exact Ev.pos yq9 ((Ev.now _).to (by rw [if_pos ⟨h, h2⟩]))
  exact Ev.neg yq9 ((Ev.now _).to (by rw [if_neg (fun h3 => h2 h3.2)]))
 exact Ev.neg h ((Ev.now _).to (by rw [if_neg (fun h3 => h h3.1)]))
theorem next_step (s : ByteArray) (i n v j : Nat) (hs : s.size ≤ 1099511627776) (hj : j ≤ n) (hn : n ≤ 3) (hi : i + j < s.size) (hv : v ≤ 70000) (r : Int × Int × Bool)
  (hbad : (s.get! (i + j)).toNat / 64 ≠ 2 → r = (65533, 1, false))
  (hgood : (s.get! (i + j)).toNat / 64 = 2 → Ev (fun k => zax.l0 k s (i : Int) (n : Int) ((v * 64 + (s.get! (i + j)).toNat % 64 : Nat) : Int) ((j + 1 : Nat) : Int)) r) :
  Ev (fun k => zax.l0 k s (i : Int) (n : Int) (v : Int) (j : Int)) r := by
 have hb : (s.get! (i + j)).toNat < 256 := (s.get! (i + j)).toNat_lt
 have hbt : bt s ((i + j : Nat) : Int) = ((s.get! (i + j)).toNat : Int) := bt_get s (i + j)
 generalize (s.get! (i + j)).toNat = b at *
 refine Ev.step (fun k => by rw [zax.l0]) ?_
 have e0 : wrap64 ((i : Int) + (j : Int)) = ((i + j : Nat) : Int) := by rw [w64 yq9 yq9]; omega
 rw [e0, hbt, w64 (x := (b : Int)) yq9 yq9]
 refine Ev.pos yq9 (Ev.pos yq9 (Ev.pos yq9 ?_))
 by_cases h1 : (b : Int) < 128
 ·rw [hbad yq9]; exact Ev.pos h1 (Ev.now _)
 refine Ev.neg h1 ?_
 by_cases h2 : (b : Int) > 191
 ·rw [hbad yq9]; exact Ev.pos h2 (Ev.now _)
 refine Ev.neg h2 ?_
 have hq : b / 64 = 2 := by clear hbad hgood hbt e0; omega
 have e1 : wrap64 ((v : Int) * 64) = (v : Int) * 64 := w64 yq9 yq9
 have e2 : Int.tmod (b : Int) 64 = (b : Int) % 64 := Int.tmod_eq_emod_of_nonneg yq9
 have e3 : wrap64 ((v : Int) * 64 + (b : Int) % 64) = ((v * 64 + b % 64 : Nat) : Int) := by rw [w64 yq9 yq9]; omega
 have e4 := w_succ j yq9
 rw [e1, e2, e3, e4]
 exact hgood hq
theorem next_j2 (s : ByteArray) (i n v : Nat) (hs : s.size ≤ 1099511627776) (hi : i < s.size) (hn : n ≤ 3) (r : Int × Int × Bool)
  (hbad : ¬ i + n < s.size → r = (65533, 1, false))
  (hgood : i + n < s.size → Ev (fun k => zax.l0 k s (i : Int) (n : Int) (v : Int) ((1 : Nat) : Int)) r) :
  Ev (fun k => zax.j2 k s (i : Int) (n : Int) (v : Int)) r := by
 refine Ev.step (fun k => by rw [zax.j2]) ?_
 have e0 : wrap64 ((i : Int) + (n : Int)) = ((i + n : Nat) : Int) := by rw [w64 yq9 yq9]; omega
 rw [e0]
 by_cases h : i + n < s.size
 ·exact Ev.neg yq9 (hgood h)
 rw [hbad h]; exact Ev.pos yq9 (Ev.now _)
theorem next_2 (s : ByteArray) (hs : s.size ≤ 1099511627776) (i : Nat) (hi : i < s.size) (b0 b1 b2 b3 : Nat) (hc1 : (s.get! (i + 1)).toNat = b1) (h0 : 194 ≤ b0 ∧ b0 < 224) :
  Ev (fun k => zax.j2 k s (i : Int) ((1 : Nat) : Int) ((b0 % 32 : Nat) : Int)) (nextR (Lib.decodeN (s.size - i) b0 b1 b2 b3)) := by
 rw [dN2 h0]
 refine next_j2 s i 1 (b0 % 32) hs hi yq9 _ (fun h => by rw [if_neg yq9, nextR_bad]) (fun h => ?_)
 refine next_step s i 1 (b0 % 32) 1 hs yq9 yq9 yq9 yq9 _ (fun g => by rw [hc1] at g; rw [if_neg yq9, nextR_bad]) (fun g => ?_)
 rw [hc1] at g ⊢
 refine (next_end s i 1 _ yq9 yq9 yq9).to ?_
 symm
 rw [if_pos yq9, nextR_good yq9]
 rw [if_pos ⟨isPt_iff.2 yq9, by rw [if_neg yq9, if_pos yq9]⟩]
theorem next_3 (s : ByteArray) (hs : s.size ≤ 1099511627776) (i : Nat) (hi : i < s.size) (b0 b1 b2 b3 : Nat) (hc1 : (s.get! (i + 1)).toNat = b1) (hc2 : (s.get! (i + 2)).toNat = b2) (h0 : 224 ≤ b0 ∧ b0 < 240) :
  Ev (fun k => zax.j2 k s (i : Int) ((2 : Nat) : Int) ((b0 % 16 : Nat) : Int)) (nextR (Lib.decodeN (s.size - i) b0 b1 b2 b3)) := by
 rw [dN3 h0]
 refine next_j2 s i 2 (b0 % 16) hs hi yq9 _ (fun h => by rw [if_neg yq9, nextR_bad]) (fun h => ?_)
 refine next_step s i 2 (b0 % 16) 1 hs yq9 yq9 yq9 yq9 _ (fun g => by rw [hc1] at g; rw [if_neg yq9, nextR_bad]) (fun g1 => ?_)
 rw [hc1] at g1 ⊢
 refine next_step s i 2 _ 2 hs yq9 yq9 yq9 yq9 _ (fun g => by rw [hc2] at g; rw [if_neg yq9, nextR_bad]) (fun g2 => ?_)
 rw [hc2] at g2 ⊢
 refine (next_end s i 2 _ yq9 yq9 yq9).to ?_
 have ev : (b0 % 16 * 64 + b1 % 64) * 64 + b2 % 64 = b0 % 16 * 4096 + b1 % 64 * 64 + b2 % 64 := by omega
 rw [ev]
 symm
 have hv0 : b0 % 16 * 4096 + b1 % 64 * 64 + b2 % 64 < 65536 := by omega
 clear ev
 generalize b0 % 16 * 4096 + b1 % 64 * 64 + b2 % 64 = v at *
 by_cases hv : 2048 ≤ v ∧ (v < 55296 ∨ 57344 ≤ v)
 ·rw [if_pos yq9, nextR_good yq9, if_pos ⟨isPt_iff.2 yq9, by rw [if_neg yq9, if_neg yq9, if_pos hv0]⟩]
 rw [if_neg yq9, nextR_bad, if_neg]
 rintro ⟨hp, hz⟩
 have := isPt_iff.1 hp
 by_cases c1 : v < 2048
 ·split at hz
  ·omega
  first | omega | (rw [if_pos c1] at hz; omega)
 omega
theorem next_4 (s : ByteArray) (hs : s.size ≤ 1099511627776) (i : Nat) (hi : i < s.size) (b0 b1 b2 b3 : Nat) (hc1 : (s.get! (i + 1)).toNat = b1) (hc2 : (s.get! (i + 2)).toNat = b2) (hc3 : (s.get! (i + 3)).toNat = b3) (h0 : 240 ≤ b0 ∧ b0 < 245) :
  Ev (fun k => zax.j2 k s (i : Int) ((3 : Nat) : Int) ((b0 % 8 : Nat) : Int)) (nextR (Lib.decodeN (s.size - i) b0 b1 b2 b3)) := by
 rw [dN4 h0]
 refine next_j2 s i 3 (b0 % 8) hs hi yq9 _ (fun h => by rw [if_neg yq9, nextR_bad]) (fun h => ?_)
 refine next_step s i 3 (b0 % 8) 1 hs yq9 yq9 yq9 yq9 _ (fun g => by rw [hc1] at g; rw [if_neg yq9, nextR_bad]) (fun g1 => ?_)
 rw [hc1] at g1 ⊢
 refine next_step s i 3 _ 2 hs yq9 yq9 yq9 yq9 _ (fun g => by rw [hc2] at g; rw [if_neg yq9, nextR_bad]) (fun g2 => ?_)
 rw [hc2] at g2 ⊢
 refine next_step s i 3 _ 3 hs yq9 yq9 yq9 yq9 _ (fun g => by rw [hc3] at g; rw [if_neg yq9, nextR_bad]) (fun g3 => ?_)
 rw [hc3] at g3 ⊢
 refine (next_end s i 3 _ yq9 yq9 yq9).to ?_
 have ev : ((b0 % 8 * 64 + b1 % 64) * 64 + b2 % 64) * 64 + b3 % 64 = b0 % 8 * 262144 + b1 % 64 * 4096 + b2 % 64 * 64 + b3 % 64 := by omega
 rw [ev]
 symm
 clear ev
 generalize b0 % 8 * 262144 + b1 % 64 * 4096 + b2 % 64 * 64 + b3 % 64 = v at *
 by_cases hv : 65536 ≤ v ∧ v ≤ 1114111
 ·rw [if_pos yq9, nextR_good yq9, if_pos ⟨isPt_iff.2 yq9, by rw [if_neg yq9, if_neg yq9, if_neg yq9]⟩]
 rw [if_neg yq9, nextR_bad, if_neg]
 rintro ⟨hp, hz⟩
 have := isPt_iff.1 hp
 by_cases c1 : v < 65536
 ·split at hz
  ·omega
  split at hz
  ·omega
  first | omega | (rw [if_pos c1] at hz; omega)
 omega
theorem next_g (s : ByteArray) (hs : s.size ≤ 1099511627776) (i : Nat) (hi : i < s.size) (b0 b1 b2 b3 : Nat) (hb : b0 < 256) (hc0 : (s.get! i).toNat = b0) (hc1 : (s.get! (i + 1)).toNat = b1) (hc2 : (s.get! (i + 2)).toNat = b2) (hc3 : (s.get! (i + 3)).toNat = b3) :
  Ev (fun k => zax.f k s (i : Int)) (nextR (Lib.decodeN (s.size - i) b0 b1 b2 b3)) := by
 unfold zax.f
 rw [bt_get, hc0, w64 (x := (b0 : Int)) yq9 yq9]
 refine Ev.pos yq9 (Ev.pos yq9 ?_)
 by_cases h1 : b0 < 128
 ·rw [dN1 h1, nextR_good yq9]
  exact Ev.pos yq9 (Ev.now _)
 refine Ev.neg yq9 ?_
 by_cases h2 : b0 < 194
 ·rw [dN0 yq9, nextR_bad]
  refine Ev.neg yq9 ?_
  refine Ev.step (fun k => by rw [zax.j0]) (Ev.neg yq21 (Ev.neg yq9 ?_))
  refine Ev.step (fun k => by rw [zax.j1]) (Ev.neg yq21 (Ev.neg yq9 (Ev.now _)))
 refine Ev.pos yq9 ?_
 by_cases h3 : b0 < 224
 ·rw [decide_eq_true (show (b0 : Int) < 224 by omega)]
  refine Ev.step (fun k => by rw [zax.j0]) (Ev.pos rfl ?_)
  have e : Int.tmod (b0 : Int) 32 = ((b0 % 32 : Nat) : Int) := by rw [Int.tmod_eq_emod_of_nonneg yq9]; omega
  rw [e]
  exact next_2 s hs i hi b0 b1 b2 b3 hc1 yq9
 rw [decide_eq_false (show ¬ (b0 : Int) < 224 by omega)]
 refine Ev.step (fun k => by rw [zax.j0]) (Ev.neg yq21 (Ev.pos yq9 ?_))
 by_cases h4 : b0 < 240
 ·rw [decide_eq_true (show (b0 : Int) < 240 by omega)]
  refine Ev.step (fun k => by rw [zax.j1]) (Ev.pos rfl ?_)
  have e : Int.tmod (b0 : Int) 16 = ((b0 % 16 : Nat) : Int) := by rw [Int.tmod_eq_emod_of_nonneg yq9]; omega
  rw [e]
  exact next_3 s hs i hi b0 b1 b2 b3 hc1 hc2 yq9
 rw [decide_eq_false (show ¬ (b0 : Int) < 240 by omega)]
 refine Ev.step (fun k => by rw [zax.j1]) (Ev.neg yq21 (Ev.pos yq9 ?_))
 by_cases h5 : b0 < 245
 ·refine Ev.pos yq9 ?_
  have e : Int.tmod (b0 : Int) 8 = ((b0 % 8 : Nat) : Int) := by rw [Int.tmod_eq_emod_of_nonneg yq9]; omega
  rw [e]
  exact next_4 s hs i hi b0 b1 b2 b3 hc1 hc2 hc3 yq9
 rw [dN0 yq9, nextR_bad]
 exact Ev.neg yq9 (Ev.now _)
theorem next_f (s : ByteArray) (hs : s.size ≤ 1099511627776) (i : Nat) (hi : i < s.size) : Ev (fun k => zax.f k s (i : Int)) (nextR (dec s i)) := by
 rw [dec_eq]
 exact next_g s hs i hi _ _ _ _ (s.get! i).toNat_lt rfl rfl rfl rfl
end Go.Proofs.YtfafjbolmeimmaaGreatDoor.P
