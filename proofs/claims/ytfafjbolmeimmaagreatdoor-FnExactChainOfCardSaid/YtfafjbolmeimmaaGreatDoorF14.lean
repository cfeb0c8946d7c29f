/- Parts of a proof: words of the print tool that this claim uses, or plain lists. -/
import Derived.Test.YtfafjbolmeimmaaGreatDoorAb
import Derived.Test.YtfafjbolmeimmaaGreatDoorJ4
import Derived.Test.YtfafjbolmeimmaaGreatDoorF8
import Derived.Test.YtfafjbolmeimmaaGreatDoorF10
import Derived.Test.YtfafjbolmeimmaaGreatDoorF11
import Derived.Test.YtfafjbolmeimmaaGreatDoorF6
import Derived.Test.YtfafjbolmeimmaaGreatDoorF5
import Derived.Lib.CountLaws
import Derived.Lib.IndexBytes
import Derived.Lib.IndexMore
import Derived.Test.YtfafjbolmeimmaaGreatDoorJ18
import Derived.Test.YtfafjbolmeimmaaGreatDoorJ7
import Derived.Test.YtfafjbolmeimmaaGreatDoorF13
import Derived.Test.YtfafjbolmeimmaaGreatDoorF9
import Derived.Lib.ValidLaws
import Derived.Lib.ValidAsc
namespace Go.Proofs.YtfafjbolmeimmaaGreatDoor.P
open Go.RowKit Go.Proofs.YtfafjbolmeimmaaGreatDoorW.PrintWords
set_option linter.unusedVariables false
def nmAt (s : ByteArray) (i : Nat) : Bool := decide ((97 ≤ bt s i ∧ bt s i ≤ 122) ∨ (0 < i ∧ ((48 ≤ bt s i ∧ bt s i ≤ 57) ∨ bt s i = 45)))
def nmFrom (s : ByteArray) (i : Nat) : Bool := (List.range' i (s.size - i)).all (nmAt s)
def nameB (s : ByteArray) : Bool := decide (1 ≤ s.size ∧ s.size ≤ 20) && nmFrom s 0
theorem nmFrom_lt {s : ByteArray} {i : Nat} (h : i < s.size) : nmFrom s i = (nmAt s i && nmFrom s (i + 1)) := by
 unfold nmFrom
 obtain ⟨n, hn⟩ : ∃ n, s.size - i = n + 1 := ⟨s.size - i - 1, yq9⟩
 rw [hn, show s.size - (i + 1) = n by omega, List.range'_succ, List.all_cons]
theorem nmFrom_ge {s : ByteArray} {i : Nat} (h : ¬ i < s.size) : nmFrom s i = true := by
 unfold nmFrom
 rw [show s.size - i = 0 by omega]
 rfl
theorem im_tree (b i : Int) (A : Option Bool) (c : Bool) (hc : c = decide ((97 ≤ b ∧ b ≤ 122) ∨ (0 < i ∧ ((48 ≤ b ∧ b ≤ 57) ∨ b = 45)))) :
  (if b ≥ 97 then (if b ≤ 122 then A else (if i > 0 then (if b ≥ 48 then (if b ≤ 57 then A else (if b = 45 then A else (some false))) else (if b = 45 then A else (some false))) else (some false))) else (if i > 0 then (if b ≥ 48 then (if b ≤ 57 then A else (if b = 45 then A else (some false))) else (if b = 45 then A else (some false))) else (some false))) = if c = true then A else some false := by
 subst hc
 simp only [decide_eq_true_eq]
 repeat' split
 all_goals first | rfl | (exfalso; omega)
theorem sm_tree (b i : Int) (hi : 0 < i) (A : Option Bool) (c : Bool) (hc : c = decide ((97 ≤ b ∧ b ≤ 122) ∨ (0 < i ∧ ((48 ≤ b ∧ b ≤ 57) ∨ b = 45)))) :
  (if b < 97 then (if b < 48 then (if b = 45 then A else (some false)) else (if b > 57 then (if b = 45 then A else (some false)) else A)) else (if b > 122 then (if b < 48 then (if b = 45 then A else (some false)) else (if b > 57 then (if b = 45 then A else (some false)) else A)) else A)) = if c = true then A else some false := by
 subst hc
 simp only [decide_eq_true_eq]
 repeat' split
 all_goals first | rfl | (exfalso; omega)
theorem nmAt_eq (s : ByteArray) (i : Nat) : nmAt s i = decide ((97 ≤ bt s (i : Int) ∧ bt s (i : Int) ≤ 122) ∨ (0 < (i : Int) ∧ ((48 ≤ bt s (i : Int) ∧ bt s (i : Int) ≤ 57) ∨ bt s (i : Int) = 45))) := by
 unfold nmAt
 exact decide_eq_decide.2 yq9
theorem isName_l (s : ByteArray) (hs : s.size ≤ 1099511627776) : ∀ (d i : Nat), s.size - i = d → i ≤ s.size → Ev (fun k => zbi.l0 k s (s.size : Int) (i : Int)) (nmFrom s i && decide (1 ≤ s.size ∧ s.size ≤ 20)) := by
 intro d
 induction d with
 | zero =>
  intro i hd hi
  refine Ev.step (fun k => by rw [zbi.l0]) ?_
  refine Ev.neg yq9 ?_
  rw [nmFrom_ge yq9, Bool.true_and]
  by_cases h : (s.size : Int) ≥ 1
  ·refine Ev.pos h ((Ev.now _).to ?_)
   exact decide_eq_decide.2 yq9
  refine Ev.neg h ((Ev.now _).to ?_)
  exact (decide_eq_false yq9).symm
 | succ d ih =>
  intro i hd hi
  refine Ev.step (fun k => by rw [zbi.l0]) ?_
  refine Ev.pos yq9 (Ev.pos yq9 (Ev.pos yq9 ?_))
  refine Ev.congr (fun k => im_tree (bt s (i : Int)) (i : Int) _ (nmAt s i) (nmAt_eq s i)) ?_
  rw [nmFrom_lt yq9]
  cases h : nmAt s i with
  | true =>
   refine Ev.pos rfl ?_
   rw [w_succ i yq9, Bool.true_and]
   exact ih (i + 1) yq9 yq9
  | false => exact Ev.neg yq21 ((Ev.now _).to rfl)
theorem isName_ev (s : ByteArray) (hs : s.size ≤ 1099511627776) : Ev (fun k => zbi.f k s) (nameB s) :=
 (isName_l s hs _ 0 rfl yq9).to (by unfold nameB; rw [Bool.and_comm])
theorem sName_l (s : ByteArray) (hs : s.size ≤ 1099511627776) : ∀ (d i : Nat), s.size - i = d → 1 ≤ i → i ≤ s.size → Ev (fun k => zaC.l0 k s (i : Int)) (nmFrom s i) := by
 intro d
 induction d with
 | zero =>
  intro i hd h1 hi
  refine Ev.step (fun k => by rw [zaC.l0]) ?_
  refine Ev.neg yq9 ((Ev.now _).to ?_)
  rw [nmFrom_ge yq9]
 | succ d ih =>
  intro i hd h1 hi
  refine Ev.step (fun k => by rw [zaC.l0]) ?_
  refine Ev.pos yq9 (Ev.pos yq9 ?_)
  refine Ev.congr (fun k => sm_tree (bt s (i : Int)) (i : Int) yq9 _ (nmAt s i) (nmAt_eq s i)) ?_
  rw [nmFrom_lt yq9]
  cases h : nmAt s i with
  | true =>
   refine Ev.pos rfl ?_
   rw [w_succ i yq9, Bool.true_and]
   exact ih (i + 1) yq9 yq9 yq9
  | false => exact Ev.neg yq21 ((Ev.now _).to rfl)
theorem sName_ev (s : ByteArray) (hs : s.size ≤ 1099511627776) : Ev (fun k => zaC.f k s) (nameB s) := by
 unfold zaC.f nameB
 by_cases h1 : (s.size : Int) < 1
 ·refine Ev.pos h1 (Ev.step (fun k => by rw [zaC.j0]) (Ev.pos rfl ((Ev.now _).to ?_)))
  rw [decide_eq_false yq9, Bool.false_and]
 refine Ev.neg h1 ?_
 by_cases h2 : (s.size : Int) > 20
 ·refine Ev.pos h2 (Ev.step (fun k => by rw [zaC.j0]) (Ev.pos rfl ((Ev.now _).to ?_)))
  rw [decide_eq_false yq9, Bool.false_and]
 refine Ev.neg h2 (Ev.pos yq9 ?_)
 rw [show decide (1 ≤ s.size ∧ s.size ≤ 20) = true from decide_eq_true yq9, Bool.true_and, nmFrom_lt yq9]
 have e0 : nmAt s 0 = decide (97 ≤ bt s 0 ∧ bt s 0 ≤ 122) := decide_eq_decide.2 ⟨fun h => h.elim id (fun h => absurd h.1 (Nat.lt_irrefl 0)), Or.inl⟩
 rw [e0]
 by_cases h3 : bt s 0 < 97
 ·refine Ev.pos h3 (Ev.step (fun k => by rw [zaC.j0]) (Ev.pos rfl ((Ev.now _).to ?_)))
  rw [decide_eq_false yq9, Bool.false_and]
 refine Ev.neg h3 (Ev.step (fun k => by rw [zaC.j0]) ?_)
 by_cases h4 : bt s 0 > 122
 ·refine Ev.pos (decide_eq_true h4) ((Ev.now _).to ?_)
  rw [decide_eq_false yq9, Bool.false_and]
 refine Ev.neg (by simpa using h4) ?_
 rw [show decide (97 ≤ bt s 0 ∧ bt s 0 ≤ 122) = true from decide_eq_true yq9, Bool.true_and]
 exact sName_l s hs _ 1 rfl yq9 yq9
def stB (a b : ByteArray) : Bool := if (a.size : Int) ≥ (b.size : Int) then (a.extract 0 ((b.size : Int) : Int).toNat).toList == b.toList else false
theorem starts_f (a b : ByteArray) : zbq.f a b = some (stB a b) := by
 unfold zbq.f stB
 split
 ·first | rfl | (rw [if_pos yq9, if_pos yq9])
 rfl
theorem prefix_f (a b : ByteArray) : strings_HasPrefix.f a b = some (stB a b) := by
 show (stringslite_HasPrefix.f a b).bind (fun t => some t) = _
 have : stringslite_HasPrefix.f a b = some (stB a b) := by
  unfold stringslite_HasPrefix.f stB
  split
  ·first | rfl | (rw [if_pos yq9, if_pos yq9])
  rfl
 rw [this]
 rfl
def begB (a b : ByteArray) : Bool := stB a b || stB b a
theorem begins_f (a b : ByteArray) : impl_begins.f a b = some (begB a b) := by
 unfold impl_begins.f begB
 rw [prefix_f, prefix_f]
 cases stB a b <;> rfl
def nilB (a : ByteArray) : Bool := a.toList == ([] : List UInt8)
def apartB (a b : ByteArray) : Bool := nilB a || nilB b || !begB a b
theorem apart_f (a b : ByteArray) : spec_l17Apart.f a b = some (apartB a b) := by
 unfold spec_l17Apart.f apartB begB nilB
 by_cases h1 : a.toList = ([] : List UInt8)
 ·rw [if_pos h1, beq_iff_eq.2 h1]; rfl
 rw [if_neg h1, beq_eq_false_iff_ne.2 h1]
 by_cases h2 : b.toList = ([] : List UInt8)
 ·rw [if_pos h2, beq_iff_eq.2 h2]; rfl
 rw [if_neg h2, beq_eq_false_iff_ne.2 h2, starts_f, starts_f]
 cases stB a b <;> cases stB b a <;> rfl
def occN (sub : List UInt8) : List UInt8 → Nat
 | [] => 0
 | b :: l => (if sub.isPrefixOf (b :: l) = true then 1 else 0) + occN sub l
theorem occN_drop {s sub : List UInt8} {i : Nat} (h : i < s.length) : occN sub (s.drop i) = (if Lib.occAt s sub i = true then 1 else 0) + occN sub (s.drop (i + 1)) := by
 unfold Lib.occAt
 rw [List.drop_eq_getElem_cons h]
 rfl
theorem occN_short (sub : List UInt8) : ∀ s : List UInt8, s.length < sub.length → occN sub s = 0
 | [], _ => rfl
 | b :: l, h => by
  have h1 : sub.isPrefixOf (b :: l) = false := by
   cases hp : sub.isPrefixOf (b :: l) with
   | false => rfl
   | true =>
    have := (List.isPrefixOf_iff_prefix.1 hp).length_le
    omega
  have h2 := occN_short sub l (by rw [List.length_cons] at h; omega)
  unfold occN
  rw [h1, h2]
  rfl
theorem occN_none {s sub : List UInt8} : ∀ i, i ≤ s.length → (∀ j, j < i → Lib.occAt s sub j = false) → occN sub s = occN sub (s.drop i)
 | 0, _, _ => rfl
 | i + 1, hi, h => by
  rw [occN_none i yq9 (fun j hj => h j yq9), occN_drop yq9, h i yq9]
  simp
def mk3 (x : UInt8) : List UInt8 := [123, x, 125]
theorem count_occ (x : UInt8) (hx : x ≠ 123) : ∀ (n : Nat) (s : List UInt8), s.length ≤ n → Lib.count s (mk3 x) = occN (mk3 x) s := by
 intro n
 induction n with
 | zero =>
  intro s h
  obtain rfl : s = [] := List.length_eq_zero_iff.1 yq9
  rfl
 | succ n ih =>
  intro s hn
  rcases Lib.index_spec s (mk3 x) with ⟨h1, h2⟩ | ⟨i, h1, h2, h3, h4⟩
  ·rw [Lib.count_miss h1, occN_none s.length (Nat.le_refl _) (fun j hj => h2 j yq9), List.drop_length]
   rfl
  have hr := Lib.index_room s (mk3 x) yq9
  have hl : (mk3 x).length = 3 := rfl
  rw [Lib.count_hit (by simp [mk3]) h1, occN_none i h2 (fun j hj => h4 j hj), occN_drop yq9, h3, if_pos rfl, hl, ih _ (by rw [List.length_drop]; omega)]
  congr 1
  have hp : mk3 x <+: s.drop i := List.isPrefixOf_iff_prefix.1 h3
  obtain ⟨t, ht⟩ := hp
  have e3 : s.drop (i + 3) = t := by rw [← List.drop_drop, ← ht]; rfl
  have e1 : s.drop (i + 1) = x :: 125 :: t := by rw [← List.drop_drop, ← ht]; rfl
  rw [e3, e1]
  have g1 : (mk3 x).isPrefixOf (x :: 125 :: t) = false := by
   show ((123 : UInt8) == x && _) = false
   rw [beq_eq_false_iff_ne.2 (fun h => hx h.symm), Bool.false_and]
  show _ = (if _ then 1 else 0) + ((if _ then 1 else 0) + occN (mk3 x) t)
  rw [g1, if_neg yq21, if_neg (by show ¬ (((123 : UInt8) == 125 && _) = true); simp), Nat.zero_add, Nat.zero_add]
theorem piece_occ (s sub : ByteArray) (i : Nat) (hi : i + sub.size ≤ s.size) : ((s.extract i (i + sub.size)).toList = sub.toList) = (Lib.occAt s.data.toList sub.data.toList i = true) := by
 rw [Lib.occ_of_piece s sub i hi]
 exact propext ⟨fun h => beq_iff_eq.2 h, fun h => beq_iff_eq.1 h⟩
theorem cnt_l (s sub : ByteArray) (hs : s.size ≤ 1099511627776) (hb : sub.size = 3) : ∀ (d i : Nat), s.size - i = d → i ≤ s.size → ∀ n : Nat, n ≤ i → Ev (fun k => zaP.l0 k s sub (n : Int) (i : Int)) ((n + occN sub.data.toList (s.data.toList.drop i) : Nat) : Int) := by
 have hL : s.data.toList.length = s.size := by rw [Array.length_toList]; rfl
 have hB : sub.data.toList.length = 3 := by rw [Array.length_toList]; exact hb
 intro d
 induction d with
 | zero =>
  intro i hd hi n hn
  refine Ev.step (fun k => by rw [zaP.l0]) ?_
  have e : wrap64 ((i : Int) + (sub.size : Int)) = ((i + sub.size : Nat) : Int) := w_add i sub.size yq9
  rw [e]
  refine Ev.neg yq9 ((Ev.now _).to ?_)
  rw [occN_short _ _ (by rw [List.length_drop]; omega)]
  rfl
 | succ d ih =>
  intro i hd hi n hn
  refine Ev.step (fun k => by rw [zaP.l0]) ?_
  have e : wrap64 ((i : Int) + (sub.size : Int)) = ((i + sub.size : Nat) : Int) := w_add i sub.size yq9
  rw [e]
  by_cases h : i + sub.size ≤ s.size
  ·refine Ev.pos yq9 (Ev.pos yq9 (Ev.pos yq9 ?_))
   rw [show (i : Int).toNat = i from rfl, show ((i + sub.size : Nat) : Int).toNat = i + sub.size from rfl, w_succ i yq9, w_succ n yq9]
   have ho := occN_drop (s := s.data.toList) (sub := sub.data.toList) (i := i) yq9
   cases hc : Lib.occAt s.data.toList sub.data.toList i with
   | true =>
    rw [hc, if_pos rfl] at ho
    refine Ev.pos ((piece_occ s sub i h).mpr hc) ((ih (i + 1) yq9 yq9 (n + 1) yq9).to ?_)
    rw [ho]
    omega
   | false =>
    rw [hc, if_neg yq21] at ho
    refine Ev.neg (fun h' => by rw [(piece_occ s sub i h).mp h'] at hc; cases hc) ((ih (i + 1) yq9 yq9 n yq9).to ?_)
    rw [ho]
    omega
  refine Ev.neg yq9 ((Ev.now _).to ?_)
  rw [occN_short _ _ (by rw [List.length_drop]; omega)]
  rfl
def sub3 (x : UInt8) : ByteArray := ⟨#[123, x, 125]⟩
theorem cnt_ev (s : ByteArray) (x : UInt8) (hx : x ≠ 123) (hs : s.size ≤ 1099511627776) : Ev (fun k => zaP.f k s (sub3 x)) ((Lib.countB s (sub3 x) : Nat) : Int) :=
 (cnt_l s (sub3 x) hs rfl _ 0 rfl yq9 0 yq9).to (by
  show ((0 + occN (mk3 x) s.data.toList : Nat) : Int) = ((Lib.count s.data.toList (mk3 x) : Nat) : Int)
  rw [count_occ x hx _ _ (Nat.le_refl _), Nat.zero_add])
theorem idx_l (s sub : ByteArray) (hs : s.size ≤ 1099511627776) (hb : sub.size = 3) : ∀ (d i : Nat), s.size - i = d → i ≤ s.size → (∀ j, j < i → Lib.occAt s.data.toList sub.data.toList j = false) → Ev (fun k => zaQ.l0 k s sub (i : Int)) (Lib.index s.data.toList sub.data.toList) := by
 have hL : s.data.toList.length = s.size := by rw [Array.length_toList]; rfl
 have hB : sub.data.toList.length = 3 := by rw [Array.length_toList]; exact hb
 have hfin : ∀ i, ¬ i + sub.size ≤ s.size → (∀ j, j < i → Lib.occAt s.data.toList sub.data.toList j = false) → Lib.index s.data.toList sub.data.toList = -1 := by
  intro i hi hj
  refine Lib.index_none (fun j hj' => ?_)
  by_cases h : j < i
  ·exact hj j h
  unfold Lib.occAt
  cases hp : sub.data.toList.isPrefixOf (s.data.toList.drop j) with
  | false => rfl
  | true =>
   have := (List.isPrefixOf_iff_prefix.1 hp).length_le
   rw [List.length_drop] at this
   omega
 intro d
 induction d with
 | zero =>
  intro i hd hi hj
  refine Ev.step (fun k => by rw [zaQ.l0]) ?_
  have e : wrap64 ((i : Int) + (sub.size : Int)) = ((i + sub.size : Nat) : Int) := w_add i sub.size yq9
  rw [e]
  exact Ev.neg yq9 ((Ev.now _).to (hfin i yq9 hj).symm)
 | succ d ih =>
  intro i hd hi hj
  refine Ev.step (fun k => by rw [zaQ.l0]) ?_
  have e : wrap64 ((i : Int) + (sub.size : Int)) = ((i + sub.size : Nat) : Int) := w_add i sub.size yq9
  rw [e]
  by_cases h : i + sub.size ≤ s.size
  ·refine Ev.pos yq9 (Ev.pos yq9 (Ev.pos yq9 ?_))
   rw [show (i : Int).toNat = i from rfl, show ((i + sub.size : Nat) : Int).toNat = i + sub.size from rfl, w_succ i yq9]
   cases hc : Lib.occAt s.data.toList sub.data.toList i with
   | true => exact Ev.pos ((piece_occ s sub i h).mpr hc) ((Ev.now _).to (Lib.index_first yq9 hc hj).symm)
   | false =>
    refine Ev.neg (fun h' => by rw [(piece_occ s sub i h).mp h'] at hc; cases hc) (ih (i + 1) yq9 yq9 (fun j h' => ?_))
    by_cases h2 : j < i
    ·exact hj j h2
    obtain rfl : j = i := by omega
    exact hc
  exact Ev.neg yq9 ((Ev.now _).to (hfin i h hj).symm)
def idx3 (s : ByteArray) (x : UInt8) : Int := Lib.index s.data.toList (mk3 x)
theorem idx_ev (s : ByteArray) (x : UInt8) (hs : s.size ≤ 1099511627776) : Ev (fun k => zaQ.f k s (sub3 x)) (idx3 s x) :=
 idx_l s (sub3 x) hs rfl _ 0 rfl yq9 (fun j hj => absurd hj (Nat.not_lt_zero _))
def cnt3 (s : ByteArray) (x : UInt8) : Int := ((Lib.countB s (sub3 x) : Nat) : Int)
theorem idx_ne (s : ByteArray) (h : cnt3 s 48 = 1) : idx3 s 48 ≠ idx3 s 49 := by
 intro e
 unfold idx3 at e
 rcases Lib.index_spec s.data.toList (mk3 48) with ⟨h1, h2⟩ | ⟨i, h1, h2, h3, h4⟩
 ·have h5 : Lib.countB s (sub3 48) = 0 := Lib.count_miss h1
  unfold cnt3 at h
  omega
 rcases Lib.index_spec s.data.toList (mk3 49) with ⟨g1, g2⟩ | ⟨j, g1, g2, g3, g4⟩
 ·omega
 obtain rfl : i = j := by omega
 have p1 := List.isPrefixOf_iff_prefix.1 h3
 have p2 := List.isPrefixOf_iff_prefix.1 g3
 obtain ⟨t1, q1⟩ := p1
 obtain ⟨t2, q2⟩ := p2
 rw [← q1] at q2
 have : (49 : UInt8) = 48 := (List.cons.inj (List.cons.inj q2).2).1
 exact absurd this yq38
end Go.Proofs.YtfafjbolmeimmaaGreatDoor.P
namespace Go.Proofs.YtfafjbolmeimmaaGreatDoor.P
open Go.RowKit Go.Proofs.YtfafjbolmeimmaaGreatDoorW.PrintWords
set_option linter.unusedVariables false
theorem points_l (l : List S89) (hl : l.length ≤ 1099511627776) : ∀ (d i : Nat), l.length - i = d → i ≤ l.length → ∀ acc : List Int, acc.length ≤ i → Ev (fun k => impl_points.l0 k acc l (l.length : Int) (i : Int)) (acc ++ (l.drop i).map (·.f0)) := by
 intro d
 induction d with
 | zero =>
  intro i hd hi acc ha
  refine Ev.step (fun k => by rw [impl_points.l0]) ?_
  refine Ev.neg yq9 ((Ev.now _).to ?_)
  rw [List.drop_eq_nil_of_le yq9]
  simp
 | succ d ih =>
  intro i hd hi acc ha
  have hlt : i < l.length := by omega
  refine Ev.step (fun k => by rw [impl_points.l0]) ?_
  refine Ev.pos yq9 (Ev.pos yq9 (Ev.pos yq9 (Ev.pos yq9 ?_)))
  have e2 := w_succ i yq9
  have e3 : rd_T89 l (i : Int) = l[i] := by simp [rd_T89, hlt]
  rw [e2, e3]
  refine (ih (i + 1) yq9 yq9 _ (by rw [List.length_append, List.length_singleton]; omega)).to ?_
  rw [List.drop_eq_getElem_cons hlt, List.map_cons, List.append_assoc]
  rfl
theorem points_f (s : ByteArray) (hs : s.size ≤ 1099511627776) : Ev (fun k => impl_points.f k s) (pts s) := by
 refine Ev.bind (read_f s hs) ?_
 have := ats_len s 0
 refine (points_l (ats s) (by unfold ats; omega) _ 0 rfl yq9 [] yq21).to ?_
 simp [ats, pts, ats_pts]
end Go.Proofs.YtfafjbolmeimmaaGreatDoor.P
namespace Go.Proofs.YtfafjbolmeimmaaGreatDoor.P
open Go.RowKit Go.Proofs.YtfafjbolmeimmaaGreatDoorW.PrintWords
set_option linter.unusedVariables false
theorem spoints_l (s : ByteArray) (hs : s.size ≤ 1099511627776) : ∀ i, ∀ acc : List Int, acc.length + (s.size - i) ≤ 1099511627776 → Ev (fun k => zaT.l0 k s acc (i : Int)) (acc ++ ptsFrom s i) := by
 refine rec_places s (motive := fun i => ∀ acc : List Int, acc.length + (s.size - i) ≤ 1099511627776 → Ev (fun k => zaT.l0 k s acc (i : Int)) (acc ++ ptsFrom s i)) ?_ ?_
 ·intro i h acc ha
  refine Ev.step (fun k => by rw [zaT.l0]) ?_
  rw [ptsFrom_ge h, List.append_nil]
  exact Ev.neg yq9 (Ev.now _)
 intro i h ih acc ha
 have hb := dec_bd s i h
 refine Ev.step (fun k => by rw [zaT.l0]) ?_
 refine Ev.pos yq9 (Ev.bind (next_f s hs i h) (Ev.pos yq9 ?_))
 have e2 : wrap64 ((i : Int) + (nextR (dec s i)).2.1) = ((i + (dec s i).2 : Nat) : Int) := by
  show wrap64 ((i : Int) + ((dec s i).2 : Int)) = _
  rw [w64 yq9 yq9]; omega
 rw [e2]
 refine (ih _ (by rw [List.length_append, List.length_singleton]; omega)).to ?_
 rw [ptsFrom_lt h]
 simp [nextR]
theorem spoints_f (s : ByteArray) (hs : s.size ≤ 1099511627776) : Ev (fun k => zaT.f k s) (pts s) :=
 (spoints_l s hs 0 [] (by simp; omega)).to (by simp [pts])
end Go.Proofs.YtfafjbolmeimmaaGreatDoor.P
namespace Go.Proofs.YtfafjbolmeimmaaGreatDoor.P
open Go.RowKit Go.Proofs.YtfafjbolmeimmaaGreatDoorW.PrintWords
set_option linter.unusedVariables false
theorem wrNums_byte (p : Int) : ∀ b ∈ wrNums p, 0 ≤ b ∧ b ≤ 255 := by
 intro b hb
 unfold wrNums at hb
 split at hb
 ·simp only [List.mem_cons, List.mem_nil_iff, or_false] at hb; omega
 split at hb
 ·simp only [List.mem_cons, List.mem_nil_iff, or_false] at hb; omega
 split at hb <;> (simp only [List.mem_cons, List.mem_nil_iff, or_false] at hb; omega)
theorem bytesOf_strOfNums : ∀ (l : List Int), (∀ b ∈ l, 0 ≤ b ∧ b ≤ 255) → bytesOf (strOfNums l) = l := by
 intro l h
 unfold bytesOf strOfNums
 simp only [List.map_map]
 conv => rhs; rw [← List.map_id l]
 apply List.map_congr_left
 intro b hb
 have := h b hb
 simp only [Function.comp, id, UInt8.toNat_ofNat']
 omega
theorem bytesOf_wrP (p : Int) : bytesOf (wrP p) = wrB p := bytesOf_strOfNums _ (wrNums_byte _)
theorem text_l (l : List Int) (hl : l.length ≤ 1099511627776) : ∀ (d i : Nat), l.length - i = d → i ≤ l.length → ∀ acc : List Int, acc.length ≤ 4 * i → Ev (fun k => za6.l0 k l acc (i : Int)) (strOfNums (acc ++ txtB (l.drop i))) := by
 intro d
 induction d with
 | zero =>
  intro i hd hi acc ha
  refine Ev.step (fun k => by rw [za6.l0]) ?_
  refine Ev.neg yq9 ((Ev.now _).to ?_)
  rw [List.drop_eq_nil_of_le yq9]
  simp [txtB]
 | succ d ih =>
  intro i hd hi acc ha
  have hlt : i < l.length := by omega
  refine Ev.step (fun k => by rw [za6.l0]) ?_
  have e3 : rd l (i : Int) = l[i] := by simp [rd, hlt]
  have hw := wrB_len l[i]
  have hsz : (wrP l[i]).size = (wrB l[i]).length := by rw [← bytesOf_wrP, bytesOf_length]
  rw [e3]
  refine Ev.pos yq9 (Ev.pos yq9 (Ev.bind (wr_ev _) (Ev.pos yq9 ?_)))
  have e2 := w_succ i yq9
  rw [e2, bytesOf_wrP]
  refine (ih (i + 1) yq9 yq9 _ (by rw [List.length_append]; omega)).to ?_
  rw [List.drop_eq_getElem_cons hlt]
  show _ = strOfNums (acc ++ (wrB l[i] ++ txtB (l.drop (i + 1))))
  rw [List.append_assoc]
theorem text_f (l : List Int) (hl : l.length ≤ 1099511627776) : Ev (fun k => za6.f k l) (txt l) :=
 (text_l l hl _ 0 rfl yq9 [] yq21).to (by simp [txt])
theorem bytesOf_drop (s : ByteArray) (i : Nat) (h : i < s.size) : (bytesOf s).drop i = ((s.get! i).toNat : Int) :: (bytesOf s).drop (i + 1) := by
 have hl : i < (bytesOf s).length := by rw [bytesOf_length]; exact h
 rw [List.drop_eq_getElem_cons hl]
 congr 1
 have := rd_bytesOf s (i : Int)
 rw [bt_get] at this
 rw [← this]
 simp [rd, hl]
theorem good_bytes (n b0 b1 b2 b3 v m : Nat) (hd : Lib.decodeN n b0 b1 b2 b3 = (v, m)) (hn : 1 ≤ n) (h0 : b0 < 256) (h1 : b1 < 256) (h2 : b2 < 256) (h3 : b3 < 256) (hg : ¬ (v = 65533 ∧ m = 1)) :
  (m = 1 ∧ wrB (v : Int) = [(b0 : Int)]) ∨ (m = 2 ∧ 1 < n ∧ wrB (v : Int) = [(b0 : Int), (b1 : Int)]) ∨ (m = 3 ∧ 2 < n ∧ wrB (v : Int) = [(b0 : Int), (b1 : Int), (b2 : Int)]) ∨ (m = 4 ∧ 3 < n ∧ wrB (v : Int) = [(b0 : Int), (b1 : Int), (b2 : Int), (b3 : Int)]) := by
 by_cases c1 : b0 < 128
 ·rw [dN1 c1] at hd
  cases hd
  left
  refine ⟨rfl, ?_⟩
  unfold wrB
  rw [isPt_iff.2 yq9, if_pos rfl]
  unfold wrNums
  rw [if_pos yq9]
  congr 1
  omega
 by_cases c2 : b0 < 194 ∨ 245 ≤ b0
 ·rw [dN0 yq9] at hd
  cases hd
  exact absurd ⟨rfl, rfl⟩ hg
 by_cases c3 : b0 < 224
 ·rw [dN2 yq9] at hd
  split at hd
  ·cases hd
   right; left
   refine ⟨rfl, yq9, ?_⟩
   unfold wrB
   rw [isPt_iff.2 yq9, if_pos rfl]
   unfold wrNums
   rw [if_neg yq9, if_pos yq9]
   simp only [List.cons.injEq, and_true]
   omega
  cases hd
  exact absurd ⟨rfl, rfl⟩ hg
 by_cases c4 : b0 < 240
 ·rw [dN3 yq9] at hd
  split at hd
  ·cases hd
   right; right; left
   refine ⟨rfl, yq9, ?_⟩
   unfold wrB
   rw [isPt_iff.2 yq9, if_pos rfl]
   unfold wrNums
   rw [if_neg yq9, if_neg yq9, if_pos yq9]
   simp only [List.cons.injEq, and_true]
   omega
  cases hd
  exact absurd ⟨rfl, rfl⟩ hg
 rw [dN4 yq9] at hd
 split at hd
 ·cases hd
  right; right; right
  refine ⟨rfl, yq9, ?_⟩
  unfold wrB
  rw [isPt_iff.2 yq9, if_pos rfl]
  unfold wrNums
  rw [if_neg yq9, if_neg yq9, if_neg yq9]
  simp only [List.cons.injEq, and_true]
  omega
 cases hd
 exact absurd ⟨rfl, rfl⟩ hg
theorem good_at (s : ByteArray) (i : Nat) (h : i < s.size) (hg : badAt s i = false) : (bytesOf s).drop i = wrB ((dec s i).1 : Int) ++ (bytesOf s).drop (i + (dec s i).2) := by
 have hg' : ¬ ((dec s i).1 = 65533 ∧ (dec s i).2 = 1) := by
  rintro ⟨e1, e2⟩
  unfold badAt at hg
  rw [e1, e2] at hg
  cases hg
 obtain ⟨v, m, hd⟩ : ∃ v m, dec s i = (v, m) := ⟨_, _, rfl⟩
 rw [hd] at hg' ⊢
 rw [dec_eq] at hd
 rcases good_bytes _ _ _ _ _ v m hd yq9 (s.get! i).toNat_lt (s.get! (i + 1)).toNat_lt (s.get! (i + 2)).toNat_lt (s.get! (i + 3)).toNat_lt hg' with ⟨rfl, e⟩ | ⟨rfl, h1, e⟩ | ⟨rfl, h1, e⟩ | ⟨rfl, h1, e⟩
 ·rw [e, bytesOf_drop s i h]; rfl
 ·rw [e, bytesOf_drop s i h, bytesOf_drop s (i + 1) yq9]; rfl
 ·rw [e, bytesOf_drop s i h, bytesOf_drop s (i + 1) yq9, bytesOf_drop s (i + 2) yq9]; rfl
 rw [e, bytesOf_drop s i h, bytesOf_drop s (i + 1) yq9, bytesOf_drop s (i + 2) yq9, bytesOf_drop s (i + 3) yq9]; rfl
def goodFrom (s : ByteArray) (i : Nat) : Bool :=
 if h : i < s.size then !badAt s i && goodFrom s (i + (dec s i).2) else true
termination_by s.size - i
decreasing_by have := dec_bd s i h; omega
theorem goodFrom_lt {s : ByteArray} {i : Nat} (h : i < s.size) : goodFrom s i = (!badAt s i && goodFrom s (i + (dec s i).2)) := by rw [goodFrom, dif_pos h]
theorem goodFrom_ge {s : ByteArray} {i : Nat} (h : ¬ i < s.size) : goodFrom s i = true := by rw [goodFrom, dif_neg h]
theorem bad_bytes (s : ByteArray) (i : Nat) (h : i < s.size) (hb : badAt s i = true) (r : List Int) : (bytesOf s).drop i ≠ wrB 65533 ++ r := by
 intro e
 have e0 : wrB 65533 = [239, 191, 189] := by decide
 rw [e0] at e
 have hl := congrArg List.length e
 rw [List.length_drop, bytesOf_length, List.length_append] at hl
 simp only [List.length_cons, List.length_nil] at hl
 rw [bytesOf_drop s i h, bytesOf_drop s (i + 1) yq9, bytesOf_drop s (i + 2) yq9] at e
 simp only [List.cons_append, List.nil_append, List.cons.injEq] at e
 obtain ⟨e1, e2, e3, _⟩ := e
 have hd := dec_eq s i
 rw [show (s.get! i).toNat = 239 by omega, show (s.get! (i + 1)).toNat = 191 by omega, show (s.get! (i + 2)).toNat = 189 by omega, dN3 yq9, if_pos yq9] at hd
 unfold badAt at hb
 rw [hd] at hb
 cases hb
theorem bad_at (s : ByteArray) (i : Nat) (hb : badAt s i = true) : (dec s i).1 = 65533 ∧ (dec s i).2 = 1 := by
 unfold badAt at hb
 simpa using hb
theorem back_from (s : ByteArray) : ∀ i, (txtB (ptsFrom s i) = (bytesOf s).drop i ↔ goodFrom s i = true) := by
 refine rec_places s (motive := fun i => (txtB (ptsFrom s i) = (bytesOf s).drop i ↔ goodFrom s i = true)) ?_ ?_
 ·intro i h
  show _ ↔ _
  rw [ptsFrom_ge h, goodFrom_ge h, List.drop_eq_nil_of_le (by rw [bytesOf_length]; omega)]
  simp [txtB]
 intro i h ih
 show _ ↔ _
 rw [ptsFrom_lt h, goodFrom_lt h]
 have e : txtB (((dec s i).1 : Int) :: ptsFrom s (i + (dec s i).2)) = wrB ((dec s i).1 : Int) ++ txtB (ptsFrom s (i + (dec s i).2)) := rfl
 rw [e]
 cases hb : badAt s i with
 | false =>
  rw [good_at s i h hb, List.append_cancel_left_eq, ih]
  simp
 | true =>
  constructor
  ·intro he
   exfalso
   rw [(bad_at s i hb).1] at he
   exact bad_bytes s i h hb _ he.symm
  intro he
  simp at he
theorem bytesOf_inj {s t : ByteArray} (h : bytesOf s = bytesOf t) : s = t := by
 unfold bytesOf at h
 have h2 : s.data.toList = t.data.toList := by
  refine List.map_inj_right (f := fun b : UInt8 => (b.toNat : Int)) ?_ |>.1 h
  intro a b hab
  have : a.toNat = b.toNat := by omega
  exact UInt8.toNat_inj.1 this
 cases s with
 | mk a =>
  cases t with
  | mk b =>
   congr
   exact Array.toList_inj.1 h2
theorem bytesOf_txt (l : List Int) : bytesOf (txt l) = txtB l := by
 refine bytesOf_strOfNums _ ?_
 intro b hb
 obtain ⟨p, _, hp⟩ := List.mem_flatMap.1 hb
 exact wrNums_byte _ b hp
theorem txt_back (s : ByteArray) : txt (pts s) = s ↔ goodFrom s 0 = true := by
 rw [← back_from s 0, List.drop_zero]
 constructor
 ·intro h
  have := congrArg bytesOf h
  rw [bytesOf_txt] at this
  exact this
 intro h
 apply bytesOf_inj
 rw [bytesOf_txt]
 exact h
theorem decodeL_at (s : ByteArray) (i : Nat) : Lib.decodeL (s.data.toList.drop i) = dec s i := by
 have h := Lib.tail_decode s i 0
 rw [Nat.add_zero] at h
 unfold dec
 rw [← h, ← Lib.ext_list]
 rfl
theorem valid_from (s : ByteArray) : ∀ i, Lib.validD (s.data.toList.drop i) = goodFrom s i := by
 refine rec_places s (motive := fun i => Lib.validD (s.data.toList.drop i) = goodFrom s i) ?_ ?_
 ·intro i h
  show _ = _
  rw [goodFrom_ge h, List.drop_eq_nil_of_le (by rw [data_length]; omega)]
  rfl
 intro i h ih
 show _ = _
 have hne : s.data.toList.drop i ≠ [] := by
  intro e
  have := congrArg List.length e
  rw [List.length_drop, data_length] at this
  simp at this
  omega
 rw [Lib.validD_step _ hne, decodeL_at, List.drop_drop, goodFrom_lt h, ih]
 cases hb : badAt s i with
 | true =>
  rw [if_pos (bad_at s i hb)]
  rfl
 | false =>
  rw [if_neg]
  ·rfl
  rintro ⟨e1, e2⟩
  unfold badAt at hb
  rw [e1, e2] at hb
  cases hb
theorem valid_eq (s : ByteArray) : Lib.validD s.data.toList = goodFrom s 0 := by
 have := valid_from s 0
 rw [List.drop_zero] at this
 exact this
end Go.Proofs.YtfafjbolmeimmaaGreatDoor.P
namespace Go.Proofs.YtfafjbolmeimmaaGreatDoor.P
open Go.RowKit Go.Proofs.YtfafjbolmeimmaaGreatDoorW.PrintWords
set_option linter.unusedVariables false
theorem sCat_ev (p : Int) (h0 : 0 ≤ p) (h1 : p < 1000000000) : Ev (fun k => spec_l01Cat.f k p) (kd p).1 := by
 unfold spec_l01Cat.f
 exact Ev.bind (known_ev p h0 h1) (Ev.now _)
def digB (p : Int) : Bool := (kd p).1 == 8
theorem isDigit_ev (p : Int) (h0 : 0 ≤ p) : Ev (fun k => impl_isDigit.f k p) (digB p) := by
 unfold impl_isDigit.f impl_Category.f
 exact Ev.bind (Ev.bind (kind_ev p h0) (Ev.now _)) (Ev.now _)
def okB (s : ByteArray) : Bool := goodFrom s 0
theorem tl_eq (a b : ByteArray) : (a.toList == b.toList) = decide (a = b) := by
 by_cases h : a = b
 ·subst h; simp
 rw [decide_eq_false h]
 refine beq_eq_false_iff_ne.2 (fun e => h ?_)
 rw [ByteArray.toList_eq, ByteArray.toList_eq] at e
 exact ByteArray.ext (Array.toList_inj.1 e)
theorem txt_tl (s : ByteArray) : ((txt (pts s)).toList == s.toList) = okB s := by
 rw [tl_eq]
 unfold okB
 cases h : goodFrom s 0 with
 | true => exact decide_eq_true ((txt_back s).2 h)
 | false => exact decide_eq_false (fun e => by rw [(txt_back s).1 e] at h; cases h)
theorem pts_len' (s : ByteArray) : (pts s).length ≤ s.size := by have := pts_len s 0; unfold pts; omega
def signB (s : ByteArray) : Bool := decide ((pts s).length ≤ 3) && okB s && !(pts s).any digB
theorem sign_l (s : ByteArray) (hs : s.size ≤ 1099511627776) : ∀ (d i : Nat), (pts s).length - i = d → i ≤ (pts s).length → Ev (fun k => zbp.l0 k s (pts s) (i : Int)) (if ((pts s).drop i).any digB = true then false else decide ((pts s).length ≤ 3) && okB s) := by
 have hl := pts_len' s
 intro d
 induction d with
 | zero =>
  intro i hd hi
  refine Ev.step (fun k => by rw [zbp.l0]) ?_
  refine Ev.neg yq9 ?_
  rw [List.drop_eq_nil_of_le yq9]
  show Ev _ (decide ((pts s).length ≤ 3) && okB s)
  by_cases h : ((pts s).length : Int) ≤ 3
  ·refine Ev.pos h (Ev.bind (text_f (pts s) yq9) ((Ev.now _).to ?_))
   rw [txt_tl, decide_eq_true yq9, Bool.true_and]
  refine Ev.neg h ((Ev.now _).to ?_)
  rw [decide_eq_false yq9, Bool.false_and]
 | succ d ih =>
  intro i hd hi
  have hlt : i < (pts s).length := by omega
  have hr := pts_range s 0 ((pts s)[i]) (List.getElem_mem hlt)
  have e3 : rd (pts s) (i : Int) = (pts s)[i] := by simp [rd, hlt]
  refine Ev.step (fun k => by rw [zbp.l0]) ?_
  rw [e3]
  refine Ev.pos yq9 (Ev.pos yq9 (Ev.bind (sCat_ev _ hr.1 yq9) ?_))
  rw [List.drop_eq_getElem_cons hlt, List.any_cons]
  cases h : digB ((pts s)[i]) with
  | true => exact Ev.pos (beq_iff_eq.1 h) ((Ev.now _).to rfl)
  | false =>
   refine Ev.neg (fun e => by unfold digB at h; rw [e] at h; cases h) ?_
   rw [w_succ i yq9, Bool.false_or]
   exact ih (i + 1) yq9 yq9
theorem sign_ev (s : ByteArray) (hs : s.size ≤ 1099511627776) : Ev (fun k => zbp.f k s) (signB s) := by
 unfold zbp.f
 refine Ev.bind (spoints_f s hs) ((sign_l s hs _ 0 rfl yq9).to ?_)
 rw [List.drop_zero]
 unfold signB
 cases (pts s).any digB <;> simp
theorem swell_ev (s : ByteArray) (hs : s.size ≤ 1099511627776) : Ev (fun k => zaX.f k s) (okB s) := by
 unfold zaX.f
 have hl := pts_len' s
 exact Ev.bind (spoints_f s hs) (Ev.bind (text_f (pts s) yq9) ((Ev.now _).to (txt_tl s)))
theorem well_f (s : ByteArray) (hs : s.size ≤ 1099511627776) : impl_well.f s = some (okB s) := by
 unfold impl_well.f utf8_ValidString.f
 rw [if_pos yq9, valid_eq]
 rfl
def frameB (s : ByteArray) : Bool := nilB s || (decide (s.size ≤ 50) && okB s && cnt3 s 48 == 1 && cnt3 s 49 == 1 && !decide (idx3 s 49 < idx3 s 48))
theorem frame_ev (s : ByteArray) (hs : s.size ≤ 1099511627776) : Ev (fun k => spec_l17Frame.f k s) (frameB s) := by
 unfold spec_l17Frame.f frameB nilB
 by_cases h1 : s.toList = ([] : List UInt8)
 ·rw [beq_iff_eq.2 h1]
  exact Ev.pos h1 (Ev.now _)
 rw [beq_eq_false_iff_ne.2 h1, Bool.false_or]
 refine Ev.neg h1 ?_
 by_cases h2 : (s.size : Int) ≤ 50
 case neg => exact Ev.neg h2 ((Ev.now _).to (by rw [show decide (s.size ≤ 50) = false from decide_eq_false yq9]; rfl))
 rw [show decide (s.size ≤ 50) = true from decide_eq_true yq9, Bool.true_and]
 refine Ev.pos h2 (Ev.bind (swell_ev s hs) ?_)
 cases okB s with
 | false => exact Ev.neg yq21 ((Ev.now _).to rfl)
 | true =>
  refine Ev.pos rfl (Ev.bind (cnt_ev s 48 yq38 hs) ?_)
  show Ev _ (true && cnt3 s 48 == 1 && cnt3 s 49 == 1 && !decide (idx3 s 49 < idx3 s 48))
  by_cases h3 : cnt3 s 48 = 1
  case neg => exact Ev.neg h3 ((Ev.now _).to (by rw [beq_eq_false_iff_ne.2 h3]; rfl))
  rw [beq_iff_eq.2 h3]
  refine Ev.pos h3 (Ev.bind (cnt_ev s 49 yq38 hs) ?_)
  by_cases h4 : cnt3 s 49 = 1
  case neg => exact Ev.neg h4 ((Ev.now _).to (by rw [beq_eq_false_iff_ne.2 h4]; rfl))
  rw [beq_iff_eq.2 h4]
  refine Ev.pos h4 (Ev.bind (idx_ev s 48 hs) (Ev.bind (idx_ev s 49 hs) ((Ev.now _).to ?_)))
  have hne := idx_ne s h3
  show decide (idx3 s 48 < idx3 s 49) = !decide (idx3 s 49 < idx3 s 48)
  by_cases h5 : idx3 s 49 < idx3 s 48
  ·rw [decide_eq_true h5]; exact decide_eq_false yq9
  rw [decide_eq_false h5]; exact decide_eq_true yq9
def labB (s : ByteArray) : Bool := decide (1 ≤ s.size) && decide (s.size ≤ 30) && okB s
def labelsB (l : List ByteArray) (n : Int) : Bool := l.all labB && (decide (l.length = 0) || decide ((l.length : Int) = n))
theorem labels_l (l : List ByteArray) (n : Int) (hl : l.length ≤ 1099511627776) (hs : ∀ s ∈ l, s.size ≤ 1099511627776) : ∀ (d i : Nat), l.length - i = d → i ≤ l.length → Ev (fun k => zbd.l0 k l n (i : Int)) ((l.drop i).all labB && (decide (l.length = 0) || decide ((l.length : Int) = n))) := by
 intro d
 induction d with
 | zero =>
  intro i hd hi
  refine Ev.step (fun k => by rw [zbd.l0]) ?_
  refine Ev.neg yq9 ?_
  rw [List.drop_eq_nil_of_le yq9, List.all_nil, Bool.true_and]
  by_cases h : (l.length : Int) = 0
  ·refine Ev.pos h ((Ev.now _).to ?_)
   rw [show decide (l.length = 0) = true from decide_eq_true yq9]
   rfl
  refine Ev.neg h ((Ev.now _).to ?_)
  rw [show decide (l.length = 0) = false from decide_eq_false yq9, Bool.false_or]
  rfl
 | succ d ih =>
  intro i hd hi
  have hlt : i < l.length := by omega
  have e3 : rdOf ByteArray.empty l (i : Int) = l[i] := by simp [rdOf, hlt]
  refine Ev.step (fun k => by rw [zbd.l0]) ?_
  rw [e3]
  refine Ev.pos yq9 (Ev.pos yq9 ?_)
  rw [List.drop_eq_getElem_cons hlt, List.all_cons]
  have hs1 := hs _ (List.getElem_mem hlt)
  generalize l[i] = s at hs1 ⊢
  unfold labB
  by_cases h1 : (s.size : Int) < 1
  ·exact Ev.pos h1 ((Ev.now _).to (by rw [show decide (1 ≤ s.size) = false from decide_eq_false yq9]; rfl))
  rw [show decide (1 ≤ s.size) = true from decide_eq_true yq9]
  refine Ev.neg h1 ?_
  by_cases h2 : (s.size : Int) > 30
  ·exact Ev.pos h2 ((Ev.now _).to (by rw [show decide (s.size ≤ 30) = false from decide_eq_false yq9]; rfl))
  rw [show decide (s.size ≤ 30) = true from decide_eq_true yq9]
  refine Ev.neg h2 (Ev.bind (swell_ev s hs1) ?_)
  cases okB s with
  | false => exact Ev.neg yq21 ((Ev.now _).to rfl)
  | true =>
   refine Ev.pos rfl ?_
   rw [w_succ i yq9]
   exact (ih (i + 1) yq9 yq9).to rfl
theorem labels_ev (l : List ByteArray) (n : Int) (hl : l.length ≤ 1099511627776) (hs : ∀ s ∈ l, s.size ≤ 1099511627776) : Ev (fun k => zbd.f k l n) (labelsB l n) :=
 (labels_l l n hl hs _ 0 rfl yq9).to (by rw [List.drop_zero]; rfl)
end Go.Proofs.YtfafjbolmeimmaaGreatDoor.P
