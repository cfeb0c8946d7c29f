/- ListText, plain: the program's and the reference's come to one text. -/
import Derived.Test.YtfafjbolmeimmaaGreatDoorAb
import Derived.Test.YtfafjbolmeimmaaGreatDoorF20
import Derived.Test.YtfafjbolmeimmaaGreatDoorF17
import Derived.Test.YtfafjbolmeimmaaGreatDoorJ32
import Derived.Test.YtfafjbolmeimmaaGreatDoorJ30
namespace Go.Proofs.YtfafjbolmeimmaaGreatDoor.P
open Go.RowKit Go.Proofs.YtfafjbolmeimmaaGreatDoorW.PrintWords
set_option linter.unusedVariables false
theorem occ_end {s : List UInt8} {x : UInt8} {i : Nat} (h : Lib.occAt s (mk3 x) i = true) : i + 3 ≤ s.length := by
 rcases Lib.occAt_room h with h | h
 ·exact h
 cases h
theorem occ_drop (s sub : List UInt8) (a j : Nat) : Lib.occAt (s.drop a) sub j = Lib.occAt s sub (a + j) := by
 unfold Lib.occAt
 rw [List.drop_drop]
theorem occ_head {s : List UInt8} {x : UInt8} {i : Nat} (h : Lib.occAt s (mk3 x) i = true) : s[i]? = some 123 ∧ s[i + 1]? = some x ∧ s[i + 2]? = some 125 := by
 obtain ⟨t, ht⟩ := List.isPrefixOf_iff_prefix.1 h
 have e : ∀ j, s[i + j]? = (s.drop i)[j]? := fun j => by rw [List.getElem?_drop]
 rw [show s[i]? = s[i + 0]? from rfl, e 0, e 1, e 2, ← ht]
 exact ⟨rfl, rfl, rfl⟩
theorem frame_at (s : ByteArray) (h : frameB s = true) (hn : nilB s = false) : ∃ i k : Nat, idx3 s 48 = i ∧ idx3 s 49 = k ∧ i + 3 ≤ k ∧ k + 3 ≤ s.size ∧ s.size ≤ 50 ∧ Lib.index (s.data.toList.drop (i + 3)) (mk3 49) = ((k - (i + 3) : Nat) : Int) := by
 unfold frameB at h
 rw [hn] at h
 simp only [Bool.false_or, Bool.and_eq_true, decide_eq_true_eq, beq_iff_eq, Bool.not_eq_true', decide_eq_false_iff_not] at h
 obtain ⟨⟨⟨⟨hz, _⟩, c0⟩, c1⟩, hlt⟩ := h
 have hL : s.data.toList.length = s.size := by rw [Array.length_toList]; rfl
 have hne := idx_ne s c0
 unfold idx3 at *
 rcases Lib.index_spec s.data.toList (mk3 48) with ⟨h1, _⟩ | ⟨i, h1, h2, h3, h4⟩
 ·have h5 : Lib.countB s (sub3 48) = 0 := Lib.count_miss h1
  unfold cnt3 at c0
  omega
 rcases Lib.index_spec s.data.toList (mk3 49) with ⟨g1, _⟩ | ⟨k, g1, g2, g3, g4⟩
 ·have h5 : Lib.countB s (sub3 49) = 0 := Lib.count_miss g1
  unfold cnt3 at c1
  omega
 have hk := occ_end g3
 obtain ⟨x0, x1, x2⟩ := occ_head h3
 obtain ⟨y0, _, _⟩ := occ_head g3
 have hik : i + 3 ≤ k := by
  have n1 : k ≠ i + 1 := by
   rintro rfl
   rw [x1] at y0
   exact absurd (Option.some.inj y0) yq43
  have n2 : k ≠ i + 2 := by
   rintro rfl
   rw [x2] at y0
   exact absurd (Option.some.inj y0) yq43
  omega
 refine ⟨i, k, h1, g1, hik, yq12, hz, ?_⟩
 refine Lib.index_first (by rw [List.length_drop]; omega) ?_ (fun j hj => ?_)
 ·rw [occ_drop, show i + 3 + (k - (i + 3)) = k by omega]; exact g3
 rw [occ_drop]; exact g4 _ yq12
def frV (s a b : ByteArray) : ByteArray := if nilB s = true then ⟨#[]⟩ else (((s.extract 0 (idx3 s 48).toNat ++ a) ++ s.extract ((idx3 s 48).toNat + 3) (idx3 s 49).toNat) ++ b) ++ s.extract ((idx3 s 49).toNat + 3) s.size
theorem nil_is {s : ByteArray} (h : nilB s = true) : s = ⟨#[]⟩ := by
 have h1 : s.toList = [] := eq_of_beq h
 have h2 : s.data.toList = [] := by rw [← h1]; exact (ByteArray.toList_eq s).symm
 obtain ⟨⟨l⟩⟩ := s
 obtain rfl : l = [] := h2
 rfl
theorem nil_not {s : ByteArray} (h : nilB s = false) : ¬ s.toList = ([] : List UInt8) := fun e => by
 unfold nilB at h
 rw [e] at h
 cases h
theorem ext_size (s : ByteArray) (a b : Nat) (h : b ≤ s.size) : (s.extract a b).size = b - a := by
 rw [ByteArray.size_extract]
 omega
theorem app_size (a b : ByteArray) : (a ++ b).size = a.size + b.size := ByteArray.size_append
theorem frV_size (s a b : ByteArray) (h : frameB s = true) : (frV s a b).size ≤ 50 + a.size + b.size := by
 unfold frV
 cases hn : nilB s with
 | true => rw [if_pos rfl]; show (0 : Nat) ≤ _; omega
 | false =>
  obtain ⟨i, k, hi, hk, h1, h2, h3, _⟩ := frame_at s h hn
  rw [if_neg yq26, hi, hk]
  simp only [app_size, Int.toNat_natCast, ext_size s _ _ (show i ≤ s.size by omega), ext_size s _ _ (show k ≤ s.size by omega), ext_size s _ _ (Nat.le_refl s.size)]
  omega
theorem frames_ev (s a b : ByteArray) (h : frameB s = true) (ha : a.size ≤ 1099511627776) (hb : b.size ≤ 1099511627776) : Ev (fun k => za0.f k s a b) (frV s a b) := by
 unfold frV
 cases hn : nilB s with
 | true =>
  rw [if_pos rfl]
  have e := nil_is hn
  have e1 : idx3 s 48 = -1 := by rw [e]; rfl
  have hz : s.size ≤ 1099511627776 := by rw [e]; exact Nat.zero_le _
  unfold za0.f
  refine Ev.bind (idx_ev s 48 hz) ?_
  refine Ev.bind (idx_ev s 49 hz) ?_
  rw [e1]
  exact Ev.pos yq12 (Ev.now _)
 | false =>
  obtain ⟨i, k, hi, hk, h1, h2, h3, _⟩ := frame_at s h hn
  have w1 : zaa (wrap64 ((i : Int) + 3) = ((i + 3 : Nat) : Int)) := ⟨by rw [w64 yq12 yq12]; omega⟩
  have w2 : zaa (wrap64 ((k : Int) + 3) = ((k + 3 : Nat) : Int)) := ⟨by rw [w64 yq12 yq12]; omega⟩
  have z1 := ext_size s 0 i yq12
  have z2 := ext_size s (i + 3) k yq12
  have z3 := ext_size s (k + 3) s.size (Nat.le_refl _)
  rw [if_neg yq26, hi, hk]
  unfold za0.f
  refine Ev.bind (idx_ev s 48 yq12) ?_
  refine Ev.bind (idx_ev s 49 yq12) ?_
  rw [hi, hk, w1.out, w2.out]
  simp only [Int.toNat_natCast]
  refine Ev.neg yq12 ?_
  refine Ev.neg yq12 ?_
  refine Ev.pos yq12 ?_
  refine Ev.pos yq12 ?_
  refine Ev.pos yq12 ?_
  refine Ev.pos yq12 ?_
  refine Ev.pos yq12 ?_
  refine Ev.pos yq12 ?_
  refine Ev.pos (by rw [app_size]; omega) ?_
  refine Ev.pos (by rw [app_size, app_size]; omega) ?_
  refine Ev.pos yq12 ?_
  refine Ev.pos yq12 ?_
  refine Ev.pos (by rw [app_size, app_size, app_size]; omega) ?_
  exact Ev.now _
theorem ext_list (s : ByteArray) (a b : Nat) : s.extract a b = ⟨((s.data.toList.drop a).take (b - a)).toArray⟩ := by
 apply ByteArray.ext
 apply Array.ext'
 rw [ByteArray.data_extract, Array.toList_extract, List.extract_eq_take_drop]
theorem cut_at {s sub : List UInt8} {i : Nat} (h : Lib.index s sub = i) : Lib.cut s sub = (s.take i, s.drop (i + sub.length), true) := by
 unfold Lib.cut
 rw [h, if_pos yq12]
 rfl
theorem strings_cut_at (s : ByteArray) (x : UInt8) (i : Nat) (h : Lib.index s.data.toList (mk3 x) = i) (hs : s.size ≤ 50) : strings_Cut2.f s ⟨#[123, x, 125]⟩ = some (⟨(s.data.toList.take i).toArray⟩, ⟨(s.data.toList.drop (i + 3)).toArray⟩, true) := by
 unfold strings_Cut2.f strings_Cut.f
 rw [if_pos yq12, show (⟨#[123, x, 125]⟩ : ByteArray).data.toList = mk3 x from rfl, cut_at h]
 rfl
theorem filled_f (s a b : ByteArray) (h : frameB s = true) (ha : a.size ≤ 1099511627776) (hb : b.size ≤ 1099511627776) : impl_filled.f s a b = some (frV s a b) := by
 unfold frV
 cases hn : nilB s with
 | true =>
  rw [if_pos rfl, nil_is hn]
  have e1 : strings_Cut2.f ⟨#[]⟩ ⟨#[123, 48, 125]⟩ = some (⟨#[]⟩, ⟨#[]⟩, false) := by decide
  have e2 : strings_Cut2.f ⟨#[]⟩ ⟨#[123, 49, 125]⟩ = some (⟨#[]⟩, ⟨#[]⟩, false) := by decide
  unfold impl_filled.f
  rw [e1, Option.bind_some, e2, Option.bind_some, if_pos (ByteArray.toList_eq _)]
 | false =>
  obtain ⟨i, k, hi, hk, h1, h2, h3, h4⟩ := frame_at s h hn
  have hL : s.data.toList.length = s.size := by rw [Array.length_toList]; rfl
  have z1 := ext_size s 0 i yq12
  have z2 := ext_size s (i + 3) k yq12
  have z3 := ext_size s (k + 3) s.size (Nat.le_refl _)
  have e1 := strings_cut_at s 48 i hi h3
  have e2 := strings_cut_at ⟨(s.data.toList.drop (i + 3)).toArray⟩ 49 (k - (i + 3)) h4 (by show (s.data.toList.drop (i + 3)).toArray.size ≤ 50; rw [List.size_toArray, List.length_drop]; omega)
  have f1 : (⟨(s.data.toList.take i).toArray⟩ : ByteArray) = s.extract 0 i := by rw [ext_list, List.drop_zero, Nat.sub_zero]
  have f2 : (⟨((s.data.toList.drop (i + 3)).take (k - (i + 3))).toArray⟩ : ByteArray) = s.extract (i + 3) k := by rw [ext_list]
  have f3 : (⟨((s.data.toList.drop (i + 3)).drop (k - (i + 3) + 3)).toArray⟩ : ByteArray) = s.extract (k + 3) s.size := by
   rw [ext_list, List.drop_drop, show i + 3 + (k - (i + 3) + 3) = k + 3 by omega, List.take_of_length_le (by rw [List.length_drop]; omega)]
  rw [if_neg yq26, hi, hk]
  simp only [Int.toNat_natCast]
  unfold impl_filled.f
  rw [e1, Option.bind_some, e2, Option.bind_some, if_neg (nil_not hn)]
  show (if (⟨(s.data.toList.take i).toArray⟩ : ByteArray).size + a.size ≤ 9223372036854775807 then _ else _) = _
  rw [f1]
  show (if _ then (if (s.extract 0 i ++ a).size + (⟨((s.data.toList.drop (i + 3)).take (k - (i + 3))).toArray⟩ : ByteArray).size ≤ 9223372036854775807 then (if (s.extract 0 i ++ a ++ (⟨((s.data.toList.drop (i + 3)).take (k - (i + 3))).toArray⟩ : ByteArray)).size + b.size ≤ 9223372036854775807 then (if (s.extract 0 i ++ a ++ (⟨((s.data.toList.drop (i + 3)).take (k - (i + 3))).toArray⟩ : ByteArray) ++ b).size + (⟨((s.data.toList.drop (i + 3)).drop (k - (i + 3) + 3)).toArray⟩ : ByteArray).size ≤ 9223372036854775807 then some (s.extract 0 i ++ a ++ (⟨((s.data.toList.drop (i + 3)).take (k - (i + 3))).toArray⟩ : ByteArray) ++ b ++ (⟨((s.data.toList.drop (i + 3)).drop (k - (i + 3) + 3)).toArray⟩ : ByteArray)) else none) else none) else none) else none) = _
  rw [f2, f3, if_pos yq12, if_pos (by rw [app_size]; omega), if_pos (by rw [app_size, app_size]; omega), if_pos (by rw [app_size, app_size, app_size]; omega)]
def shortV (s : ByteArray) : ByteArray := if (s.size : Int) > 65536 then ⟨#[]⟩ else s
theorem short_f (s : ByteArray) : impl_short.f s = some (shortV s) := by
 unfold impl_short.f impl_long.f shortV
 rw [Option.bind_some]
 by_cases h : (s.size : Int) > 65536
 ·rw [if_pos (decide_eq_true h), if_pos h]
 rw [if_neg (by simp only [decide_eq_true_eq]; exact h), if_neg h]
theorem small_f (s : ByteArray) : spec_l01Small.f s = some (shortV s) := by
 unfold spec_l01Small.f shortV
 by_cases h : (s.size : Int) > 65536
 ·rw [if_pos h, if_pos h]
 rw [if_neg h, if_neg h]
theorem getD_at {l : List ByteArray} {n : Nat} (h : n < l.length) : l.getD n ByteArray.empty = l[n] := by
 rw [List.getD_eq_getElem?_getD, List.getElem?_eq_getElem h]
 rfl
def accV (m : ByteArray) (acc : ByteArray) (l : List ByteArray) : ByteArray := l.foldl (fun s x => frV m s x) acc
def lsV (l : List ByteArray) (i : Nat) : List ByteArray := (l.take (l.length - 1)).drop i
theorem lsV_next {l : List ByteArray} {i : Nat} (h : i + 1 < l.length) : lsV l i = l[i]'yq12 :: lsV l (i + 1) := by
 unfold lsV
 rw [List.drop_eq_getElem_cons (by rw [List.length_take]; omega), List.getElem_take]
theorem lsV_end {l : List ByteArray} {i : Nat} (h : ¬ i + 1 < l.length) : lsV l i = [] := by
 unfold lsV
 exact List.drop_eq_nil_of_le (by rw [List.length_take]; omega)
theorem rd_text {l : List ByteArray} {i : Nat} (h : i < l.length) : rdOf ByteArray.empty l (i : Int) = l[i] := by simp [rdOf, h]
theorem slist_l (a0 a1 a2 a3 a4 : ByteArray) (l5 : List Int) (a6 : Int) (l7 : List S58) (a8 a9 a10 a11 : ByteArray) (l12 l13 : List ByteArray) (a14 : ByteArray) (l : List ByteArray) (hl : l.length ≤ 1000) (hz : ∀ s ∈ l, s.size ≤ 1048576) (f10 : frameB a10 = true) (f11 : frameB a11 = true) : ∀ (d i : Nat), l.length - i = d → 2 ≤ i → i < l.length → ∀ acc : ByteArray, acc.size ≤ i * 2097152 →
  Ev (fun k => zbq.l0 k l (l.length : Int) acc (i : Int) a0 a1 a2 a3 a4 l5 a6 l7 a8 a9 a10 a11 l12 l13 a14) (frV a11 (accV a10 acc (lsV l i)) (l.getD (l.length - 1) ByteArray.empty)) := by
 intro d
 induction d with
 | zero => intro i hd _ hi; omega
 | succ d ih =>
  intro i hd h2 hi acc hacc
  have e2 := zaa.mk (w_succ i yq12)
  refine Ev.step (fun k => by rw [zbq.l0]) ?_
  rw [e2.out, rd_text hi]
  by_cases hn : i + 1 < l.length
  ·have hzi := hz l[i] (List.getElem_mem hi)
   have hsz := frV_size a10 acc l[i] f10
   refine Ev.pos yq12 (Ev.pos yq12 (Ev.pos yq12 (Ev.bind (frames_ev a10 acc l[i] f10 yq12 yq12) ?_)))
   rw [lsV_next hn]
   exact ih (i + 1) yq12 yq12 hn _ yq12
  have e3 : zaa (wrap64 ((l.length : Int) - 1) = ((l.length - 1 : Nat) : Int)) := ⟨by rw [w64 yq12 yq12]; omega⟩
  have hz9 := hz (l[l.length - 1]'yq12) (List.getElem_mem _)
  rw [e3.out, rd_text (show l.length - 1 < l.length by omega), lsV_end hn, getD_at (show l.length - 1 < l.length by omega)]
  exact Ev.neg yq12 (Ev.pos yq12 (Ev.pos yq12 (Ev.bind (frames_ev a11 acc _ f11 yq12 yq12) (Ev.now _))))
theorem ilist_l (a0 a1 a2 a3 a4 : ByteArray) (l5 : List Int) (a6 : Int) (l7 : List S58) (a8 a9 a10 a11 : ByteArray) (l12 l13 : List ByteArray) (a14 : ByteArray) (l : List ByteArray) (hl : l.length ≤ 1000) (hz : ∀ s ∈ l, s.size ≤ 1048576) (f10 : frameB a10 = true) (f11 : frameB a11 = true) : ∀ (d i : Nat), l.length - i = d → 2 ≤ i → i < l.length → ∀ acc : ByteArray, acc.size ≤ i * 2097152 →
  Ev (fun k => zau.l0 k l (l.length : Int) acc (lsV l 2) ((lsV l 2).length : Int) ((i - 2 : Nat) : Int) a0 a1 a2 a3 a4 l5 a6 l7 a8 a9 a10 a11 l12 l13 a14) (shortV (frV a11 (accV a10 acc (lsV l i)) (l.getD (l.length - 1) ByteArray.empty))) := by
 intro d
 induction d with
 | zero => intro i hd _ hi; omega
 | succ d ih =>
  intro i hd h2 hi acc hacc
  have hM : (lsV l 2).length = l.length - 1 - 2 := by unfold lsV; rw [List.length_drop, List.length_take]; omega
  have e2 := zaa.mk (w_succ (i - 2) yq12)
  refine Ev.step (fun k => by rw [zau.l0]) ?_
  rw [e2.out]
  by_cases hn : i + 1 < l.length
  ·have hzi := hz l[i] (List.getElem_mem hi)
   have hsz := frV_size a10 acc l[i] f10
   have hr : rdOf ByteArray.empty (lsV l 2) ((i - 2 : Nat) : Int) = l[i] := by
    rw [rd_text (show i - 2 < (lsV l 2).length by omega)]
    unfold lsV
    rw [List.getElem_drop, List.getElem_take]
    congr 1
    omega
   rw [hr]
   refine Ev.pos yq12 (Ev.pos yq12 (Ev.pos yq12 (Ev.bind (Ev.done (filled_f a10 acc l[i] f10 yq12 yq12)) ?_)))
   rw [lsV_next hn, show i - 2 + 1 = i + 1 - 2 by omega]
   exact ih (i + 1) yq12 yq12 hn _ yq12
  have e3 : zaa (wrap64 ((l.length : Int) - 1) = ((l.length - 1 : Nat) : Int)) := ⟨by rw [w64 yq12 yq12]; omega⟩
  have hz9 := hz (l[l.length - 1]'yq12) (List.getElem_mem _)
  rw [e3.out, rd_text (show l.length - 1 < l.length by omega), lsV_end hn, getD_at (show l.length - 1 < l.length by omega)]
  exact Ev.neg yq12 (Ev.pos yq12 (Ev.pos yq12 (Ev.bind (Ev.done (filled_f a11 acc _ f11 yq12 yq12)) (Ev.bind (Ev.done (short_f _)) (Ev.now _)))))
def listV (two start mid last : ByteArray) : List ByteArray → ByteArray
 | [] => ⟨#[]⟩
 | [x] => x
 | [x, y] => frV two x y
 | x :: y :: l => frV last (accV mid (frV start x y) (lsV (x :: y :: l) 2)) ((x :: y :: l).getD (l.length + 1) ByteArray.empty)
theorem okLoc_parts {a0 a1 a2 a3 a4 : ByteArray} {l5 : List Int} {a6 : Int} {l7 : List S58} {a8 a9 a10 a11 : ByteArray} {l12 l13 : List ByteArray} {a14 : ByteArray} (h : okLoc a0 a1 a2 a3 a4 l5 a6 l7 a8 a9 a10 a11 l12 l13 a14 = true) : frameB a8 = true ∧ frameB a9 = true ∧ frameB a10 = true ∧ frameB a11 = true ∧ -1 ≤ a6 := by
 unfold okLoc loc1 at h
 simp only [Bool.and_eq_true, List.all_cons, List.all_nil, Bool.and_true, Bool.not_eq_true', decide_eq_false_iff_not] at h
 obtain ⟨⟨⟨⟨⟨⟨⟨h1, _⟩, _⟩, _⟩, _⟩, h8, h9, h10, h11⟩, _⟩, _⟩ := h
 exact ⟨h8, h9, h10, h11, yq12⟩
theorem slist_f (a0 a1 a2 a3 a4 : ByteArray) (l5 : List Int) (a6 : Int) (l7 : List S58) (a8 a9 a10 a11 : ByteArray) (l12 l13 : List ByteArray) (a14 : ByteArray) (l : List ByteArray) (hl : l.length ≤ 1000) (hz : ∀ s ∈ l, s.size ≤ 1048576) (hk : okLoc a0 a1 a2 a3 a4 l5 a6 l7 a8 a9 a10 a11 l12 l13 a14 = true) : Ev (fun k => zbq.f k a0 a1 a2 a3 a4 l5 a6 l7 a8 a9 a10 a11 l12 l13 a14 l) (listV a8 a9 a10 a11 l) := by
 obtain ⟨f8, f9, f10, f11, _⟩ := okLoc_parts hk
 unfold zbq.f
 match l, hl, hz with
 | [], _, _ => exact Ev.pos rfl (Ev.now _)
 | [x], _, _ => exact Ev.neg yq26 (Ev.pos rfl (Ev.pos yq26 (Ev.now _)))
 | [x, y], _, hz =>
  have zx := hz x yq26
  have zy := hz y yq26
  exact Ev.neg yq26 (Ev.neg yq26 (Ev.pos rfl (Ev.pos yq26 (Ev.pos yq26 (Ev.bind (frames_ev a8 x y f8 yq12 yq12) (Ev.now _))))))
 | x :: y :: z :: l, hl, hz =>
  have zx := hz x yq26
  have zy := hz y yq26
  have hlen : (x :: y :: z :: l).length = l.length + 3 := rfl
  have hsz := frV_size a9 x y f9
  refine Ev.neg (by rw [hlen]; omega) (Ev.neg (by rw [hlen]; omega) (Ev.neg (by rw [hlen]; omega) (Ev.pos (by rw [hlen]; omega) (Ev.pos (by rw [hlen]; omega) (Ev.bind (frames_ev a9 x y f9 yq12 yq12) ?_)))))
  exact slist_l a0 a1 a2 a3 a4 l5 a6 l7 a8 a9 a10 a11 l12 l13 a14 _ hl hz f10 f11 _ 2 rfl (Nat.le_refl _) (by rw [hlen]; omega) _ yq12
theorem ilist_j (a0 a1 a2 a3 a4 : ByteArray) (l5 : List Int) (a6 : Int) (l7 : List S58) (a8 a9 a10 a11 : ByteArray) (l12 l13 : List ByteArray) (a14 : ByteArray) (l : List ByteArray) (hl : l.length ≤ 1000) (hz : ∀ s ∈ l, s.size ≤ 1048576) (hk : okLoc a0 a1 a2 a3 a4 l5 a6 l7 a8 a9 a10 a11 l12 l13 a14 = true) : Ev (fun k => zau.j0 k l false a0 a1 a2 a3 a4 l5 a6 l7 a8 a9 a10 a11 l12 l13 a14) (shortV (listV a8 a9 a10 a11 l)) := by
 obtain ⟨f8, f9, f10, f11, _⟩ := okLoc_parts hk
 refine Ev.step (fun k => by rw [zau.j0]) (Ev.neg yq26 ?_)
 match l, hl, hz with
 | [], _, _ => exact Ev.pos rfl (Ev.now _)
 | [x], _, _ => exact Ev.neg yq26 (Ev.pos rfl (Ev.pos yq26 (Ev.bind (Ev.done (short_f _)) (Ev.now _))))
 | [x, y], _, hz =>
  have zx := hz x yq26
  have zy := hz y yq26
  exact Ev.neg yq26 (Ev.neg yq26 (Ev.pos rfl (Ev.pos yq26 (Ev.pos yq26 (Ev.bind (Ev.done (filled_f a8 x y f8 yq12 yq12)) (Ev.bind (Ev.done (short_f _)) (Ev.now _)))))))
 | x :: y :: z :: l, hl, hz =>
  have zx := hz x yq26
  have zy := hz y yq26
  have hlen : (x :: y :: z :: l).length = l.length + 3 := rfl
  have hsz := frV_size a9 x y f9
  have e3 : zaa (wrap64 (((x :: y :: z :: l).length : Int) - 1) = (((x :: y :: z :: l).length - 1 : Nat) : Int)) := ⟨by rw [hlen, w64 yq12 yq12]; omega⟩
  rw [e3.out, Int.toNat_natCast]
  refine Ev.neg (by rw [hlen]; omega) (Ev.neg (by rw [hlen]; omega) (Ev.neg (by rw [hlen]; omega) (Ev.pos (by rw [hlen]; omega) (Ev.pos (by rw [hlen]; omega) (Ev.bind (Ev.done (filled_f a9 x y f9 yq12 yq12)) (Ev.pos (by rw [hlen]; omega) (Ev.pos (by rw [hlen]; omega) ?_)))))))
  exact ilist_l a0 a1 a2 a3 a4 l5 a6 l7 a8 a9 a10 a11 l12 l13 a14 _ hl hz f10 f11 _ 2 rfl (Nat.le_refl _) (by rw [hlen]; omega) _ yq12
theorem list_f (a0 a1 a2 a3 a4 : ByteArray) (l5 : List Int) (a6 : Int) (l7 : List S58) (a8 a9 a10 a11 : ByteArray) (l12 l13 : List ByteArray) (a14 : ByteArray) (l : List ByteArray) (hz : ∀ s ∈ l, s.size ≤ 1048576) (hs : smallLoc a0 a1 a2 a3 a4 l5 l7 a8 a9 a10 a11 l12 l13 a14 = true) : ∃ r, Ev (fun k => zbk.f k a0 a1 a2 a3 a4 l5 a6 l7 a8 a9 a10 a11 l12 l13 a14 l) r ∧ Ev (fun k => zau.f k a0 a1 a2 a3 a4 l5 a6 l7 a8 a9 a10 a11 l12 l13 a14 l) r := by
 by_cases hn : (l.length : Int) > 1000
 ·exact ⟨⟨#[]⟩, Ev.pos hn (Ev.step (fun k => by rw [zbk.j0]) (Ev.pos rfl (Ev.now _))), Ev.pos hn (Ev.step (fun k => by rw [zau.j0]) (Ev.pos rfl (Ev.now _)))⟩
 have hS : zaF.f a0 a1 a2 a3 a4 l5 a6 l7 a8 a9 a10 a11 l12 l13 a14 = some (if okLoc a0 a1 a2 a3 a4 l5 a6 l7 a8 a9 a10 a11 l12 l13 a14 = true then 0 else 1) := if_pos hs
 have hI : zaD.f a0 a1 a2 a3 a4 l5 a6 l7 a8 a9 a10 a11 l12 l13 a14 = some (if okLoc a0 a1 a2 a3 a4 l5 a6 l7 a8 a9 a10 a11 l12 l13 a14 = true then 0 else 1) := if_pos hs
 have bad : ∀ (x y : Bool), spec_l17Ready.f a0 a1 a2 a3 a4 l5 a6 l7 a8 a9 a10 a11 l12 l13 a14 = some x → impl_ready.f a0 a1 a2 a3 a4 l5 a6 l7 a8 a9 a10 a11 l12 l13 a14 = some y → x = false → y = false → ∃ r, Ev (fun k => zbk.f k a0 a1 a2 a3 a4 l5 a6 l7 a8 a9 a10 a11 l12 l13 a14 l) r ∧ Ev (fun k => zau.f k a0 a1 a2 a3 a4 l5 a6 l7 a8 a9 a10 a11 l12 l13 a14 l) r := by
  rintro _ _ h1 h2 rfl rfl
  exact ⟨⟨#[]⟩, Ev.neg hn (Ev.bind (Ev.done h1) (Ev.step (fun k => by rw [zbk.j0]) (Ev.pos yq43 (Ev.now _)))), Ev.neg hn (Ev.bind (Ev.done h2) (Ev.step (fun k => by rw [zau.j0]) (Ev.pos yq43 (Ev.now _))))⟩
 by_cases hk : okLoc a0 a1 a2 a3 a4 l5 a6 l7 a8 a9 a10 a11 l12 l13 a14 = true
 ·rw [if_pos hk] at hS hI
  have rS : spec_l17Ready.f a0 a1 a2 a3 a4 l5 a6 l7 a8 a9 a10 a11 l12 l13 a14 = some (decide (a6 ≥ 0)) := by unfold spec_l17Ready.f; rw [hS, Option.bind_some, if_pos rfl]
  have rI : impl_ready.f a0 a1 a2 a3 a4 l5 a6 l7 a8 a9 a10 a11 l12 l13 a14 = some (a6 != (-1)) := by unfold impl_ready.f; rw [hI, Option.bind_some, if_pos rfl]
  obtain ⟨_, _, _, _, h6⟩ := okLoc_parts hk
  by_cases h : a6 = -1
  ·subst h
   exact bad _ _ rS rI yq43 yq43
  have b1 : decide (a6 ≥ 0) = true := decide_eq_true yq12
  have b2 : (a6 != (-1)) = true := by simpa using h
  rw [b1] at rS
  rw [b2] at rI
  exact ⟨_, Ev.neg hn (Ev.bind (Ev.done rS) (Ev.step (fun k => by rw [zbk.j0]) (Ev.neg yq26 (Ev.bind (slist_f a0 a1 a2 a3 a4 l5 a6 l7 a8 a9 a10 a11 l12 l13 a14 l yq12 hz hk) (Ev.bind (Ev.done (small_f _)) (Ev.now _)))))), Ev.neg hn (Ev.bind (Ev.done rI) (ilist_j a0 a1 a2 a3 a4 l5 a6 l7 a8 a9 a10 a11 l12 l13 a14 l yq12 hz hk))⟩
 rw [if_neg hk] at hS hI
 exact bad false false (by unfold spec_l17Ready.f; rw [hS, Option.bind_some, if_neg yq43]) (by unfold impl_ready.f; rw [hI, Option.bind_some, if_neg yq43]) rfl rfl
end Go.Proofs.YtfafjbolmeimmaaGreatDoor.P
