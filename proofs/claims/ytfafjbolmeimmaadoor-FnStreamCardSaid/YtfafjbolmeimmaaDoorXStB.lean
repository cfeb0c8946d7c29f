/- The reference's tests of bytes that begin a point's writing, and its numbers out of bytes, in plain words. -/
import Derived.Test.YtfafjbolmeimmaaDoorF9
import Derived.Test.YtfafjbolmeimmaaDoorF10
import Derived.Test.YtfafjbolmeimmaaDoorXStC
import Derived.Laws.BitsLemmas
namespace Go.Proofs.YtfafjbolmeimmaaDoor.P
open Go.RowKit Go.Proofs.YtfafjbolmeimmaaDoorW.PrintWords
set_option linter.unusedVariables false
theorem get_ext (D : ByteArray) (i e t : Nat) (he : e ≤ D.size) (ht : i + t < e) : bN (D.extract i e) t = bN D (i + t) := by
 unfold bN
 have h1 : t < (D.extract i e).size := by rw [ByteArray.size_extract]; omega
 rw [Utf8W.get!_of_lt _ t h1, Utf8W.get!_of_lt _ (i + t) (by omega)]
 simp [ByteArray.getElem_extract]
theorem bt_ext (D : ByteArray) (i e t : Nat) (he : e ≤ D.size) (ht : i + t < e) : bt (D.extract i e) (t : Int) = (bN D (i + t) : Int) := by
 rw [bt_get]
 show ((bN (D.extract i e) t : Nat) : Int) = _
 rw [get_ext D i e t he ht]
theorem size_ext (D : ByteArray) (i e : Nat) (hi : i ≤ e) (he : e ≤ D.size) : (D.extract i e).size = e - i := by rw [ByteArray.size_extract]; omega
def okT (x : ByteArray) (lo hi : Int) (t : Nat) : Prop := (t = 1 → lo ≤ bt x 1 ∧ bt x 1 ≤ hi) ∧ 128 ≤ bt x (t : Int) ∧ bt x (t : Int) ≤ 191
theorem beg_l (x : ByteArray) (hx : x.size ≤ 100) (lo hi : Int) (r : Bool) : ∀ (d m : Nat), m + d = x.size → 1 ≤ m → (r = true ↔ ∀ t, m ≤ t → t < x.size → okT x lo hi t) → Ev (fun k => zaA.l0 k x lo hi (m : Int)) r
 | 0, m, hm, h1, hr => by
  refine Ev.step (fun k => by rw [zaA.l0]) (Ev.neg (by omega) ((Ev.now _).to ?_))
  symm
  exact hr.2 fun t h2 h3 => by omega
 | d + 1, m, hm, h1, hr => by
  refine Ev.step (fun k => by rw [zaA.l0]) (Ev.pos (by omega) ?_)
  rw [w_succ m (by omega)]
  have hb0 := bt_get x m
  have hb : (x.get! m).toNat < 256 := (x.get! m).toNat_lt
  have fin : okT x lo hi m → Ev (fun k => zaA.l0 k x lo hi ((m + 1 : Nat) : Int)) r := fun ho =>
   beg_l x hx lo hi r d (m + 1) (by omega) (by omega) (hr.trans ⟨fun h t h2 h3 => h t (by omega) h3, fun h t h2 h3 => by
    rcases Nat.eq_or_lt_of_le h2 with rfl | h4
    ·exact ho
    exact h t (by omega) h3⟩)
  have bad : ¬ okT x lo hi m → r = false := fun ho => Bool.eq_false_iff.2 fun h => ho (hr.1 h m (by omega) (by omega))
  by_cases e1 : m = 1
  ·subst e1
   refine Ev.pos rfl (Ev.pos (by omega) ?_)
   by_cases c1 : bt x ((1 : Nat) : Int) < lo
   ·rw [bad (fun ho => by have := (ho.1 rfl).1; exact absurd c1 (Int.not_lt.2 this))]; exact Ev.pos c1 (Ev.now _)
   refine Ev.neg c1 ?_
   by_cases c2 : bt x ((1 : Nat) : Int) > hi
   ·rw [bad (fun ho => by have := (ho.1 rfl).2; exact absurd c2 (Int.not_lt.2 this))]; exact Ev.pos c2 (Ev.now _)
   refine Ev.neg c2 ?_
   by_cases c3 : bt x ((1 : Nat) : Int) < 128
   ·rw [bad (fun ho => by have := ho.2.1; omega)]; exact Ev.pos c3 (Ev.now _)
   refine Ev.neg c3 ?_
   by_cases c4 : bt x ((1 : Nat) : Int) > 191
   ·rw [bad (fun ho => by have := ho.2.2; omega)]; exact Ev.pos c4 (Ev.now _)
   exact Ev.neg c4 (fin ⟨fun _ => ⟨Int.not_lt.1 c1, Int.not_lt.1 c2⟩, by omega, by omega⟩)
  refine Ev.neg (by omega) (Ev.pos (by omega) ?_)
  by_cases c3 : bt x (m : Int) < 128
  ·rw [bad (fun ho => by have := ho.2.1; omega)]; exact Ev.pos c3 (Ev.now _)
  refine Ev.neg c3 ?_
  by_cases c4 : bt x (m : Int) > 191
  ·rw [bad (fun ho => by have := ho.2.2; omega)]; exact Ev.pos c4 (Ev.now _)
  exact Ev.neg c4 (fin ⟨fun h => absurd h e1, by omega, by omega⟩)
theorem beg_j2 (x : ByteArray) (b0 : Nat) (hx0 : 0 < x.size) (h0 : bt x 0 = (b0 : Int)) (most : Int) (r : Bool) (h : Ev (fun k => zaA.j3 k x (loB b0 : Int) (hiB b0 : Int) most) r) : Ev (fun k => zaA.j2 k x 128 191 most) r := by
 refine Ev.step (fun k => by rw [zaA.j2]) (Ev.pos (by omega) ?_)
 rw [h0]
 by_cases c1 : b0 = 224
 ·subst c1; exact Ev.pos rfl h
 refine Ev.neg (by omega) ?_
 by_cases c2 : b0 = 237
 ·subst c2; exact Ev.pos rfl h
 refine Ev.neg (by omega) ?_
 by_cases c3 : b0 = 240
 ·subst c3; exact Ev.pos rfl h
 refine Ev.neg (by omega) ?_
 by_cases c4 : b0 = 244
 ·subst c4; exact Ev.pos rfl h
 refine Ev.neg (by omega) (h.to rfl |> fun h => ?_)
 have e1 : loB b0 = 128 := by unfold loB; rw [if_neg c1, if_neg c3]
 have e2 : hiB b0 = 191 := by unfold hiB; rw [if_neg c2, if_neg c4]
 rw [e1, e2] at h
 exact h
theorem beg_f (x : ByteArray) (b0 : Nat) (hx0 : 0 < x.size) (h0 : bt x 0 = (b0 : Int)) (hb : b0 < 256) (r : Bool) (h : Ev (fun k => zaA.j3 k x (loB b0 : Int) (hiB b0 : Int) (if need b0 ≤ 1 then 0 else ((need b0 : Int) - 1))) r) : Ev (fun k => zaA.f k x) r := by
 unfold zaA.f
 refine Ev.neg ?_ (Ev.pos (by omega) ?_)
 ·intro e
  have h3 : x.data.toList = [] := by rw [← Lib.toList_data]; exact e
  have h4 : x.size = 0 := (Array.length_toList (xs := x.data)).symm.trans (congrArg List.length h3)
  omega
 rw [h0]
 have J1 : ∀ (hn : need b0 ≠ 2), Ev (fun k => zaA.j0 k x 128 191 0 (b0 : Int) false) r := by
  intro hn
  refine Ev.step (fun k => by rw [zaA.j0]) (Ev.neg (by simp) ?_)
  have J2 : ∀ (hn3 : need b0 ≠ 3), Ev (fun k => zaA.j1 k x 128 191 0 (b0 : Int) false) r := by
   intro hn3
   refine Ev.step (fun k => by rw [zaA.j1]) (Ev.neg (by simp) ?_)
   by_cases c1 : b0 < 240
   ·refine Ev.neg (by omega) (beg_j2 x b0 hx0 h0 0 r ?_)
    have e : need b0 ≤ 1 := by
     unfold need at hn hn3 ⊢
     repeat' split
     all_goals (first | omega | (exfalso; simp_all; done) | (exfalso; omega) | skip)
     all_goals (exfalso; revert hn hn3; repeat' split; all_goals omega)
    rw [if_pos e] at h
    exact h
   by_cases c2 : b0 ≤ 244
   ·refine Ev.pos (by omega) (Ev.pos (by omega) (beg_j2 x b0 hx0 h0 3 r ?_))
    have e : need b0 = 4 := by unfold need; rw [if_neg (by omega), if_neg (by omega), if_neg (by omega), if_neg (by omega), if_pos (by omega)]
    rw [e, if_neg (by omega)] at h
    exact h
   refine Ev.pos (by omega) (Ev.neg (by omega) (beg_j2 x b0 hx0 h0 0 r ?_))
   have e : need b0 = 0 := by unfold need; rw [if_neg (by omega), if_neg (by omega), if_neg (by omega), if_neg (by omega), if_neg (by omega)]
   rw [e, if_pos (by omega)] at h
   exact h
  by_cases c1 : 224 ≤ b0
  ·refine Ev.pos (by omega) ?_
   by_cases c2 : b0 ≤ 239
   ·rw [decide_eq_true (show (b0 : Int) ≤ 239 by omega)]
    refine Ev.step (fun k => by rw [zaA.j1]) (Ev.pos rfl (beg_j2 x b0 hx0 h0 2 r ?_))
    have e : need b0 = 3 := by unfold need; rw [if_neg (by omega), if_neg (by omega), if_neg (by omega), if_pos (by omega)]
    rw [e, if_neg (by omega)] at h
    exact h
   rw [decide_eq_false (show ¬ (b0 : Int) ≤ 239 by omega)]
   refine J2 ?_
   unfold need
   rw [if_neg (by omega), if_neg (by omega), if_neg (by omega), if_neg (by omega)]
   split <;> omega
  refine Ev.neg (by omega) (J2 ?_)
  unfold need
  repeat' split
  all_goals omega
 by_cases c1 : 194 ≤ b0
 ·refine Ev.pos (by omega) ?_
  by_cases c2 : b0 ≤ 223
  ·rw [decide_eq_true (show (b0 : Int) ≤ 223 by omega)]
   refine Ev.step (fun k => by rw [zaA.j0]) (Ev.pos rfl (beg_j2 x b0 hx0 h0 1 r ?_))
   have e : need b0 = 2 := by unfold need; rw [if_neg (by omega), if_neg (by omega), if_pos (by omega)]
   rw [e, if_neg (by omega)] at h
   exact h
  rw [decide_eq_false (show ¬ (b0 : Int) ≤ 223 by omega)]
  refine J1 ?_
  unfold need
  rw [if_neg (by omega), if_neg (by omega), if_neg (by omega)]
  repeat' split
  all_goals omega
 refine Ev.neg (by omega) (J1 ?_)
 unfold need
 repeat' split
 all_goals omega
theorem begins_ev (D : ByteArray) (i j : Nat) (h : i + j < D.size) (hbad : need (bN D i) = 0 ∨ run1 D i D.size ≠ need (bN D i)) (hj : j ≤ run1 D i D.size) :
  Ev (fun k => zaA.f k (D.extract i (i + j + 1))) (decide (j < run1 D i D.size)) := by
 have hb0 := bN_lt D i
 have hsz := size_ext D i (i + j + 1) (by omega) (by omega)
 have hb : ∀ t, t ≤ j → bt (D.extract i (i + j + 1)) (t : Int) = (bN D (i + t) : Int) := fun t ht => bt_ext D i (i + j + 1) t (by omega) (by omega)
 have h0 : bt (D.extract i (i + j + 1)) 0 = (bN D i : Int) := hb 0 (by omega)
 have hrb := run1_bd D i D.size (by omega)
 have hn4 := need_le (bN D i)
 refine beg_f _ (bN D i) (by omega) h0 hb0 _ ?_
 generalize hx : D.extract i (i + j + 1) = x at *
 refine Ev.step (fun k => by rw [zaA.j3]) ?_
 by_cases c0 : need (bN D i) ≤ 1
 ·rw [if_pos c0]
  have e : run1 D i D.size = 0 := by
   have e2 : run1 D i D.size = need (bN D i) := by unfold run1; rw [if_pos c0]
   rcases hbad with hb | hb
   ·omega
   exact absurd e2 hb
  refine Ev.pos (by omega) ((Ev.now _).to ?_)
  symm
  exact decide_eq_false (by omega)
 rw [if_neg c0]
 have hne : run1 D i D.size ≠ need (bN D i) := by
  rcases hbad with hb | hb
  ·omega
  exact hb
 by_cases c1 : need (bN D i) ≤ j + 1
 ·refine Ev.pos (by omega) ((Ev.now _).to ?_)
  symm
  exact decide_eq_false (by omega)
 refine Ev.neg (by omega) (beg_l x (by omega) _ _ _ (x.size - 1) 1 (by omega) (by omega) ?_)
 rw [decide_eq_true_iff]
 have hlo : 128 ≤ loB (bN D i) := by
  unfold loB
  repeat' split
  all_goals omega
 have hhi : hiB (bN D i) ≤ 191 := by
  unfold hiB
  repeat' split
  all_goals omega
 have k1 : ∀ t, t ≤ j → 1 ≤ t → (okT x (loB (bN D i) : Int) (hiB (bN D i) : Int) t ↔ (t = 1 → loB (bN D i) ≤ bN D (i + 1) ∧ bN D (i + 1) ≤ hiB (bN D i)) ∧ 128 ≤ bN D (i + t) ∧ bN D (i + t) ≤ 191) := by
  intro t ht h1
  unfold okT
  rw [hb t ht]
  by_cases e1 : t = 1
  ·subst e1
   have e2 : bt x 1 = (bN D (i + 1) : Int) := hb 1 ht
   rw [e2]
   omega
  omega
 unfold run1 at hj hne hrb ⊢
 rw [if_neg c0] at hj hne hrb ⊢
 have hj3 : j = 0 ∨ j = 1 ∨ j = 2 := by omega
 rcases hj3 with rfl | rfl | rfl
 ·refine iff_of_true ?_ (fun t h1 h2 => by omega)
  repeat' split
  all_goals omega
 ·have h1 := k1 1 (by omega) (by omega)
  have e : (∀ t, 1 ≤ t → t < x.size → okT x (loB (bN D i) : Int) (hiB (bN D i) : Int) t) ↔ okT x (loB (bN D i) : Int) (hiB (bN D i) : Int) 1 := ⟨fun h => h 1 (by omega) (by omega), fun h t h2 h3 => by
   obtain rfl : t = 1 := by omega
   exact h⟩
  rw [e, h1]
  by_cases d1 : i + 1 < D.size ∧ loB (bN D i) ≤ bN D (i + 1) ∧ bN D (i + 1) ≤ hiB (bN D i)
  ·rw [if_neg (fun h => h d1)]
   refine iff_of_true ?_ ⟨fun _ => d1.2, by omega, by omega⟩
   repeat' split
   all_goals omega
  rw [if_pos d1]
  exact iff_of_false (by omega) (fun h => d1 ⟨by omega, h.1 rfl⟩)
 have h1 := k1 1 (by omega) (by omega)
 have h2 := k1 2 (by omega) (by omega)
 have e : (∀ t, 1 ≤ t → t < x.size → okT x (loB (bN D i) : Int) (hiB (bN D i) : Int) t) ↔ okT x (loB (bN D i) : Int) (hiB (bN D i) : Int) 1 ∧ okT x (loB (bN D i) : Int) (hiB (bN D i) : Int) 2 := ⟨fun h => ⟨h 1 (by omega) (by omega), h 2 (by omega) (by omega)⟩, fun h t h2 h3 => by
  have : t = 1 ∨ t = 2 := by omega
  rcases this with rfl | rfl
  ·exact h.1
  exact h.2⟩
 rw [e, h1, h2]
 by_cases d1 : i + 1 < D.size ∧ loB (bN D i) ≤ bN D (i + 1) ∧ bN D (i + 1) ≤ hiB (bN D i)
 ·rw [if_neg (fun h => h d1), if_neg (by omega)]
  by_cases d2 : i + 2 < D.size ∧ 128 ≤ bN D (i + 2) ∧ bN D (i + 2) ≤ 191
  ·rw [if_neg (fun h => h d2)]
   refine iff_of_true ?_ ⟨⟨fun _ => d1.2, by omega, by omega⟩, fun h => by omega, d2.2⟩
   repeat' split
   all_goals omega
  rw [if_pos d2]
  exact iff_of_false (by omega) (fun h => d2 ⟨by omega, h.2.2⟩)
 rw [if_pos d1] at hj
 omega
theorem or8 (a b : Int) (ha : 0 ≤ a) (ha2 : a < 16777216) (hb : 0 ≤ b) (hb2 : b < 256) : Go.bits .or .i64 (wrap64 (a * 256)) (wrap64 b) = a * 256 + b := by
 rw [w64 (x := a * 256) (by omega) (by omega), w64 (x := b) (by omega) (by omega)]
 exact bits_join .i64 40 (by decide) (fun n h0 h1 => by simp [IntKind.wrap, IntKind.bits, IntKind.signed]; omega) 8 (a * 256) b (by omega) (by omega) (by omega) hb (by omega) (by omega)
theorem unit2_ev (D : ByteArray) (i : Nat) (h : i + 2 ≤ D.size) (little : Bool) : Ev (fun k => za8.f k (D.extract i (i + 2)) little) (u2 (!little) D i : Int) := by
 have hsz := size_ext D i (i + 2) (by omega) (by omega)
 have b0 := bt_ext D i (i + 2) 0 (by omega) (by omega)
 have b1 := bt_ext D i (i + 2) 1 (by omega) (by omega)
 have l0 := bN_lt D (i + 0)
 have l1 := bN_lt D (i + 1)
 have e1 : bt (D.extract i (i + 2)) 0 = (bN D (i + 0) : Int) := b0
 have e2 : bt (D.extract i (i + 2)) 1 = (bN D (i + 1) : Int) := b1
 unfold za8.f
 generalize D.extract i (i + 2) = x at *
 have s1 : wrap64 ((x.size : Int) - 1) = 1 := by rw [w64 (by omega) (by omega)]; omega
 have s2 : wrap64 ((1 : Int) - 0) = 1 := by rw [w64 (by omega) (by omega)]; rfl
 have s3 : wrap64 ((1 : Int) - 1) = 0 := by rw [w64 (by omega) (by omega)]; rfl
 have s4 : wrap64 ((0 : Int) + 1) = 1 := by rw [w64 (by omega) (by omega)]; rfl
 have s5 : wrap64 ((1 : Int) + 1) = 2 := by rw [w64 (by omega) (by omega)]; rfl
 cases little with
 | true =>
  refine Ev.step (fun k => by rw [za8.l0, s1, s2, s4, e2, or8 0 (bN D (i + 1) : Int) (by omega) (by omega) (by omega) (by omega)]) (Ev.pos (by omega) (Ev.pos rfl (Ev.pos (by omega) (Ev.pos (by omega) ?_))))
  refine Ev.step (fun k => by rw [za8.l0, s1, s3, s5, e1, or8 (0 * 256 + (bN D (i + 1) : Int)) (bN D (i + 0) : Int) (by omega) (by omega) (by omega) (by omega)]) (Ev.pos (by omega) (Ev.pos rfl (Ev.pos (by omega) (Ev.pos (by omega) ?_))))
  refine Ev.step (fun k => by rw [za8.l0]) (Ev.neg (by omega) ((Ev.now _).to ?_))
  show _ = ((bN D (i + 1) * 256 + bN D i : Nat) : Int)
  simp
 | false =>
  refine Ev.step (fun k => by rw [za8.l0, s4, e1, or8 0 (bN D (i + 0) : Int) (by omega) (by omega) (by omega) (by omega)]) (Ev.pos (by omega) (Ev.neg (by simp) (Ev.pos (by omega) ?_)))
  refine Ev.step (fun k => by rw [za8.l0, s5, e2, or8 (0 * 256 + (bN D (i + 0) : Int)) (bN D (i + 1) : Int) (by omega) (by omega) (by omega) (by omega)]) (Ev.pos (by omega) (Ev.neg (by simp) (Ev.pos (by omega) ?_)))
  refine Ev.step (fun k => by rw [za8.l0]) (Ev.neg (by omega) ((Ev.now _).to ?_))
  show _ = ((bN D i * 256 + bN D (i + 1) : Nat) : Int)
  simp
theorem unit4_ev (D : ByteArray) (i : Nat) (h : i + 4 ≤ D.size) (little : Bool) : Ev (fun k => za8.f k (D.extract i (i + 4)) little) (u4 (!little) D i : Int) := by
 have hsz := size_ext D i (i + 4) (by omega) (by omega)
 have b0 := bt_ext D i (i + 4) 0 (by omega) (by omega)
 have b1 := bt_ext D i (i + 4) 1 (by omega) (by omega)
 have b2 := bt_ext D i (i + 4) 2 (by omega) (by omega)
 have b3 := bt_ext D i (i + 4) 3 (by omega) (by omega)
 have l0 := bN_lt D (i + 0)
 have l1 := bN_lt D (i + 1)
 have l2 := bN_lt D (i + 2)
 have l3 := bN_lt D (i + 3)
 have e1 : bt (D.extract i (i + 4)) 0 = (bN D (i + 0) : Int) := b0
 have e2 : bt (D.extract i (i + 4)) 1 = (bN D (i + 1) : Int) := b1
 have e3 : bt (D.extract i (i + 4)) 2 = (bN D (i + 2) : Int) := b2
 have e4 : bt (D.extract i (i + 4)) 3 = (bN D (i + 3) : Int) := b3
 unfold za8.f
 generalize D.extract i (i + 4) = x at *
 have s1 : wrap64 ((x.size : Int) - 1) = 3 := by rw [w64 (by omega) (by omega)]; omega
 have s2 : wrap64 ((3 : Int) - 0) = 3 := by rw [w64 (by omega) (by omega)]; rfl
 have s3 : wrap64 ((3 : Int) - 1) = 2 := by rw [w64 (by omega) (by omega)]; rfl
 have s6 : wrap64 ((3 : Int) - 2) = 1 := by rw [w64 (by omega) (by omega)]; rfl
 have s7 : wrap64 ((3 : Int) - 3) = 0 := by rw [w64 (by omega) (by omega)]; rfl
 have s4 : wrap64 ((0 : Int) + 1) = 1 := by rw [w64 (by omega) (by omega)]; rfl
 have s5 : wrap64 ((1 : Int) + 1) = 2 := by rw [w64 (by omega) (by omega)]; rfl
 have s8 : wrap64 ((2 : Int) + 1) = 3 := by rw [w64 (by omega) (by omega)]; rfl
 have s9 : wrap64 ((3 : Int) + 1) = 4 := by rw [w64 (by omega) (by omega)]; rfl
 cases little with
 | true =>
  refine Ev.step (fun k => by rw [za8.l0, s1, s2, s4, e4, or8 0 (bN D (i + 3) : Int) (by omega) (by omega) (by omega) (by omega)]) (Ev.pos (by omega) (Ev.pos rfl (Ev.pos (by omega) (Ev.pos (by omega) ?_))))
  refine Ev.step (fun k => by rw [za8.l0, s1, s3, s5, e3, or8 (0 * 256 + (bN D (i + 3) : Int)) (bN D (i + 2) : Int) (by omega) (by omega) (by omega) (by omega)]) (Ev.pos (by omega) (Ev.pos rfl (Ev.pos (by omega) (Ev.pos (by omega) ?_))))
  refine Ev.step (fun k => by rw [za8.l0, s1, s6, s8, e2, or8 ((0 * 256 + (bN D (i + 3) : Int)) * 256 + (bN D (i + 2) : Int)) (bN D (i + 1) : Int) (by omega) (by omega) (by omega) (by omega)]) (Ev.pos (by omega) (Ev.pos rfl (Ev.pos (by omega) (Ev.pos (by omega) ?_))))
  refine Ev.step (fun k => by rw [za8.l0, s1, s7, s9, e1, or8 (((0 * 256 + (bN D (i + 3) : Int)) * 256 + (bN D (i + 2) : Int)) * 256 + (bN D (i + 1) : Int)) (bN D (i + 0) : Int) (by omega) (by omega) (by omega) (by omega)]) (Ev.pos (by omega) (Ev.pos rfl (Ev.pos (by omega) (Ev.pos (by omega) ?_))))
  refine Ev.step (fun k => by rw [za8.l0]) (Ev.neg (by omega) ((Ev.now _).to ?_))
  show _ = ((bN D (i + 3) * 16777216 + bN D (i + 2) * 65536 + bN D (i + 1) * 256 + bN D i : Nat) : Int)
  simp only [Nat.add_zero] at *
  omega
 | false =>
  refine Ev.step (fun k => by rw [za8.l0, s4, e1, or8 0 (bN D (i + 0) : Int) (by omega) (by omega) (by omega) (by omega)]) (Ev.pos (by omega) (Ev.neg (by simp) (Ev.pos (by omega) ?_)))
  refine Ev.step (fun k => by rw [za8.l0, s5, e2, or8 (0 * 256 + (bN D (i + 0) : Int)) (bN D (i + 1) : Int) (by omega) (by omega) (by omega) (by omega)]) (Ev.pos (by omega) (Ev.neg (by simp) (Ev.pos (by omega) ?_)))
  refine Ev.step (fun k => by rw [za8.l0, s8, e3, or8 ((0 * 256 + (bN D (i + 0) : Int)) * 256 + (bN D (i + 1) : Int)) (bN D (i + 2) : Int) (by omega) (by omega) (by omega) (by omega)]) (Ev.pos (by omega) (Ev.neg (by simp) (Ev.pos (by omega) ?_)))
  refine Ev.step (fun k => by rw [za8.l0, s9, e4, or8 (((0 * 256 + (bN D (i + 0) : Int)) * 256 + (bN D (i + 1) : Int)) * 256 + (bN D (i + 2) : Int)) (bN D (i + 3) : Int) (by omega) (by omega) (by omega) (by omega)]) (Ev.pos (by omega) (Ev.neg (by simp) (Ev.pos (by omega) ?_)))
  refine Ev.step (fun k => by rw [za8.l0]) (Ev.neg (by omega) ((Ev.now _).to ?_))
  show _ = ((bN D i * 16777216 + bN D (i + 1) * 65536 + bN D (i + 2) * 256 + bN D (i + 3) : Nat) : Int)
  simp only [Nat.add_zero] at *
  omega
end Go.Proofs.YtfafjbolmeimmaaDoor.P
