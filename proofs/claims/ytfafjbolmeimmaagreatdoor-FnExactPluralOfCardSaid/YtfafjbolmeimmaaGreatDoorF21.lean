/- Parts of a proof: words of the print tool that this claim uses, or plain lists. -/
import Derived.Test.YtfafjbolmeimmaaGreatDoorAb
import Derived.Test.YtfafjbolmeimmaaGreatDoorF10
import Derived.Test.YtfafjbolmeimmaaGreatDoorF19
import Derived.Test.YtfafjbolmeimmaaGreatDoorJ24
import Derived.Test.YtfafjbolmeimmaaGreatDoorXZl
import Derived.Deep.CutBlock
import Derived.Test.YtfafjbolmeimmaaGreatDoorXLgA
import Derived.Test.YtfafjbolmeimmaaGreatDoorXLgB
import Derived.Test.YtfafjbolmeimmaaGreatDoorF20
import Derived.Test.YtfafjbolmeimmaaGreatDoorXLgD
namespace Go.Proofs.YtfafjbolmeimmaaGreatDoor.P
open Go.RowKit Go.Proofs.YtfafjbolmeimmaaGreatDoorW.PrintWords
set_option linter.unusedVariables false
theorem toI_l (l : List Int) (hl : l.length ≤ 1099511627776) : ∀ (d i : Nat), l.length - i = d → i ≤ l.length →
  Ev (fun k => zbf.l0 k l (l.take i ++ List.replicate (l.length - i) (0 : Int)) (i : Int)) l := by
 intro d
 induction d with
 | zero =>
  intro i hd hi
  obtain rfl : i = l.length := by omega
  refine Ev.step (fun k => by rw [zbf.l0]) (Ev.neg yq10 ((Ev.now _).to ?_))
  simp
 | succ d ih =>
  intro i hd hi
  have hlt : i < l.length := by omega
  have e2 := w_succ i yq10
  refine Ev.step (fun k => by rw [zbf.l0]) (Ev.pos yq10 (Ev.pos yq10 (Ev.pos (by simp; omega) ?_)))
  rw [rd_get hlt, e2, Int.toNat_natCast, copy_step l _ i hlt]
  exact ih (i + 1) yq10 yq10
theorem toI_f (l : List Int) (hl : l.length ≤ 1099511627776) : Ev (fun k => zbf.f k l) l := by
 have h := toI_l l hl _ 0 rfl yq10
 refine Ev.pos yq10 (Ev.pos yq10 ?_)
 rw [Int.toNat_natCast]
 simpa using h
def plOf (x : S79) : S58 := ⟨x.f0, x.f1⟩
theorem copy_map {α β : Type} (f : α → β) (l : List α) (d : β) (i : Nat) (h : i < l.length) : (((l.map f).take i ++ List.replicate (l.length - i) d).set i (f l[i])) = (l.map f).take (i + 1) ++ List.replicate (l.length - (i + 1)) d := by
 have := copy_step (l.map f) d i (by simpa using h)
 simpa using this
theorem toP_l (l : List S79) (hl : l.length ≤ 1099511627776) : ∀ (d i : Nat), l.length - i = d → i ≤ l.length →
  Ev (fun k => zaN.l0 k l ((l.map plOf).take i ++ List.replicate (l.length - i) z58) (i : Int)) (l.map plOf) := by
 intro d
 induction d with
 | zero =>
  intro i hd hi
  obtain rfl : i = l.length := by omega
  refine Ev.step (fun k => by rw [zaN.l0]) (Ev.neg yq10 ((Ev.now _).to ?_))
  rw [Nat.sub_self, List.replicate_zero, List.append_nil]
  exact List.take_of_length_le yq27
 | succ d ih =>
  intro i hd hi
  have hlt : i < l.length := by omega
  have e2 := w_succ i yq10
  have e3 : rd_T79 l (i : Int) = l[i] := by simp [rd_T79, hlt]
  refine Ev.step (fun k => by rw [zaN.l0]) ?_
  rw [e3, e2, Int.toNat_natCast]
  refine Ev.pos yq10 (Ev.pos yq10 (Ev.bind (a := (l[i].f0, l[i].f1)) (Ev.done rfl) (Ev.pos (by simp; omega) ?_)))
  have hc := copy_map plOf l z58 i hlt
  show Ev (fun k => zaN.l0 k l (List.set _ i (plOf l[i])) _) _
  rw [hc]
  exact ih (i + 1) yq10 yq10
theorem toP_f (l : List S79) (hl : l.length ≤ 1099511627776) : Ev (fun k => zaN.f k l) (l.map plOf) := by
 have h := toP_l l hl _ 0 rfl yq10
 refine Ev.pos yq10 (Ev.pos yq10 ?_)
 rw [Int.toNat_natCast]
 simpa using h
theorem toLoc_f (a0 a1 a2 a3 a4 : ByteArray) (l5 : List Int) (a6 : Int) (l7 : List S79) (a8 a9 a10 a11 : ByteArray) (l12 l13 : List ByteArray) (a14 : ByteArray) (h5 : l5.length ≤ 1099511627776) (h7 : l7.length ≤ 1099511627776) (h12 : l12.length ≤ 1099511627776) (h13 : l13.length ≤ 1099511627776) :
  Ev (fun k => laws_toLocale.f k a0 a1 a2 a3 a4 l5 a6 l7 a8 a9 a10 a11 l12 l13 a14) (a0, a1, a2, a3, a4, l5, a6, l7.map plOf, a8, a9, a10, a11, l12, l13, a14) :=
 Ev.bind (toI_f l5 h5) (Ev.bind (toP_f l7 h7) (Ev.bind (toS_f l12 h12) (Ev.bind (toS_f l13 h13) (Ev.now _))))
def bigT (s : ByteArray) : Prop := s.size ≤ 9223372036854775807
theorem szP1 (s t : ByteArray) (hs : bigT s) (ht : bigT t) (a : Int) (h0 : 0 ≤ a) (h1 : a ≤ 1048576) : ∃ r, laws_szPluralRule.f s t a = some r ∧ r ≤ a ∧ (0 ≤ r → s.size ≤ 1048576 ∧ t.size ≤ 1048576) := by
 unfold bigT at hs ht
 have e1 : wrap64 (a - (s.size : Int)) = a - (s.size : Int) := w64 yq10 yq10
 unfold laws_szPluralRule.f
 rw [e1]
 by_cases c1 : a - (s.size : Int) < 0
 ·rw [if_pos c1]
  exact ⟨-1, rfl, yq10, fun h => by omega⟩
 rw [if_neg c1]
 have e2 : wrap64 (a - (s.size : Int) - (t.size : Int)) = a - (s.size : Int) - (t.size : Int) := w64 yq10 yq10
 rw [e2]
 by_cases c2 : a - (s.size : Int) - (t.size : Int) < 0
 ·rw [if_pos c2]
  exact ⟨-1, rfl, yq10, fun h => by omega⟩
 rw [if_neg c2]
 exact ⟨_, rfl, yq10, fun h => by omega⟩
theorem szP_l (l : List S79) (hl : l.length ≤ 9223372036854775807) (hs : ∀ x ∈ l, bigT x.f0 ∧ bigT x.f1) : ∀ (d i : Nat), l.length - i = d → i ≤ l.length → ∀ a : Int, 0 ≤ a → a ≤ 1048576 →
  ∃ r, Ev (fun k => zaS.l0 k l a (i : Int)) r ∧ r ≤ a ∧ (0 ≤ r → ∀ x ∈ l.drop i, x.f0.size ≤ 1048576 ∧ x.f1.size ≤ 1048576) := by
 intro d
 induction d with
 | zero =>
  intro i hd hi a h0 h1
  refine ⟨a, Ev.step (fun k => by rw [zaS.l0]) (Ev.neg yq10 (Ev.now _)), Int.le_refl _, fun _ s hm => ?_⟩
  rw [List.drop_eq_nil_of_le yq10] at hm
  cases hm
 | succ d ih =>
  intro i hd hi a h0 h1
  have hlt : i < l.length := by omega
  have hz := hs l[i] (List.getElem_mem hlt)
  have e3 : rd_T79 l (i : Int) = l[i] := by simp [rd_T79, hlt]
  have e2 : wrap64 ((i : Int) + 1) = ((i + 1 : Nat) : Int) := by rw [w64 yq10 yq10]; omega
  obtain ⟨r1, hr1, hle, hsm⟩ := szP1 l[i].f0 l[i].f1 hz.1 hz.2 a h0 h1
  by_cases hn : r1 < 0
  ·refine ⟨-1, Ev.step (fun k => by rw [zaS.l0]) (Ev.pos yq10 (Ev.pos yq10 ?_)), yq10, fun h => by omega⟩
   rw [e3]
   exact Ev.bind (Ev.done hr1) (Ev.pos hn (Ev.now _))
  obtain ⟨r, hr, hra, hrs⟩ := ih (i + 1) yq10 yq10 r1 yq10 yq10
  refine ⟨r, Ev.step (fun k => by rw [zaS.l0]) (Ev.pos yq10 (Ev.pos yq10 ?_)), yq10, fun h s hm => ?_⟩
  ·rw [e3, e2]
   exact Ev.bind (Ev.done hr1) (Ev.neg hn hr)
  rw [List.drop_eq_getElem_cons hlt] at hm
  rcases List.mem_cons.1 hm with rfl | h2
  ·exact hsm yq10
  exact hrs h s h2
theorem szP_f (l : List S79) (hl : l.length ≤ 9223372036854775807) (hs : ∀ x ∈ l, bigT x.f0 ∧ bigT x.f1) (a : Int) (h0 : 0 ≤ a) (h1 : a ≤ 1048576) :
  ∃ r, Ev (fun k => zaS.f k l a) r ∧ r ≤ a ∧ (0 ≤ r → l.length ≤ 1048576 ∧ ∀ x ∈ l, x.f0.size ≤ 1048576 ∧ x.f1.size ≤ 1048576) := by
 have e3 : wrap64 (a - (l.length : Int)) = a - (l.length : Int) := w64 yq10 yq10
 by_cases hn : a - (l.length : Int) < 0
 ·refine ⟨-1, ?_, yq10, fun h => by omega⟩
  unfold zaS.f
  rw [e3]
  exact Ev.pos hn (Ev.now _)
 obtain ⟨r, hr, hra, hrs⟩ := szP_l l hl hs _ 0 rfl yq10 (a - (l.length : Int)) yq10 yq10
 refine ⟨r, ?_, yq10, fun h => ⟨yq10, fun s hm => hrs h s (by simpa using hm)⟩⟩
 unfold zaS.f
 rw [e3]
 exact Ev.neg hn hr
theorem szI_f (l : List Int) (hl : l.length ≤ 9223372036854775807) (a : Int) (h0 : 0 ≤ a) (h1 : a ≤ 1048576) : ∃ r, laws_szInt64S.f l a = some r ∧ r ≤ a ∧ (0 ≤ r → l.length ≤ 1048576) := by
 have e3 : wrap64 (a - (l.length : Int)) = a - (l.length : Int) := w64 yq10 yq10
 unfold laws_szInt64S.f
 rw [e3]
 by_cases hn : a - (l.length : Int) < 0
 ·rw [if_pos hn]; exact ⟨-1, rfl, yq10, fun h => by omega⟩
 rw [if_neg hn]; exact ⟨_, rfl, yq10, fun h => by omega⟩
end Go.Proofs.YtfafjbolmeimmaaGreatDoor.P
namespace Go.Proofs.YtfafjbolmeimmaaGreatDoor.P
open Go.RowKit Go.Proofs.YtfafjbolmeimmaaGreatDoorW.PrintWords
set_option linter.unusedVariables false
theorem sz_neg {c : Prop} [Decidable c] {A B : Nat → Option Int} {p : Int → Prop} (h : ¬ c) (hB : ∃ r, Ev B r ∧ p r) : ∃ r, Ev (fun k => if c then A k else B k) r ∧ p r := by
 obtain ⟨r, h1, h2⟩ := hB
 exact ⟨r, Ev.neg h h1, h2⟩
theorem sz_bind {g : Nat → Option Int} {f : Nat → Int → Option Int} {a : Int} {p : Int → Prop} (h : Ev g a) (hB : ∃ r, Ev (fun k => f k a) r ∧ p r) : ∃ r, Ev (fun k => (g k).bind (f k)) r ∧ p r := by
 obtain ⟨r, h1, h2⟩ := hB
 exact ⟨r, Ev.bind h h1, h2⟩
theorem small_of {s : ByteArray} (h : s.size ≤ 1048576) : smallT s = true := decide_eq_true yq10
theorem szLoc_g (a0 a1 a2 a3 a4 : ByteArray) (l5 : List Int) (a6 : Int) (l7 : List S79) (a8 a9 a10 a11 : ByteArray) (l12 l13 : List ByteArray) (a14 : ByteArray) (b0 : bigT a0) (b1 : bigT a1) (b2 : bigT a2) (b3 : bigT a3) (b4 : bigT a4) (b8 : bigT a8) (b9 : bigT a9) (b10 : bigT a10) (b11 : bigT a11) (b14 : bigT a14) (b5 : l5.length ≤ 9223372036854775807) (b7 : l7.length ≤ 9223372036854775807) (c7 : ∀ x ∈ l7, bigT x.f0 ∧ bigT x.f1) (b12 : l12.length ≤ 9223372036854775807) (c12 : ∀ s ∈ l12, s.size ≤ 9223372036854775807) (b13 : l13.length ≤ 9223372036854775807) (c13 : ∀ s ∈ l13, s.size ≤ 9223372036854775807) (y : Int) (y0 : 0 ≤ y) (y1 : y ≤ 1048576) :
  ∃ r, Ev (fun k => laws_szLocale.f k a0 a1 a2 a3 a4 l5 a6 l7 a8 a9 a10 a11 l12 l13 a14 y) r ∧ (r ≤ y ∧ (0 ≤ r → smallLoc a0 a1 a2 a3 a4 l5 (l7.map plOf) a8 a9 a10 a11 l12 l13 a14 = true)) := by
 unfold bigT at b0 b1 b2 b3 b4 b8 b9 b10 b11 b14
 unfold laws_szLocale.f
 have e1 : wrap64 (y - (a0.size : Int)) = y - (a0.size : Int) := w64 yq10 yq10
 obtain ⟨x1, h1⟩ : ∃ x : Int, x = y - (a0.size : Int) := ⟨_, rfl⟩
 rw [e1, ← h1]
 by_cases d1 : x1 < 0
 ·exact ⟨-1, Ev.pos d1 (Ev.now _), yq10, fun h => by omega⟩
 refine sz_neg d1 ?_
 have e2 : wrap64 (x1 - (a1.size : Int)) = x1 - (a1.size : Int) := w64 yq10 yq10
 obtain ⟨x2, h2⟩ : ∃ x : Int, x = x1 - (a1.size : Int) := ⟨_, rfl⟩
 rw [e2, ← h2]
 by_cases d2 : x2 < 0
 ·exact ⟨-1, Ev.pos d2 (Ev.now _), yq10, fun h => by omega⟩
 refine sz_neg d2 ?_
 have e3 : wrap64 (x2 - (a2.size : Int)) = x2 - (a2.size : Int) := w64 yq10 yq10
 obtain ⟨x3, h3⟩ : ∃ x : Int, x = x2 - (a2.size : Int) := ⟨_, rfl⟩
 rw [e3, ← h3]
 by_cases d3 : x3 < 0
 ·exact ⟨-1, Ev.pos d3 (Ev.now _), yq10, fun h => by omega⟩
 refine sz_neg d3 ?_
 have e4 : wrap64 (x3 - (a3.size : Int)) = x3 - (a3.size : Int) := w64 yq10 yq10
 obtain ⟨x4, h4⟩ : ∃ x : Int, x = x3 - (a3.size : Int) := ⟨_, rfl⟩
 rw [e4, ← h4]
 by_cases d4 : x4 < 0
 ·exact ⟨-1, Ev.pos d4 (Ev.now _), yq10, fun h => by omega⟩
 refine sz_neg d4 ?_
 have e5 : wrap64 (x4 - (a4.size : Int)) = x4 - (a4.size : Int) := w64 yq10 yq10
 obtain ⟨x5, h5⟩ : ∃ x : Int, x = x4 - (a4.size : Int) := ⟨_, rfl⟩
 rw [e5, ← h5]
 by_cases d5 : x5 < 0
 ·exact ⟨-1, Ev.pos d5 (Ev.now _), yq10, fun h => by omega⟩
 refine sz_neg d5 ?_
 obtain ⟨x6, r6, q6, s6⟩ := szI_f l5 b5 x5 yq10 yq10
 refine sz_bind (Ev.done r6) ?_
 by_cases d6 : x6 < 0
 ·exact ⟨-1, Ev.pos d6 (Ev.now _), yq10, fun h => by omega⟩
 refine sz_neg d6 ?_
 obtain ⟨x7, r7, q7, s7⟩ := szP_f l7 b7 c7 x6 yq10 yq10
 refine sz_bind r7 ?_
 by_cases d7 : x7 < 0
 ·exact ⟨-1, Ev.pos d7 (Ev.now _), yq10, fun h => by omega⟩
 refine sz_neg d7 ?_
 have e8 : wrap64 (x7 - (a8.size : Int)) = x7 - (a8.size : Int) := w64 yq10 yq10
 obtain ⟨x8, h8⟩ : ∃ x : Int, x = x7 - (a8.size : Int) := ⟨_, rfl⟩
 rw [e8, ← h8]
 by_cases d8 : x8 < 0
 ·exact ⟨-1, Ev.pos d8 (Ev.now _), yq10, fun h => by omega⟩
 refine sz_neg d8 ?_
 have e9 : wrap64 (x8 - (a9.size : Int)) = x8 - (a9.size : Int) := w64 yq10 yq10
 obtain ⟨x9, h9⟩ : ∃ x : Int, x = x8 - (a9.size : Int) := ⟨_, rfl⟩
 rw [e9, ← h9]
 by_cases d9 : x9 < 0
 ·exact ⟨-1, Ev.pos d9 (Ev.now _), yq10, fun h => by omega⟩
 refine sz_neg d9 ?_
 have e10 : wrap64 (x9 - (a10.size : Int)) = x9 - (a10.size : Int) := w64 yq10 yq10
 obtain ⟨x10, h10⟩ : ∃ x : Int, x = x9 - (a10.size : Int) := ⟨_, rfl⟩
 rw [e10, ← h10]
 by_cases d10 : x10 < 0
 ·exact ⟨-1, Ev.pos d10 (Ev.now _), yq10, fun h => by omega⟩
 refine sz_neg d10 ?_
 have e11 : wrap64 (x10 - (a11.size : Int)) = x10 - (a11.size : Int) := w64 yq10 yq10
 obtain ⟨x11, h11⟩ : ∃ x : Int, x = x10 - (a11.size : Int) := ⟨_, rfl⟩
 rw [e11, ← h11]
 by_cases d11 : x11 < 0
 ·exact ⟨-1, Ev.pos d11 (Ev.now _), yq10, fun h => by omega⟩
 refine sz_neg d11 ?_
 obtain ⟨x12, r12, q12, s12⟩ := szS_f l12 b12 c12 x11 yq10 yq10
 refine sz_bind r12 ?_
 by_cases d12 : x12 < 0
 ·exact ⟨-1, Ev.pos d12 (Ev.now _), yq10, fun h => by omega⟩
 refine sz_neg d12 ?_
 obtain ⟨x13, r13, q13, s13⟩ := szS_f l13 b13 c13 x12 yq10 yq10
 refine sz_bind r13 ?_
 by_cases d13 : x13 < 0
 ·exact ⟨-1, Ev.pos d13 (Ev.now _), yq10, fun h => by omega⟩
 refine sz_neg d13 ?_
 have e14 : wrap64 (x13 - (a14.size : Int)) = x13 - (a14.size : Int) := w64 yq10 yq10
 obtain ⟨x14, h14⟩ : ∃ x : Int, x = x13 - (a14.size : Int) := ⟨_, rfl⟩
 rw [e14, ← h14]
 by_cases d14 : x14 < 0
 ·exact ⟨-1, Ev.pos d14 (Ev.now _), yq10, fun h => by omega⟩
 refine sz_neg d14 ?_
 refine ⟨x14, Ev.now _, yq10, fun _ => ?_⟩
 obtain ⟨u7, v7⟩ := s7 yq10
 obtain ⟨u12, v12⟩ := s12 yq10
 obtain ⟨u13, v13⟩ := s13 yq10
 have u5 := s6 yq10
 unfold smallLoc
 simp only [List.all_cons, List.all_nil, Bool.and_true, Bool.and_eq_true, decide_eq_true_eq, List.length_map]
 refine ⟨⟨⟨⟨⟨⟨⟨⟨small_of yq10, small_of yq10, small_of yq10, small_of yq10, small_of yq10, small_of yq10, small_of yq10, small_of yq10, small_of yq10, small_of yq10⟩, yq10⟩, yq10⟩, ?_⟩, yq10⟩, ?_⟩, yq10⟩, ?_⟩
 ·rw [List.all_eq_true]
  intro x hx
  obtain ⟨y, hy, rfl⟩ := List.mem_map.1 hx
  have := v7 y hy
  rw [Bool.and_eq_true]
  exact ⟨small_of this.1, small_of this.2⟩
 ·exact List.all_eq_true.2 (fun s hs => small_of (v12 s hs))
 exact List.all_eq_true.2 (fun s hs => small_of (v13 s hs))
theorem szLoc_f (a0 a1 a2 a3 a4 : ByteArray) (l5 : List Int) (a6 : Int) (l7 : List S79) (a8 a9 a10 a11 : ByteArray) (l12 l13 : List ByteArray) (a14 : ByteArray) (b0 : bigT a0) (b1 : bigT a1) (b2 : bigT a2) (b3 : bigT a3) (b4 : bigT a4) (b8 : bigT a8) (b9 : bigT a9) (b10 : bigT a10) (b11 : bigT a11) (b14 : bigT a14) (b5 : l5.length ≤ 9223372036854775807) (b7 : l7.length ≤ 9223372036854775807) (c7 : ∀ x ∈ l7, bigT x.f0 ∧ bigT x.f1) (b12 : l12.length ≤ 9223372036854775807) (c12 : ∀ s ∈ l12, s.size ≤ 9223372036854775807) (b13 : l13.length ≤ 9223372036854775807) (c13 : ∀ s ∈ l13, s.size ≤ 9223372036854775807) :
  ∃ r, Ev (fun k => laws_szLocale.f k a0 a1 a2 a3 a4 l5 a6 l7 a8 a9 a10 a11 l12 l13 a14 1048576) r ∧ (0 ≤ r → smallLoc a0 a1 a2 a3 a4 l5 (l7.map plOf) a8 a9 a10 a11 l12 l13 a14 = true) := by
 obtain ⟨r, h, _, h2⟩ := szLoc_g a0 a1 a2 a3 a4 l5 a6 l7 a8 a9 a10 a11 l12 l13 a14 b0 b1 b2 b3 b4 b8 b9 b10 b11 b14 b5 b7 c7 b12 c12 b13 c13 1048576 yq10 yq10
 exact ⟨r, h, h2⟩
end Go.Proofs.YtfafjbolmeimmaaGreatDoor.P
namespace Go.Proofs.YtfafjbolmeimmaaGreatDoor.P
open Go.RowKit Go.Proofs.YtfafjbolmeimmaaGreatDoorW.PrintWords Go.Proofs.YtfafjbolmeimmaaGreatDoorW.PrintLast Go.Proofs.YtfafjbolmeimmaaGreatDoorW.PrintMore
set_option linter.unusedVariables false
set_option linter.unusedSimpArgs false
variable {a0_0 a0_1 a0_2 a0_3 a0_4 : ByteArray} {A0_5 : Option Addr} {c0_5 : Nat} {l0_5 : List Int} {a0_6 : Int} {A0_7 : Option Addr} {c0_7 : Nat} {l0_7 : List S58} {a0_8 a0_9 a0_10 a0_11 : ByteArray} {A0_12 : Option Addr} {c0_12 : Nat} {l0_12 : List ByteArray} {A0_13 : Option Addr} {c0_13 : Nat} {l0_13 : List ByteArray} {a0_14 : ByteArray} {w wc : World} {gb : Nat}
set_option maxHeartbeats 8000000 in
set_option maxRecDepth 1000000 in
theorem lf_0 {x1 x2 x3 x4 x5 x6 x7 x8 x9 x10 x11 x12 x13 x14 x15 x16 x17 x18 x19 x20 x21 x22 x23 x24 x25 x26 x27 x28 x29 x30 x31 x32 x33 x34 x35 x36 x37 x38 x39 x40 x41 x42 x43 x44 x45 x46 x47 x48 x49 x50 x51 x52 x53 x54 x55 x56 x57 x58 x59 x60 x61 x62 x63 x64 x65 x66 x67 x68 x69 x70 x71 x72 x73 x74 x75 x76 x77 x78 x79 x80 x81 x82 x83 x84 x85 x86 x87 x88 x89 x90 x91 x92 x93 x94 x95 x96 x97 x98 x99 x100 x101 x102 x103 x104 x105 x106 x107 x108 x109 x110 x111 x112 x113 x114 x115 x116 x117 x118 x119 x120 x121 x122 x123 x124 x125 x126 x127 x128 x129 x130 x131 x132 x133 x134 x135 x136 x137 x138 x139 x140 x141 x142 x143 x144 x145 x146 x147 x148 x149 x150 x151 x152 x153 x154 x155 x156 x157 x158 x159 x160 x161 x162 x163 x164 x165 x166 x167 x168 x169 x170 x171 x172 x173 x174 x175 x176 x177 x178 x179 x180 x181 x182 x183 x184 x185 x186 x187 x188 x189 x190 x191 x192 x193 x194 x195 x196 x197 x198 x199 x200 x201 x202 x203 x204 x205 x206 x207 x208 x209 x210 x211 x212 x213 x214 x215 x216 x217 x218 x219 x220 x221 x222 x223 x224 x225 x226 x227 x228 x229 x230 x231 x232 x233 x234 x235 x236 x237 x238 x239 x240 x241 x242 x243 x244 x245 x246 x247 x248 x249 x250 x251 x252 x253 x254 x255 x256 x257 x258 x259 x260 x261 x262 x263 x264 x265 x266 x267 x268 x269 x270 x271 x272 x273 x274 x275 x276 x277 x278 x279 x280 x281 x282 x283 x284 x285 x286 x287 x288 x289 : Value} (Q : Exit → Act → World → Prop)
  (hQ : ∀ ⦃gb : Nat⦄ ⦃y3 y4 y5 y6 y7 y8 y9 y10 y11 y12 y13 y14 y15 y16 y17 y18 y19 y20 y21 y22 y23 y24 y25 y26 y27 y28 y29 y30 y31 y32 y33 y34 y35 y36 y37 y38 y39 y40 y41 y42 y43 y44 y45 y46 y47 y48 y49 y50 y51 y52 y53 y54 y55 y56 y57 y58 y59 y60 y61 y62 y63 y64 y65 y66 y67 y68 y69 y70 y71 y72 y73 y74 y75 y76 y77 y78 y79 y80 y81 y82 y83 y84 y85 y86 y87 y88 y89 y90 y91 y92 y93 y94 y95 y96 y97 y98 y99 y100 y101 y102 y103 y104 y105 y106 y107 y108 y109 y110 y111 y112 y113 y114 y115 y116 y117 y118 y119 y120 y121 y122 y123 y124 y125 y126 y127 y128 y129 y130 y131 y132 y133 y134 y135 y136 y137 y138 y139 y140 y141 y142 y143 y144 y145 y146 y147 y148 y149 y150 y151 y152 y153 y154 y155 y156 y157 y158 y159 y160 y161 y162 y163 y164 y165 y166 y167 y168 y169 y170 y171 y172 y173 y174 y175 y176 y177 y178 y179 y180 y181 y182 y183 y184 y185 y186 y187 y188 y189 y190 y191 y192 y193 y194 y195 y196 y197 y198 y199 y200 y201 y202 y203 y204 y205 y206 y207 y208 y209 y210 y211 y212 y213 y214 y215 y216 y217 y218 y219 y220 y221 y222 y223 y224 y225 y226 y227 y228 y229 y230 y231 y232 y233 y234 y235 y236 y237 y238 y239 y240 y241 y242 y243 y244 y245 y246 y247 y248 y249 y250 y251 y252 y253 y254 y255 y256 y257 y258 y259 y260 y261 y262 y263 y264 y265 y266 y267 y268 y269 y270 y271 y272 y273 y274 y275 y276 y277 y278 y279 y280 y281 y282 y283 y284 y285 y286 y287 y288 y289 : Value⦄ ⦃w' : World⦄, zaa (LS w w' gb (locV a0_0 a0_1 a0_2 a0_3 a0_4 (.slice A0_5 l0_5.length c0_5) a0_6 (.slice A0_7 l0_7.length c0_7) a0_8 a0_9 a0_10 a0_11 (.slice A0_12 l0_12.length c0_12) (.slice A0_13 l0_13.length c0_13) a0_14)) → Q .normal ⟨((.agg #[.string a0_0, .string a0_1, .string a0_2, .string a0_3, .string a0_4, .slice A0_5 l0_5.length c0_5, .int .i64 a0_6, .slice A0_7 l0_7.length c0_7, .string a0_8, .string a0_9, .string a0_10, .string a0_11, .slice A0_12 l0_12.length c0_12, .slice A0_13 l0_13.length c0_13, .string a0_14]) :: (.pointer (some ⟨gb, 0, none⟩)) :: (.int .i64 0) :: y3 :: y4 :: y5 :: y6 :: y7 :: y8 :: y9 :: y10 :: y11 :: y12 :: y13 :: y14 :: y15 :: y16 :: y17 :: y18 :: y19 :: y20 :: y21 :: y22 :: y23 :: y24 :: y25 :: y26 :: y27 :: y28 :: y29 :: y30 :: y31 :: y32 :: y33 :: y34 :: y35 :: y36 :: y37 :: y38 :: y39 :: y40 :: y41 :: y42 :: y43 :: y44 :: y45 :: y46 :: y47 :: y48 :: y49 :: y50 :: y51 :: y52 :: y53 :: y54 :: y55 :: y56 :: y57 :: y58 :: y59 :: y60 :: y61 :: y62 :: y63 :: y64 :: y65 :: y66 :: y67 :: y68 :: y69 :: y70 :: y71 :: y72 :: y73 :: y74 :: y75 :: y76 :: y77 :: y78 :: y79 :: y80 :: y81 :: y82 :: y83 :: y84 :: y85 :: y86 :: y87 :: y88 :: y89 :: y90 :: y91 :: y92 :: y93 :: y94 :: y95 :: y96 :: y97 :: y98 :: y99 :: y100 :: y101 :: y102 :: y103 :: y104 :: y105 :: y106 :: y107 :: y108 :: y109 :: y110 :: y111 :: y112 :: y113 :: y114 :: y115 :: y116 :: y117 :: y118 :: y119 :: y120 :: y121 :: y122 :: y123 :: y124 :: y125 :: y126 :: y127 :: y128 :: y129 :: y130 :: y131 :: y132 :: y133 :: y134 :: y135 :: y136 :: y137 :: y138 :: y139 :: y140 :: y141 :: y142 :: y143 :: y144 :: y145 :: y146 :: y147 :: y148 :: y149 :: y150 :: y151 :: y152 :: y153 :: y154 :: y155 :: y156 :: y157 :: y158 :: y159 :: y160 :: y161 :: y162 :: y163 :: y164 :: y165 :: y166 :: y167 :: y168 :: y169 :: y170 :: y171 :: y172 :: y173 :: y174 :: y175 :: y176 :: y177 :: y178 :: y179 :: y180 :: y181 :: y182 :: y183 :: y184 :: y185 :: y186 :: y187 :: y188 :: y189 :: y190 :: y191 :: y192 :: y193 :: y194 :: y195 :: y196 :: y197 :: y198 :: y199 :: y200 :: y201 :: y202 :: y203 :: y204 :: y205 :: y206 :: y207 :: y208 :: y209 :: y210 :: y211 :: y212 :: y213 :: y214 :: y215 :: y216 :: y217 :: y218 :: y219 :: y220 :: y221 :: y222 :: y223 :: y224 :: y225 :: y226 :: y227 :: y228 :: y229 :: y230 :: y231 :: y232 :: y233 :: y234 :: y235 :: y236 :: y237 :: y238 :: y239 :: y240 :: y241 :: y242 :: y243 :: y244 :: y245 :: y246 :: y247 :: y248 :: y249 :: y250 :: y251 :: y252 :: y253 :: y254 :: y255 :: y256 :: y257 :: y258 :: y259 :: y260 :: y261 :: y262 :: y263 :: y264 :: y265 :: y266 :: y267 :: y268 :: y269 :: y270 :: y271 :: y272 :: y273 :: y274 :: y275 :: y276 :: y277 :: y278 :: y279 :: y280 :: y281 :: y282 :: y283 :: y284 :: y285 :: y286 :: y287 :: y288 :: y289 :: []).toArray, []⟩ w') :
  Code.wp Tryz.prog (lfCode 0) Q ⟨((.agg #[.string a0_0, .string a0_1, .string a0_2, .string a0_3, .string a0_4, .slice A0_5 l0_5.length c0_5, .int .i64 a0_6, .slice A0_7 l0_7.length c0_7, .string a0_8, .string a0_9, .string a0_10, .string a0_11, .slice A0_12 l0_12.length c0_12, .slice A0_13 l0_13.length c0_13, .string a0_14]) :: x1 :: x2 :: x3 :: x4 :: x5 :: x6 :: x7 :: x8 :: x9 :: x10 :: x11 :: x12 :: x13 :: x14 :: x15 :: x16 :: x17 :: x18 :: x19 :: x20 :: x21 :: x22 :: x23 :: x24 :: x25 :: x26 :: x27 :: x28 :: x29 :: x30 :: x31 :: x32 :: x33 :: x34 :: x35 :: x36 :: x37 :: x38 :: x39 :: x40 :: x41 :: x42 :: x43 :: x44 :: x45 :: x46 :: x47 :: x48 :: x49 :: x50 :: x51 :: x52 :: x53 :: x54 :: x55 :: x56 :: x57 :: x58 :: x59 :: x60 :: x61 :: x62 :: x63 :: x64 :: x65 :: x66 :: x67 :: x68 :: x69 :: x70 :: x71 :: x72 :: x73 :: x74 :: x75 :: x76 :: x77 :: x78 :: x79 :: x80 :: x81 :: x82 :: x83 :: x84 :: x85 :: x86 :: x87 :: x88 :: x89 :: x90 :: x91 :: x92 :: x93 :: x94 :: x95 :: x96 :: x97 :: x98 :: x99 :: x100 :: x101 :: x102 :: x103 :: x104 :: x105 :: x106 :: x107 :: x108 :: x109 :: x110 :: x111 :: x112 :: x113 :: x114 :: x115 :: x116 :: x117 :: x118 :: x119 :: x120 :: x121 :: x122 :: x123 :: x124 :: x125 :: x126 :: x127 :: x128 :: x129 :: x130 :: x131 :: x132 :: x133 :: x134 :: x135 :: x136 :: x137 :: x138 :: x139 :: x140 :: x141 :: x142 :: x143 :: x144 :: x145 :: x146 :: x147 :: x148 :: x149 :: x150 :: x151 :: x152 :: x153 :: x154 :: x155 :: x156 :: x157 :: x158 :: x159 :: x160 :: x161 :: x162 :: x163 :: x164 :: x165 :: x166 :: x167 :: x168 :: x169 :: x170 :: x171 :: x172 :: x173 :: x174 :: x175 :: x176 :: x177 :: x178 :: x179 :: x180 :: x181 :: x182 :: x183 :: x184 :: x185 :: x186 :: x187 :: x188 :: x189 :: x190 :: x191 :: x192 :: x193 :: x194 :: x195 :: x196 :: x197 :: x198 :: x199 :: x200 :: x201 :: x202 :: x203 :: x204 :: x205 :: x206 :: x207 :: x208 :: x209 :: x210 :: x211 :: x212 :: x213 :: x214 :: x215 :: x216 :: x217 :: x218 :: x219 :: x220 :: x221 :: x222 :: x223 :: x224 :: x225 :: x226 :: x227 :: x228 :: x229 :: x230 :: x231 :: x232 :: x233 :: x234 :: x235 :: x236 :: x237 :: x238 :: x239 :: x240 :: x241 :: x242 :: x243 :: x244 :: x245 :: x246 :: x247 :: x248 :: x249 :: x250 :: x251 :: x252 :: x253 :: x254 :: x255 :: x256 :: x257 :: x258 :: x259 :: x260 :: x261 :: x262 :: x263 :: x264 :: x265 :: x266 :: x267 :: x268 :: x269 :: x270 :: x271 :: x272 :: x273 :: x274 :: x275 :: x276 :: x277 :: x278 :: x279 :: x280 :: x281 :: x282 :: x283 :: x284 :: x285 :: x286 :: x287 :: x288 :: x289 :: []).toArray, []⟩ w := by
 have HQ := zaa.mk hQ; clear hQ
 conv => arg 2; whnf
 go_wp2_with (first | ((with_reducible refine zaF (N := 1) rfl ?_); refine zaO ?hg (N := 1) ?hd (cs := #[.string a0_0, .string a0_1, .string a0_2, .string a0_3, .string a0_4, .slice A0_5 l0_5.length c0_5, .int .i64 a0_6, .slice A0_7 l0_7.length c0_7, .string a0_8, .string a0_9, .string a0_10, .string a0_11, .slice A0_12 l0_12.length c0_12, .slice A0_13 l0_13.length c0_13, .string a0_14]) (t := 31) ?hr ?_; (case hd => rfl); (case hg => rfl); (case hr => first | (go_simp; done) | (go_simp; rfl)); intro gb hg wb hbox hb; have L : zaa (LS w wb gb (locV a0_0 a0_1 a0_2 a0_3 a0_4 (.slice A0_5 l0_5.length c0_5) a0_6 (.slice A0_7 l0_7.length c0_7) a0_8 a0_9 a0_10 a0_11 (.slice A0_12 l0_12.length c0_12) (.slice A0_13 l0_13.length c0_13) a0_14)) := ⟨⟨zam (Below.refl _ _) hb, hbox, yq31⟩⟩; clear hb hbox hg) | fail)
 exact HQ.out L
end Go.Proofs.YtfafjbolmeimmaaGreatDoor.P
namespace Go.Proofs.YtfafjbolmeimmaaGreatDoor.P
open Go.RowKit Go.Proofs.YtfafjbolmeimmaaGreatDoorW.PrintWords Go.Proofs.YtfafjbolmeimmaaGreatDoorW.PrintLast Go.Proofs.YtfafjbolmeimmaaGreatDoorW.PrintMore
set_option linter.unusedVariables false
set_option linter.unusedSimpArgs false
def zaD.f (a0_0 : ByteArray) (a0_1 : ByteArray) (a0_2 : ByteArray) (a0_3 : ByteArray) (a0_4 : ByteArray) (l0_5 : List Int) (a0_6 : Int) (l0_7 : List S58) (a0_8 : ByteArray) (a0_9 : ByteArray) (a0_10 : ByteArray) (a0_11 : ByteArray) (l0_12 : List ByteArray) (l0_13 : List ByteArray) (a0_14 : ByteArray) : Option Int := if smallLoc a0_0 a0_1 a0_2 a0_3 a0_4 l0_5 l0_7 a0_8 a0_9 a0_10 a0_11 l0_12 l0_13 a0_14 = true then some (if okLoc a0_0 a0_1 a0_2 a0_3 a0_4 l0_5 a0_6 l0_7 a0_8 a0_9 a0_10 a0_11 l0_12 l0_13 a0_14 = true then 0 else 1) else none
theorem sp_ok (a0 a1 a2 a3 a4 : ByteArray) (l5 : List Int) (a6 : Int) (l7 : List S58) (a8 a9 a10 a11 : ByteArray) (l12 l13 : List ByteArray) (a14 : ByteArray) : okLoc a0 a1 a2 a3 a4 l5 a6 l7 a8 a9 a10 a11 l12 l13 a14 = (sp1 a0 a1 a2 a3 a4 && (sp3 l5 a6 l7 a8 a9 a10 a11 l12 l13 a14 && (l5.all szB && plFrom l7 0))) := by
 unfold okLoc loc1 sp1 sp3
 simp only [List.all_cons, List.all_nil, Bool.and_true]
 ac_rfl
theorem rt_no {p x : Bool} {r : Int} (h : (if (p && x) = true then (0 : Int) else 1) = r) : p = false → r = 1 := fun e => by rw [e] at h; exact h.symm
theorem rt_yes {p x : Bool} {r : Int} (h : (if (p && x) = true then (0 : Int) else 1) = r) (e : p = true) : (if x = true then (0 : Int) else 1) = r := by rw [e, Bool.true_and] at h; exact h
theorem rt_last {p : Bool} {r : Int} (h : (if p = true then (0 : Int) else 1) = r) : p = false → r = 1 := fun e => by rw [e] at h; exact h.symm
set_option maxHeartbeats 8000000 in
set_option maxRecDepth 100000 in
theorem zaD.calls (a0_0 : ByteArray) (a0_1 : ByteArray) (a0_2 : ByteArray) (a0_3 : ByteArray) (a0_4 : ByteArray) (A0_5 : Option Addr) (c0_5 : Nat) (l0_5 : List Int) (a0_6 : Int) (A0_7 : Option Addr) (c0_7 : Nat) (l0_7 : List S58) (a0_8 : ByteArray) (a0_9 : ByteArray) (a0_10 : ByteArray) (a0_11 : ByteArray) (A0_12 : Option Addr) (c0_12 : Nat) (l0_12 : List ByteArray) (A0_13 : Option Addr) (c0_13 : Nat) (l0_13 : List ByteArray) (a0_14 : ByteArray) (r : Int) (w : World) (hr0_5 : Kd.C (Kd.int .i64) w A0_5 l0_5.length l0_5) (hc0_5 : l0_5.length ≤ c0_5) (hr0_7 : Kd.C k58 w A0_7 l0_7.length l0_7) (hc0_7 : l0_7.length ≤ c0_7) (hr0_12 : Kd.C Kd.string w A0_12 l0_12.length l0_12) (hc0_12 : l0_12.length ≤ c0_12) (hr0_13 : Kd.C Kd.string w A0_13 l0_13.length l0_13) (hc0_13 : l0_13.length ≤ c0_13) (h : zaD.f a0_0 a0_1 a0_2 a0_3 a0_4 l0_5 a0_6 l0_7 a0_8 a0_9 a0_10 a0_11 l0_12 l0_13 a0_14 = some r) :
  Calls Tryz.prog 9 #[.agg #[.string a0_0, .string a0_1, .string a0_2, .string a0_3, .string a0_4, .slice A0_5 l0_5.length c0_5, .int .i64 a0_6, .slice A0_7 l0_7.length c0_7, .string a0_8, .string a0_9, .string a0_10, .string a0_11, .slice A0_12 l0_12.length c0_12, .slice A0_13 l0_13.length c0_13, .string a0_14]] w fun e w' => e = .returned (.int .i64 r) ∧ Below w.heap.size w w' := by
 unfold zaD.f at h
 split at h
 case isFalse => cases h
 rename_i hs
 have hr := Option.some.inj h
 rw [sp_ok] at hr
 have SM := zaa.mk hs
 obtain ⟨⟨s0, s1, s2, s3, s4, s8, s9, s10, s11, s14⟩, t5, t7, q7, t12, q12, t13, q13⟩ := small_parts' hs
 have K5 := zaa.mk hr0_5; have K7 := zaa.mk hr0_7
 go_enter Tryz.func9, Tryz.ntmps9
 refine wp_seq (lg_0 _ ?_)
 intros
 rename_i w0 L0
 change Code.wp _ _ _ _ _
 refine wp_seq (lg_A SM L0 (rt_no hr) _ (fun _ _ => rfl) ?_)
 intros
 rename_i w1 p1 L1
 change Code.wp _ _ _ _ _
 have hr1 := rt_yes hr p1
 refine wp_seq (lg_B SM hr0_12 hc0_12 hr0_13 hc0_13 L1 (rt_no hr1) _ (fun _ _ => rfl) ?_)
 intros
 rename_i w2 p2 L2
 change Code.wp _ _ _ _ _
 have hr2 := rt_yes hr1 p2
 refine wp_seq (lg_C ⟨t5⟩ K5 L2 (rt_no hr2) _ (fun _ _ => rfl) ⟨fun _ _ n _ _ h => by cases n <;> exact h⟩ ?_)
 intros
 rename_i w3 p3 L3
 change Code.wp _ _ _ _ _
 have hr3 := rt_yes hr2 p3
 refine wp_seq (lg_D SM K7 L3 (rt_last hr3) _ (fun _ _ => rfl) ⟨fun _ _ n _ _ h => by cases n <;> exact h⟩ ?_)
 intros
 rename_i w4 p4 L4
 change Code.wp _ _ _ _ _
 rw [p4] at hr3
 have hr4 : (0 : Int) = r := hr3
 clear hr hr1 hr2 hr3
 go_wp2
 go_ret
 exact ⟨by rw [← hr4]; rfl, L4.out.b⟩
end Go.Proofs.YtfafjbolmeimmaaGreatDoor.P
