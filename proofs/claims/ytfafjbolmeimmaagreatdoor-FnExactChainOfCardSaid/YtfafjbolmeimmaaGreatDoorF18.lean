/- Parts of a proof: words of the print tool that this claim uses, or plain lists. -/
import Derived.Test.YtfafjbolmeimmaaGreatDoorAb
import Derived.Test.YtfafjbolmeimmaaGreatDoorF13
import Derived.Test.YtfafjbolmeimmaaGreatDoorF17
import Derived.Test.YtfafjbolmeimmaaGreatDoorJ24
import Derived.Test.YtfafjbolmeimmaaGreatDoorXZl
import Derived.Laws.Cover1
namespace Go.Proofs.YtfafjbolmeimmaaGreatDoor.P
open Go.RowKit Go.Proofs.YtfafjbolmeimmaaGreatDoorW.PrintWords
set_option linter.unusedVariables false
theorem toI_l (l : List Int) (hl : l.length ≤ 1099511627776) : ∀ (d i : Nat), l.length - i = d → i ≤ l.length →
  Ev (fun k => zbf.l0 k l (l.take i ++ List.replicate (l.length - i) (0 : Int)) (i : Int)) l := by
 intro d
 induction d with
 | zero =>
  intro i hd hi
  obtain rfl : i = l.length := by omega
  refine Ev.step (fun k => by rw [zbf.l0]) (Ev.neg yq9 ((Ev.now _).to ?_))
  simp
 | succ d ih =>
  intro i hd hi
  have hlt : i < l.length := by omega
  have e2 := w_succ i yq9
  refine Ev.step (fun k => by rw [zbf.l0]) (Ev.pos yq9 (Ev.pos yq9 (Ev.pos (by simp; omega) ?_)))
  rw [rd_get hlt, e2, Int.toNat_natCast, copy_step l _ i hlt]
  exact ih (i + 1) yq9 yq9
theorem toI_f (l : List Int) (hl : l.length ≤ 1099511627776) : Ev (fun k => zbf.f k l) l := by
 have h := toI_l l hl _ 0 rfl yq9
 refine Ev.pos yq9 (Ev.pos yq9 ?_)
 rw [Int.toNat_natCast]
 simpa using h
def plOf (x : S79) : S58 := ⟨x.f0, x.f1⟩
theorem copy_map {α β : Type} (f : α → β) (l : List α) (d : β) (i : Nat) (h : i < l.length) : (((l.map f).take i ++ List.replicate (l.length - i) d).set i (f l[i])) = (l.map f).take (i + 1) ++ List.replicate (l.length - (i + 1)) d := by
 have := copy_step (l.map f) d i (by simpa using h)
 simpa using this
theorem toP_l (l : List S79) (hl : l.length ≤ 1099511627776) : ∀ (d i : Nat), l.length - i = d → i ≤ l.length →
  Ev (fun k => zaM.l0 k l ((l.map plOf).take i ++ List.replicate (l.length - i) z58) (i : Int)) (l.map plOf) := by
 intro d
 induction d with
 | zero =>
  intro i hd hi
  obtain rfl : i = l.length := by omega
  refine Ev.step (fun k => by rw [zaM.l0]) (Ev.neg yq9 ((Ev.now _).to ?_))
  rw [Nat.sub_self, List.replicate_zero, List.append_nil]
  exact List.take_of_length_le yq21
 | succ d ih =>
  intro i hd hi
  have hlt : i < l.length := by omega
  have e2 := w_succ i yq9
  have e3 : rd_T79 l (i : Int) = l[i] := by simp [rd_T79, hlt]
  refine Ev.step (fun k => by rw [zaM.l0]) ?_
  rw [e3, e2, Int.toNat_natCast]
  refine Ev.pos yq9 (Ev.pos yq9 (Ev.bind (a := (l[i].f0, l[i].f1)) (Ev.done rfl) (Ev.pos (by simp; omega) ?_)))
  have hc := copy_map plOf l z58 i hlt
  show Ev (fun k => zaM.l0 k l (List.set _ i (plOf l[i])) _) _
  rw [hc]
  exact ih (i + 1) yq9 yq9
theorem toP_f (l : List S79) (hl : l.length ≤ 1099511627776) : Ev (fun k => zaM.f k l) (l.map plOf) := by
 have h := toP_l l hl _ 0 rfl yq9
 refine Ev.pos yq9 (Ev.pos yq9 ?_)
 rw [Int.toNat_natCast]
 simpa using h
theorem toLoc_f (a0 a1 a2 a3 a4 : ByteArray) (l5 : List Int) (a6 : Int) (l7 : List S79) (a8 a9 a10 a11 : ByteArray) (l12 l13 : List ByteArray) (a14 : ByteArray) (h5 : l5.length ≤ 1099511627776) (h7 : l7.length ≤ 1099511627776) (h12 : l12.length ≤ 1099511627776) (h13 : l13.length ≤ 1099511627776) :
  Ev (fun k => laws_toLocale.f k a0 a1 a2 a3 a4 l5 a6 l7 a8 a9 a10 a11 l12 l13 a14) (a0, a1, a2, a3, a4, l5, a6, l7.map plOf, a8, a9, a10, a11, l12, l13, a14) :=
 Ev.bind (toI_f l5 h5) (Ev.bind (toP_f l7 h7) (Ev.bind (toS_f l12 h12) (Ev.bind (toS_f l13 h13) (Ev.now _))))
def bigT (s : ByteArray) : Prop := s.size ≤ 9223372036854775807
theorem szP1 (s t : ByteArray) (hs : bigT s) (ht : bigT t) (a : Int) (h0 : 0 ≤ a) (h1 : a ≤ 1048576) : ∃ r, laws_szPluralRule.f s t a = some r ∧ r ≤ a ∧ (0 ≤ r → s.size ≤ 1048576 ∧ t.size ≤ 1048576) := by
 unfold bigT at hs ht
 have e1 : wrap64 (a - (s.size : Int)) = a - (s.size : Int) := w64 yq9 yq9
 unfold laws_szPluralRule.f
 rw [e1]
 by_cases c1 : a - (s.size : Int) < 0
 ·rw [if_pos c1]
  exact ⟨-1, rfl, yq9, fun h => by omega⟩
 rw [if_neg c1]
 have e2 : wrap64 (a - (s.size : Int) - (t.size : Int)) = a - (s.size : Int) - (t.size : Int) := w64 yq9 yq9
 rw [e2]
 by_cases c2 : a - (s.size : Int) - (t.size : Int) < 0
 ·rw [if_pos c2]
  exact ⟨-1, rfl, yq9, fun h => by omega⟩
 rw [if_neg c2]
 exact ⟨_, rfl, yq9, fun h => by omega⟩
theorem szP_l (l : List S79) (hl : l.length ≤ 9223372036854775807) (hs : ∀ x ∈ l, bigT x.f0 ∧ bigT x.f1) : ∀ (d i : Nat), l.length - i = d → i ≤ l.length → ∀ a : Int, 0 ≤ a → a ≤ 1048576 →
  ∃ r, Ev (fun k => zaN.l0 k l a (i : Int)) r ∧ r ≤ a ∧ (0 ≤ r → ∀ x ∈ l.drop i, x.f0.size ≤ 1048576 ∧ x.f1.size ≤ 1048576) := by
 intro d
 induction d with
 | zero =>
  intro i hd hi a h0 h1
  refine ⟨a, Ev.step (fun k => by rw [zaN.l0]) (Ev.neg yq9 (Ev.now _)), Int.le_refl _, fun _ s hm => ?_⟩
  rw [List.drop_eq_nil_of_le yq9] at hm
  cases hm
 | succ d ih =>
  intro i hd hi a h0 h1
  have hlt : i < l.length := by omega
  have hz := hs l[i] (List.getElem_mem hlt)
  have e3 : rd_T79 l (i : Int) = l[i] := by simp [rd_T79, hlt]
  have e2 : wrap64 ((i : Int) + 1) = ((i + 1 : Nat) : Int) := by rw [w64 yq9 yq9]; omega
  obtain ⟨r1, hr1, hle, hsm⟩ := szP1 l[i].f0 l[i].f1 hz.1 hz.2 a h0 h1
  by_cases hn : r1 < 0
  ·refine ⟨-1, Ev.step (fun k => by rw [zaN.l0]) (Ev.pos yq9 (Ev.pos yq9 ?_)), yq9, fun h => by omega⟩
   rw [e3]
   exact Ev.bind (Ev.done hr1) (Ev.pos hn (Ev.now _))
  obtain ⟨r, hr, hra, hrs⟩ := ih (i + 1) yq9 yq9 r1 yq9 yq9
  refine ⟨r, Ev.step (fun k => by rw [zaN.l0]) (Ev.pos yq9 (Ev.pos yq9 ?_)), yq9, fun h s hm => ?_⟩
  ·rw [e3, e2]
   exact Ev.bind (Ev.done hr1) (Ev.neg hn hr)
  rw [List.drop_eq_getElem_cons hlt] at hm
  rcases List.mem_cons.1 hm with rfl | h2
  ·exact hsm yq9
  exact hrs h s h2
theorem szP_f (l : List S79) (hl : l.length ≤ 9223372036854775807) (hs : ∀ x ∈ l, bigT x.f0 ∧ bigT x.f1) (a : Int) (h0 : 0 ≤ a) (h1 : a ≤ 1048576) :
  ∃ r, Ev (fun k => zaN.f k l a) r ∧ r ≤ a ∧ (0 ≤ r → l.length ≤ 1048576 ∧ ∀ x ∈ l, x.f0.size ≤ 1048576 ∧ x.f1.size ≤ 1048576) := by
 have e3 : wrap64 (a - (l.length : Int)) = a - (l.length : Int) := w64 yq9 yq9
 by_cases hn : a - (l.length : Int) < 0
 ·refine ⟨-1, ?_, yq9, fun h => by omega⟩
  unfold zaN.f
  rw [e3]
  exact Ev.pos hn (Ev.now _)
 obtain ⟨r, hr, hra, hrs⟩ := szP_l l hl hs _ 0 rfl yq9 (a - (l.length : Int)) yq9 yq9
 refine ⟨r, ?_, yq9, fun h => ⟨yq9, fun s hm => hrs h s (by simpa using hm)⟩⟩
 unfold zaN.f
 rw [e3]
 exact Ev.neg hn hr
theorem szI_f (l : List Int) (hl : l.length ≤ 9223372036854775807) (a : Int) (h0 : 0 ≤ a) (h1 : a ≤ 1048576) : ∃ r, laws_szInt64S.f l a = some r ∧ r ≤ a ∧ (0 ≤ r → l.length ≤ 1048576) := by
 have e3 : wrap64 (a - (l.length : Int)) = a - (l.length : Int) := w64 yq9 yq9
 unfold laws_szInt64S.f
 rw [e3]
 by_cases hn : a - (l.length : Int) < 0
 ·rw [if_pos hn]; exact ⟨-1, rfl, yq9, fun h => by omega⟩
 rw [if_neg hn]; exact ⟨_, rfl, yq9, fun h => by omega⟩
end Go.Proofs.YtfafjbolmeimmaaGreatDoor.P
namespace Go.Proofs.YtfafjbolmeimmaaGreatDoor.P
open Go.RowKit Go.Proofs.YtfafjbolmeimmaaGreatDoorW.PrintWords
set_option linter.unusedVariables false
theorem sz_neg {c : Prop} [Decidable c] {A B : Nat → Option Int} {p : Int → Prop} (h : ¬ c) (hB : ∃ r, Ev B r ∧ p r) : ∃ r, Ev (fun k => if c then A k else B k) r ∧ p r := by
 obtain ⟨r, h1, h2⟩ := hB
 exact ⟨r, Ev.neg h h1, h2⟩
theorem sz_bind {g : Nat → Option Int} {f : Nat → Int → Option Int} {a : Int} {p : Int → Prop} (h : Ev g a) (hB : ∃ r, Ev (fun k => f k a) r ∧ p r) : ∃ r, Ev (fun k => (g k).bind (f k)) r ∧ p r := by
 obtain ⟨r, h1, h2⟩ := hB
 exact ⟨r, Ev.bind h h1, h2⟩
theorem small_of {s : ByteArray} (h : s.size ≤ 1048576) : smallT s = true := decide_eq_true yq9
theorem szLoc_g (a0 a1 a2 a3 a4 : ByteArray) (l5 : List Int) (a6 : Int) (l7 : List S79) (a8 a9 a10 a11 : ByteArray) (l12 l13 : List ByteArray) (a14 : ByteArray) (b0 : bigT a0) (b1 : bigT a1) (b2 : bigT a2) (b3 : bigT a3) (b4 : bigT a4) (b8 : bigT a8) (b9 : bigT a9) (b10 : bigT a10) (b11 : bigT a11) (b14 : bigT a14) (b5 : l5.length ≤ 9223372036854775807) (b7 : l7.length ≤ 9223372036854775807) (c7 : ∀ x ∈ l7, bigT x.f0 ∧ bigT x.f1) (b12 : l12.length ≤ 9223372036854775807) (c12 : ∀ s ∈ l12, s.size ≤ 9223372036854775807) (b13 : l13.length ≤ 9223372036854775807) (c13 : ∀ s ∈ l13, s.size ≤ 9223372036854775807) (y : Int) (y0 : 0 ≤ y) (y1 : y ≤ 1048576) :
  ∃ r, Ev (fun k => laws_szLocale.f k a0 a1 a2 a3 a4 l5 a6 l7 a8 a9 a10 a11 l12 l13 a14 y) r ∧ (r ≤ y ∧ (0 ≤ r → smallLoc a0 a1 a2 a3 a4 l5 (l7.map plOf) a8 a9 a10 a11 l12 l13 a14 = true)) := by
 unfold bigT at b0 b1 b2 b3 b4 b8 b9 b10 b11 b14
 unfold laws_szLocale.f
 have e1 : wrap64 (y - (a0.size : Int)) = y - (a0.size : Int) := w64 yq9 yq9
 obtain ⟨x1, h1⟩ : ∃ x : Int, x = y - (a0.size : Int) := ⟨_, rfl⟩
 rw [e1, ← h1]
 by_cases d1 : x1 < 0
 ·exact ⟨-1, Ev.pos d1 (Ev.now _), yq9, fun h => by omega⟩
 refine sz_neg d1 ?_
 have e2 : wrap64 (x1 - (a1.size : Int)) = x1 - (a1.size : Int) := w64 yq9 yq9
 obtain ⟨x2, h2⟩ : ∃ x : Int, x = x1 - (a1.size : Int) := ⟨_, rfl⟩
 rw [e2, ← h2]
 by_cases d2 : x2 < 0
 ·exact ⟨-1, Ev.pos d2 (Ev.now _), yq9, fun h => by omega⟩
 refine sz_neg d2 ?_
 have e3 : wrap64 (x2 - (a2.size : Int)) = x2 - (a2.size : Int) := w64 yq9 yq9
 obtain ⟨x3, h3⟩ : ∃ x : Int, x = x2 - (a2.size : Int) := ⟨_, rfl⟩
 rw [e3, ← h3]
 by_cases d3 : x3 < 0
 ·exact ⟨-1, Ev.pos d3 (Ev.now _), yq9, fun h => by omega⟩
 refine sz_neg d3 ?_
 have e4 : wrap64 (x3 - (a3.size : Int)) = x3 - (a3.size : Int) := w64 yq9 yq9
 obtain ⟨x4, h4⟩ : ∃ x : Int, x = x3 - (a3.size : Int) := ⟨_, rfl⟩
 rw [e4, ← h4]
 by_cases d4 : x4 < 0
 ·exact ⟨-1, Ev.pos d4 (Ev.now _), yq9, fun h => by omega⟩
 refine sz_neg d4 ?_
 have e5 : wrap64 (x4 - (a4.size : Int)) = x4 - (a4.size : Int) := w64 yq9 yq9
 obtain ⟨x5, h5⟩ : ∃ x : Int, x = x4 - (a4.size : Int) := ⟨_, rfl⟩
 rw [e5, ← h5]
 by_cases d5 : x5 < 0
 ·exact ⟨-1, Ev.pos d5 (Ev.now _), yq9, fun h => by omega⟩
 refine sz_neg d5 ?_
 obtain ⟨x6, r6, q6, s6⟩ := szI_f l5 b5 x5 yq9 yq9
 refine sz_bind (Ev.done r6) ?_
 by_cases d6 : x6 < 0
 ·exact ⟨-1, Ev.pos d6 (Ev.now _), yq9, fun h => by omega⟩
 refine sz_neg d6 ?_
 obtain ⟨x7, r7, q7, s7⟩ := szP_f l7 b7 c7 x6 yq9 yq9
 refine sz_bind r7 ?_
 by_cases d7 : x7 < 0
 ·exact ⟨-1, Ev.pos d7 (Ev.now _), yq9, fun h => by omega⟩
 refine sz_neg d7 ?_
 have e8 : wrap64 (x7 - (a8.size : Int)) = x7 - (a8.size : Int) := w64 yq9 yq9
 obtain ⟨x8, h8⟩ : ∃ x : Int, x = x7 - (a8.size : Int) := ⟨_, rfl⟩
 rw [e8, ← h8]
 by_cases d8 : x8 < 0
 ·exact ⟨-1, Ev.pos d8 (Ev.now _), yq9, fun h => by omega⟩
 refine sz_neg d8 ?_
 have e9 : wrap64 (x8 - (a9.size : Int)) = x8 - (a9.size : Int) := w64 yq9 yq9
 obtain ⟨x9, h9⟩ : ∃ x : Int, x = x8 - (a9.size : Int) := ⟨_, rfl⟩
 rw [e9, ← h9]
 by_cases d9 : x9 < 0
 ·exact ⟨-1, Ev.pos d9 (Ev.now _), yq9, fun h => by omega⟩
 refine sz_neg d9 ?_
 have e10 : wrap64 (x9 - (a10.size : Int)) = x9 - (a10.size : Int) := w64 yq9 yq9
 obtain ⟨x10, h10⟩ : ∃ x : Int, x = x9 - (a10.size : Int) := ⟨_, rfl⟩
 rw [e10, ← h10]
 by_cases d10 : x10 < 0
 ·exact ⟨-1, Ev.pos d10 (Ev.now _), yq9, fun h => by omega⟩
 refine sz_neg d10 ?_
 have e11 : wrap64 (x10 - (a11.size : Int)) = x10 - (a11.size : Int) := w64 yq9 yq9
 obtain ⟨x11, h11⟩ : ∃ x : Int, x = x10 - (a11.size : Int) := ⟨_, rfl⟩
 rw [e11, ← h11]
 by_cases d11 : x11 < 0
 ·exact ⟨-1, Ev.pos d11 (Ev.now _), yq9, fun h => by omega⟩
 refine sz_neg d11 ?_
 obtain ⟨x12, r12, q12, s12⟩ := szS_f l12 b12 c12 x11 yq9 yq9
 refine sz_bind r12 ?_
 by_cases d12 : x12 < 0
 ·exact ⟨-1, Ev.pos d12 (Ev.now _), yq9, fun h => by omega⟩
 refine sz_neg d12 ?_
 obtain ⟨x13, r13, q13, s13⟩ := szS_f l13 b13 c13 x12 yq9 yq9
 refine sz_bind r13 ?_
 by_cases d13 : x13 < 0
 ·exact ⟨-1, Ev.pos d13 (Ev.now _), yq9, fun h => by omega⟩
 refine sz_neg d13 ?_
 have e14 : wrap64 (x13 - (a14.size : Int)) = x13 - (a14.size : Int) := w64 yq9 yq9
 obtain ⟨x14, h14⟩ : ∃ x : Int, x = x13 - (a14.size : Int) := ⟨_, rfl⟩
 rw [e14, ← h14]
 by_cases d14 : x14 < 0
 ·exact ⟨-1, Ev.pos d14 (Ev.now _), yq9, fun h => by omega⟩
 refine sz_neg d14 ?_
 refine ⟨x14, Ev.now _, yq9, fun _ => ?_⟩
 obtain ⟨u7, v7⟩ := s7 yq9
 obtain ⟨u12, v12⟩ := s12 yq9
 obtain ⟨u13, v13⟩ := s13 yq9
 have u5 := s6 yq9
 unfold smallLoc
 simp only [List.all_cons, List.all_nil, Bool.and_true, Bool.and_eq_true, decide_eq_true_eq, List.length_map]
 refine ⟨⟨⟨⟨⟨⟨⟨⟨small_of yq9, small_of yq9, small_of yq9, small_of yq9, small_of yq9, small_of yq9, small_of yq9, small_of yq9, small_of yq9, small_of yq9⟩, yq9⟩, yq9⟩, ?_⟩, yq9⟩, ?_⟩, yq9⟩, ?_⟩
 ·rw [List.all_eq_true]
  intro x hx
  obtain ⟨y, hy, rfl⟩ := List.mem_map.1 hx
  have := v7 y hy
  rw [Bool.and_eq_true]
  exact ⟨small_of this.1, small_of this.2⟩
 ·exact List.all_eq_true.2 (fun s hs => small_of (v12 s hs))
 exact List.all_eq_true.2 (fun s hs => small_of (v13 s hs))
end Go.Proofs.YtfafjbolmeimmaaGreatDoor.P
namespace Go.Proofs.YtfafjbolmeimmaaGreatDoor.P
open Go.RowKit Go.Proofs.YtfafjbolmeimmaaGreatDoorW.PrintWords Go.Proofs.YtfafjbolmeimmaaGreatDoorW.PrintLast Go.Proofs.YtfafjbolmeimmaaGreatDoorW.PrintMore
set_option linter.unusedVariables false
set_option linter.unusedSimpArgs false
theorem cw_digit {w : World} (p : Int) (h0 : 0 ≤ p) : CW w 45 #[.int .i64 p] (.bool (digB p)) := fun w1 _ => by
 obtain ⟨k, h⟩ := ev_some (isDigit_ev p h0)
 exact (impl_isDigit.calls k p _ w1 h).mono fun _ _ h => ⟨h.1, drawn_bl h.2⟩
def IdxOut (l : List Int) (w : World) (e : Ending) (w' : World) : Prop := ∃ r : Int, e = .returned (.int .i64 r) ∧ decide (r ≥ 0) = l.any digB ∧ Below w.heap.size w w'
set_option maxHeartbeats 4000000 in
theorem idxf_calls (A : Option Addr) (c : Nat) (l : List Int) (w : World) (hC : Kd.C (Kd.int .i64) w A l.length l) (hc : l.length ≤ c) (hl : l.length ≤ 1099511627776) (h0 : ∀ p ∈ l, 0 ≤ p) :
  Calls Tryz.prog 78 #[.slice A l.length c, .func (.func 45) #[] #[]] w fun e w' => IdxOut l w e w' := by
 have HC := zaa.mk hC; have HL := zaa.mk hl; have H0 := zaa.mk h0
 have eg : ∀ args w, (callFunc 45 args).run Tryz.prog w = .ok (.enter 45 args) w := fun args w => enters_ Tryz.func45 yq10 rfl args w
 clear hC hc hl h0
 go_enter Tryz.func78, Tryz.ntmps78
 go_wp2
 go_loopg [8] (l.length + 1) (fun gk v8 wr => ∃ i : Nat, v8 = .int .i64 (i : Int) ∧ zaa (i ≤ l.length ∧ l.length - i + 1 ≤ gk) ∧ zaa (l.any digB = (l.drop i).any digB) ∧ zaa (Below w.heap.size w wr))
 case atStart => exact ⟨0, rfl, ⟨Nat.zero_le _, Nat.le_refl _⟩, ⟨rfl⟩, ⟨Below.refl _ _⟩⟩
 case round =>
  obtain ⟨i, rfl, HK, HA, HB⟩ := hrel
  cases gk with
  | zero => exact absurd HK.out.2 yq9
  | succ fu =>
   by_cases hi : i < l.length
   ·have q0 : (i : Int) < (l.length : Int) := by omega
    have p0 : (0 : Int) ≤ (i : Int) := Int.natCast_nonneg i
    obtain ⟨ad, e5, hx⟩ := Kd.at_int HC.out (i : Int) p0 q0
    cases e5
    replace hx := (HB.out.cell (World.block_lt_of_cell? w _ hx)).trans hx
    rw [rd_get hi, Int.toNat_natCast] at hx
    have hm := H0.out _ (List.getElem_mem hi)
    have h9 := HA.out
    rw [List.drop_eq_getElem_cons hi, List.any_cons] at h9
    have hw := w_succ i (yq15 HL.out)
    replace hi := zaa.mk hi
    generalize l[i]'hi.out = n at *
    have CD := zaa.mk (cw_digit (w := w) n hm)
    have H9 := zaa.mk h9
    replace p0 := eq_true p0
    replace q0 := eq_true q0
    clear h9 hm HA
    cases hq : digB n with
    | true =>
     have CD1 : zaa (CW w 45 #[.int .i64 n] (.bool true)) := hq ▸ CD
     clear CD
     go_wp2_with (go_at_fn 45; (with_reducible refine (CW.go CD1.out HB.out).mono ?_); rintro e wn ⟨rfl, hb⟩; have HB2 := zaa.mk (zam HB.out hb); clear hb)
     go_ret
     exact ⟨_, rfl, by rw [H9.out, hq]; exact decide_eq_true yq9, HB2.out⟩
    | false =>
     have CD1 : zaa (CW w 45 #[.int .i64 n] (.bool false)) := hq ▸ CD
     have HN : zaa (l.any digB = (l.drop (i + 1)).any digB) := ⟨by rw [H9.out, hq, Bool.false_or]⟩
     clear CD H9
     go_wp2_with (go_at_fn 45; (with_reducible refine (CW.go CD1.out HB.out).mono ?_); rintro e wn ⟨rfl, hb⟩; have HB2 := zaa.mk (zam HB.out hb); clear hb)
     go_roundg fu
     case measure => have := HK.out; omega
     case rel => exact ⟨i + 1, by rw [hw], ⟨yq15 hi.out, yq19 HK.out hi.out⟩, HN, HB2⟩
   have q0 : ((i : Int) < (l.length : Int)) = False := eq_false yq9
   have h9 := HA.out
   rw [List.drop_eq_nil_of_le yq9] at h9
   have H9 := zaa.mk h9
   replace hi := eq_false hi
   clear h9 HA
   go_wp2
   go_ret
   exact ⟨_, rfl, by rw [H9.out]; rfl, HB.out⟩
set_option maxHeartbeats 4000000 in
theorem contf_calls (A : Option Addr) (c : Nat) (l : List Int) (w : World) (hC : Kd.C (Kd.int .i64) w A l.length l) (hc : l.length ≤ c) (hl : l.length ≤ 1099511627776) (h0 : ∀ p ∈ l, 0 ≤ p) :
  Calls Tryz.prog 44 #[.slice A l.length c, .func (.func 45) #[] #[]] w fun e w' => e = .returned (.bool (l.any digB)) ∧ Below w.heap.size w w' := by
 have HI := zaa.mk (idxf_calls A c l w hC hc hl h0)
 clear hC hc hl h0
 go_enter Tryz.func44, Tryz.ntmps44
 go_wp2_with (go_at_call 78; (with_reducible refine HI.out.mono ?_); rintro e wn ⟨r, rfl, hr, hb⟩; have HR := zaa.mk hr; have HB := zaa.mk hb; clear hr hb)
 go_ret
 exact ⟨by rw [← HR.out]; rfl, HB.out⟩
def nthSeq : Code → Nat → Code
 | .seq a _, 0 => a
 | .seq _ b, n + 1 => nthSeq b n
 | c, _ => c
def tailSeq : Code → Nat → Code
 | c, 0 => c
 | .seq _ b, n + 1 => tailSeq b n
 | c, _ => c
noncomputable def lfCode (k : Nat) : Code := nthSeq (Tryz.f11.body.getD .skip) k
noncomputable def lfTail (k : Nat) : Code := tailSeq (Tryz.f11.body.getD .skip) k
theorem small_parts' {a0 a1 a2 a3 a4 : ByteArray} {l5 : List Int} {l7 : List S58} {a8 a9 a10 a11 : ByteArray} {l12 l13 : List ByteArray} {a14 : ByteArray} (h : smallLoc a0 a1 a2 a3 a4 l5 l7 a8 a9 a10 a11 l12 l13 a14 = true) :
  (smallT a0 = true ∧ smallT a1 = true ∧ smallT a2 = true ∧ smallT a3 = true ∧ smallT a4 = true ∧ smallT a8 = true ∧ smallT a9 = true ∧ smallT a10 = true ∧ smallT a11 = true ∧ smallT a14 = true) ∧ l5.length ≤ 1073741824 ∧ l7.length ≤ 1073741824 ∧ l7.all (fun p => smallT p.f0 && smallT p.f1) = true ∧ l12.length ≤ 1073741824 ∧ l12.all smallT = true ∧ l13.length ≤ 1073741824 ∧ l13.all smallT = true := by
 unfold smallLoc at h
 simp only [List.all_cons, List.all_nil, Bool.and_true, Bool.and_eq_true, decide_eq_true_eq] at h
 obtain ⟨⟨⟨⟨⟨⟨⟨h0, h1⟩, h2⟩, h3⟩, h4⟩, h5⟩, h6⟩, h7⟩ := h
 exact ⟨h0, h1, h2, by simpa only [Bool.and_eq_true] using h3, h4, h5, h6, h7⟩
theorem grown_bl {a c : World} (h : a.grownBy c none) : Below a.heap.size a c := ⟨h.os, h.tape, h.output, h.size, fun i hi => h.block i hi yq21⟩
def PtsOut (s : ByteArray) (w : World) (e : Ending) (w' : World) : Prop := ∃ (A : Option Addr) (c : Nat), e = .returned (.slice A (pts s).length c) ∧ Kd.C (Kd.int .i64) w' A (pts s).length (pts s) ∧ (pts s).length ≤ c ∧ Below w.heap.size w w'
theorem pts_calls (s : ByteArray) (hs : smallT s = true) (w : World) (hG : GT w) : Calls Tryz.prog 42 #[.string s] w fun e w' => PtsOut s w e w' := by
 obtain ⟨k, h⟩ := ev_some (points_f s yq42)
 refine (impl_points.calls k s _ w hG h).mono ?_
 rintro e w' ⟨v, rfl, hR, hb⟩
 obtain ⟨A, c, e, _, _⟩ := Kd.R_reads hR
 subst e
 exact ⟨A, c, rfl, (Kd.zbl hR).2.2, (Kd.zbl hR).2.1, hb⟩
def anB (s : ByteArray) : Bool := (pts s).any digB
theorem signB_eq (s : ByteArray) : signB s = (!decide (3 < ((pts s).length : Int)) && okB s && !anB s) := by
 have e : decide ((pts s).length ≤ 3) = !decide (3 < ((pts s).length : Int)) := by
  by_cases h : (pts s).length ≤ 3
  ·rw [decide_eq_true h, decide_eq_false yq9]; rfl
  rw [decide_eq_false h, decide_eq_true yq9]; rfl
 rw [← e]; rfl
theorem contf_pts (A : Option Addr) (c : Nat) (s : ByteArray) (w : World) (hC : Kd.C (Kd.int .i64) w A (pts s).length (pts s)) (hc : (pts s).length ≤ c) (hs : smallT s = true) :
  Calls Tryz.prog 44 #[.slice A (pts s).length c, .func (.func 45) #[] #[]] w fun e w' => e = .returned (.bool (anB s)) ∧ Below w.heap.size w w' := contf_calls A c (pts s) w hC hc (by have := pts_len' s; have := of_decide_eq_true hs; omega) (fun p hp => (pts_range s 0 p hp).1)
theorem orn (b0 T x : Bool) : ((b0 || !T) || !x) = (b0 || !(T && x)) := by cases b0 <;> cases T <;> cases x <;> rfl
theorem orn' (b0 x F : Bool) : ((b0 || !x) || !F) = (b0 || !(x && F)) := orn b0 x F
theorem szB_eq (n : Int) : szB n = (!decide (n < 1) && !decide (9 < n)) := by unfold szB; rw [lt_ge, lt_ge, Bool.not_not, Bool.not_not]
theorem frame_eq (s : ByteArray) : frameB s = (nilB s || (!decide (50 < (s.size : Int)) && okB s && cnt3 s 48 == 1 && cnt3 s 49 == 1 && !decide (idx3 s 49 < idx3 s 48))) := by
 have e : decide (s.size ≤ 50) = !decide (50 < (s.size : Int)) := by
  by_cases h : s.size ≤ 50
  ·rw [decide_eq_true h, decide_eq_false yq9]; rfl
  rw [decide_eq_false h, decide_eq_true yq9]; rfl
 rw [← e]; rfl
theorem beT {c d : Int} (h : (c == d) = true) : (c = d) = True := eq_true (beq_iff_eq.1 h)
theorem beF {c d : Int} (h : (c == d) = false) : (c = d) = False := eq_false (beq_eq_false_iff_ne.1 h)
theorem take_all (p : ByteArray → Bool) (xs : List ByteArray) (i : Nat) (h : i < xs.length) : (xs.take (i + 1)).all p = ((xs.take i).all p && p xs[i]) := by
 rw [List.take_add_one, List.getElem?_eq_getElem h, List.all_append]
 simp
theorem rdS_get {l : List ByteArray} {i : Nat} (h : i < l.length) : rdOf ByteArray.empty l (i : Int) = l[i] := by simp [rdOf, h]
end Go.Proofs.YtfafjbolmeimmaaGreatDoor.P
namespace Go.Proofs.YtfafjbolmeimmaaGreatDoor.P
open Go.RowKit Go.Proofs.YtfafjbolmeimmaaGreatDoorW.PrintWords Go.Proofs.YtfafjbolmeimmaaGreatDoorW.PrintLast Go.Proofs.YtfafjbolmeimmaaGreatDoorW.PrintMore
set_option linter.unusedVariables false
set_option linter.unusedSimpArgs false
def goodN (n : ByteArray) : Prop := (1 ≤ n.size ∧ n.size ≤ 20) ∧ bt n 0 ≠ 45
def okC (l : List LO) : Prop := ∀ x ∈ l, x.f1.toList = ([] : List UInt8) ∨ goodN x.f1
def hasT (n : ByteArray) (out : List ByteArray) : Bool := out.any fun x => x.toList == n.toList
def chF (l : List LO) : Nat → List ByteArray → ByteArray → List ByteArray
 | 0, out, _ => out
 | d + 1, out, n => if hasT n out = true then out else match nxt l n with | none => out ++ [n] | some m => chF l d (out ++ [n]) m
def chV (l : List LO) (n : ByteArray) : List ByteArray := chF l 10 [] n
theorem chF_has {l : List LO} {d : Nat} {out : List ByteArray} {n : ByteArray} (h : hasT n out = true) : chF l d out n = out := by
 cases d with
 | zero => rfl
 | succ d => exact if_pos h
theorem chF_end {l : List LO} {d : Nat} {out : List ByteArray} {n : ByteArray} (h : hasT n out = false) (hn : nxt l n = none) : chF l (d + 1) out n = out ++ [n] := by
 show (if hasT n out = true then out else match nxt l n with | none => out ++ [n] | some m => chF l d (out ++ [n]) m) = _
 rw [if_neg (by rw [h]; simp), hn]
theorem chF_go {l : List LO} {d : Nat} {out : List ByteArray} {n m : ByteArray} (h : hasT n out = false) (hn : nxt l n = some m) : chF l (d + 1) out n = chF l d (out ++ [n]) m := by
 show (if hasT n out = true then out else match nxt l n with | none => out ++ [n] | some m => chF l d (out ++ [n]) m) = _
 rw [if_neg (by rw [h]; simp), hn]
theorem bt_extract (s : ByteArray) (i : Nat) (h : 0 < i) (hi : i ≤ s.size) : bt (s.extract 0 i) 0 = bt s 0 := by
 have h1 : (s.extract 0 i).size = i := by rw [ByteArray.size_extract]; omega
 unfold bt
 rw [dif_pos (show (0 : Int).toNat < (s.extract 0 i).size by rw [h1]; exact h), dif_pos (show (0 : Int).toNat < s.size by show 0 < s.size; omega)]
 congr 2
 rw [ByteArray.getElem_extract]
 rfl
theorem nxt_good {l : List LO} {n m : ByteArray} (hl : okC l) (hg : goodN n) (h : nxt l n = some m) : goodN m := by
 unfold nxt at h
 split at h
 ·obtain ⟨i, hi, rfl⟩ := Option.map_eq_some_iff.1 h
  have h1 : i < n.size := dshF_lt hi
  have h2 : 0 < i := by
   rcases Nat.eq_zero_or_pos i with rfl | h2
   ·exfalso
    have key : ∀ k, dshF n k = some 0 → bt n 0 = 45 := by
     intro k
     induction k with
     | zero => intro h; cases h
     | succ k ih =>
      intro h
      replace h : (if bt n (k : Int) = 45 then some k else dshF n k) = some 0 := h
      split at h
      ·rename_i hb; cases h; exact hb
      exact ih h
    exact hg.2 (key _ hi)
   exact h2
  refine ⟨?_, by rw [bt_extract n i h2 yq9]; exact hg.2⟩
  rw [ByteArray.size_extract]
  have := hg.1
  omega
 rename_i hp
 cases h
 unfold parO at hp ⊢
 cases hat : atO n l with
 | none => rw [hat] at hp; exact absurd yq21 hp
 | some j =>
  rw [hat] at hp
  have hj := atO_lt hat
  have e : zao l (j : Int) = l[j] := by simp [zao, hj]
  show goodN (zao l (j : Int)).f1
  replace hp : ¬ (zao l (j : Int)).f1.toList = ([] : List UInt8) := hp
  rw [e] at hp ⊢
  rcases hl _ (List.getElem_mem hj) with h | h
  ·exact absurd h hp
  exact h
theorem nil_list {n : ByteArray} (h : goodN n) : ¬ n.toList = ([] : List UInt8) := fun e => by
 have h1 : n.data.toList = [] := by rw [← e]; exact (ByteArray.toList_eq n).symm
 have h2 : n.size = 0 := by
  have := congrArg List.length h1
  rw [Array.length_toList] at this
  exact this
 have := h.1
 omega
def chS (l : List LO) (out : List ByteArray) (n : ByteArray) : List ByteArray := if n.toList = ([] : List UInt8) then out else chF l (10 - out.length) out n
theorem chS_next {l : List LO} (hl : okC l) {out : List ByteArray} {n : ByteArray} (hg : goodN n) (h : hasT n out = false) (h10 : out.length < 10) : chS l (out ++ [n]) (nxtB l n) = chS l out n ∧ ((nxtB l n).toList = ([] : List UInt8) ∨ goodN (nxtB l n)) := by
 obtain ⟨d, hd⟩ : ∃ d, 10 - out.length = d + 1 := ⟨9 - out.length, yq9⟩
 have e1 : chS l out n = chF l (d + 1) out n := by unfold chS; rw [if_neg (nil_list hg), hd]
 rw [e1]
 unfold nxtB
 cases hn : nxt l n with
 | none =>
  rw [chF_end h hn]
  refine ⟨?_, .inl yq21⟩
  unfold chS
  rw [if_pos yq21]
 | some m =>
  have hm := nxt_good hl hg hn
  rw [chF_go h hn]
  refine ⟨?_, .inr hm⟩
  show chS l (out ++ [n]) m = _
  unfold chS
  rw [if_neg (nil_list hm), List.length_append, show 10 - (out.length + [n].length) = d by show 10 - (out.length + 1) = d; omega]
theorem has_at {n : ByteArray} {out : List ByteArray} {j : Nat} (hj : j < out.length) (h : (rdOf ByteArray.empty out (j : Int)).toList = n.toList) : hasT n out = true := by
 have e : rdOf ByteArray.empty out (j : Int) = out[j] := by simp [rdOf, hj]
 rw [e] at h
 exact List.any_eq_true.2 ⟨_, List.getElem_mem hj, beq_iff_eq.2 h⟩
theorem has_none {n : ByteArray} {out : List ByteArray} (h : ∀ y, y < out.length → ¬ (rdOf ByteArray.empty out (y : Int)).toList = n.toList) : hasT n out = false := by
 unfold hasT
 rw [List.any_eq_false]
 intro x hx
 obtain ⟨j, hj, rfl⟩ := List.getElem_of_mem hx
 have e : rdOf ByteArray.empty out (j : Int) = out[j] := by simp [rdOf, hj]
 have := h j hj
 rw [e] at this
 simpa using this
theorem infoStr : (Tryz.prog.info? 9).map (fun i => (i.zero, i.size, i.bytes)) = some (some (.string ⟨#[]⟩), 1, 16) := by kernel_rfl
end Go.Proofs.YtfafjbolmeimmaaGreatDoor.P
