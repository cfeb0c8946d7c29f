/- Parts of a proof: words of the print tool that this claim uses, or plain lists. -/
import Derived.Test.YtfafjbolmeimmaaGreatDoorAb
import Derived.Test.YtfafjbolmeimmaaGreatDoorF15
import Derived.Test.YtfafjbolmeimmaaGreatDoorF5
import Derived.Test.YtfafjbolmeimmaaGreatDoorF16
import Derived.Test.YtfafjbolmeimmaaGreatDoorF17
import Derived.Test.YtfafjbolmeimmaaGreatDoorF12
import Derived.Laws.Cover1
namespace Go.Proofs.YtfafjbolmeimmaaGreatDoor.P
open Go.RowKit Go.Proofs.YtfafjbolmeimmaaGreatDoorW.PrintWords Go.Proofs.YtfafjbolmeimmaaGreatDoorW.PrintLast Go.Proofs.YtfafjbolmeimmaaGreatDoorW.PrintMore
set_option linter.unusedVariables false
def ruleB (s : ByteArray) : Bool := pRule s.data.toList && decide (s.size ≤ 200)
def otherB (s : ByteArray) : Bool := s.toList == ([111, 116, 104, 101, 114] : List UInt8)
def plAt (l : List S58) (i : Nat) : Bool := nameB (za8 l i).f0 && !otherB (za8 l i).f0 && ruleB (za8 l i).f1 && (decide (i = 0) || Op.bytesLess (za8 l ((i - 1 : Nat) : Int)).f0.toList (za8 l i).f0.toList)
def plFrom (l : List S58) (i : Nat) : Bool := (List.range' i (l.length - i)).all (plAt l)
theorem plFrom_lt {l : List S58} {i : Nat} (h : i < l.length) : plFrom l i = (plAt l i && plFrom l (i + 1)) := by
 unfold plFrom
 obtain ⟨n, hn⟩ : ∃ n, l.length - i = n + 1 := ⟨l.length - i - 1, yq10⟩
 rw [hn, show l.length - (i + 1) = n by omega, List.range'_succ, List.all_cons]
theorem plFrom_ge {l : List S58} {i : Nat} (h : ¬ i < l.length) : plFrom l i = true := by
 unfold plFrom
 rw [show l.length - i = 0 by omega]
 rfl
def szB (n : Int) : Bool := decide (1 ≤ n) && decide (n ≤ 9)
def loc1 (a0 a1 : ByteArray) (l5 : List Int) (a6 : Int) (l7 : List S58) : Bool := nameB a0 && (nilB a1 || nameB a1) && !decide (a6 < -1) && !decide (6 < a6) && !decide (3 < (l5.length : Int)) && !decide (6 < (l7.length : Int))
def okLoc (a0 a1 a2 a3 a4 : ByteArray) (l5 : List Int) (a6 : Int) (l7 : List S58) (a8 a9 a10 a11 : ByteArray) (l12 l13 : List ByteArray) (a14 : ByteArray) : Bool :=
 loc1 a0 a1 l5 a6 l7 && [a2, a3, a4].all signB && (apartB a2 a4 && apartB a2 a3) && l5.all szB && plFrom l7 0 && [a8, a9, a10, a11].all frameB && (labelsB l12 13 && labelsB l13 7) && (!decide (50 < (a14.size : Int)) && okB a14)
def smallT (s : ByteArray) : Bool := decide (s.size ≤ 1073741824)
def smallLoc (a0 a1 a2 a3 a4 : ByteArray) (l5 : List Int) (l7 : List S58) (a8 a9 a10 a11 : ByteArray) (l12 l13 : List ByteArray) (a14 : ByteArray) : Bool :=
 [a0, a1, a2, a3, a4, a8, a9, a10, a11, a14].all smallT && decide (l5.length ≤ 1073741824) && decide (l7.length ≤ 1073741824) && l7.all (fun p => smallT p.f0 && smallT p.f1) && decide (l12.length ≤ 1073741824) && l12.all smallT && decide (l13.length ≤ 1073741824) && l13.all smallT
theorem ev_some {α : Type} {g : Nat → Option α} {r : α} (h : Ev g r) : ∃ k, g k = some r := by
 obtain ⟨k, h⟩ := h
 exact ⟨k, h k (Nat.le_refl _)⟩
variable {w : World}
theorem cw_sName (s : ByteArray) (hs : smallT s = true) : CW w 32 #[.string s] (.bool (nameB s)) := fun w1 _ => by
 obtain ⟨k, h⟩ := ev_some (sName_ev s yq46)
 exact (zaB.calls k s _ w1 h).mono fun _ _ h => ⟨h.1, drawn_bl h.2⟩
theorem cw_name (s : ByteArray) (hs : smallT s = true) : CW w 41 #[.string s] (.bool (nameB s)) := fun w1 _ => by
 obtain ⟨k, h⟩ := ev_some (isName_ev s yq46)
 exact (zbl.calls k s _ w1 h).mono fun _ _ h => ⟨h.1, drawn_bl h.2⟩
theorem cw_sign (s : ByteArray) (hs : smallT s = true) : CW w 33 #[.string s] (.bool (signB s)) := fun w1 _ => by
 obtain ⟨k, h⟩ := ev_some (sign_ev s yq46)
 exact zbq.calls k s _ w1 h
theorem cw_apart (a b : ByteArray) : CW w 34 #[.string a, .string b] (.bool (apartB a b)) := fun w1 _ =>
 (spec_l17Apart.calls a b _ w1 (apart_f a b)).mono fun _ _ h => ⟨h.1, drawn_bl h.2⟩
theorem cw_begins (a b : ByteArray) : CW w 46 #[.string a, .string b] (.bool (begB a b)) := fun w1 _ =>
 (impl_begins.calls a b _ w1 (begins_f a b)).mono fun _ _ h => ⟨h.1, drawn_bl h.2⟩
theorem cw_frame (s : ByteArray) (hs : smallT s = true) : CW w 35 #[.string s] (.bool (frameB s)) := fun w1 _ => by
 obtain ⟨k, h⟩ := ev_some (frame_ev s yq46)
 exact spec_l17Frame.calls k s _ w1 h
theorem cw_swell (s : ByteArray) (hs : smallT s = true) : CW w 37 #[.string s] (.bool (okB s)) := fun w1 _ => by
 obtain ⟨k, h⟩ := ev_some (swell_ev s yq46)
 exact za1.calls k s _ w1 h
theorem cw_well (s : ByteArray) (hs : smallT s = true) (hG : GT w) : CW w 43 #[.string s] (.bool (okB s)) := fun w1 hb =>
 impl_well.calls s _ w1 (GT_below hG hb) (well_f s yq46)
theorem cw_rule (s : ByteArray) (hs : smallT s = true) (hG : GT w) : CW w 47 #[.string s] (.int .i64 (if ruleB s = true then 0 else 1)) := fun w1 hb => by
 refine impl_RuleFault.calls s _ w1 (GT_below hG hb) ?_
 have := of_decide_eq_true hs
 unfold impl_RuleFault.f
 rw [if_pos yq10]
 have hl : s.data.toList.length = s.size := by rw [Array.length_toList]; rfl
 have e3 : (whenI s.data.toList).isSome = ruleB s := by
  unfold ruleB
  by_cases h2 : s.size ≤ 200
  ·rw [when_rule _ yq10, decide_eq_true h2, Bool.and_true]
  rw [decide_eq_false h2, Bool.and_false]
  unfold whenI
  rw [if_pos yq10]
  rfl
 rw [e3]
theorem cw_sRule (s : ByteArray) (hs : smallT s = true) : CW w 38 #[.string s] (.int .i64 (if ruleB s = true then 0 else 1)) := fun w1 _ => by
 refine spec_RuleFault.calls s _ w1 ?_
 have := of_decide_eq_true hs
 unfold spec_RuleFault.f
 rw [if_pos yq10]
 rfl
theorem cw_labels (A : Option Addr) (c : Nat) (l : List ByteArray) (n : Int) (hl : l.length ≤ 1073741824) (hs : l.all smallT = true) (hC : Kd.C Kd.string w A l.length l) (hc : l.length ≤ c) : CW w 36 #[.slice A l.length c, .int .i64 n] (.bool (labelsB l n)) := fun w1 hb => by
 obtain ⟨k, h⟩ := ev_some (labels_ev l n yq10 (fun s h => by have := of_decide_eq_true (List.all_eq_true.1 hs s h); omega))
 exact zbg.calls k A c l n _ w1 (Kd.za6 hC hb) hc h
theorem cw_index (s : ByteArray) (x : UInt8) (hs : smallT s = true) (hG : GT w) : CW w 48 #[.string s, .string (sub3 x)] (.int .i64 (idx3 s x)) := fun w1 hb => by
 obtain ⟨m, hm⟩ := (GT_below hG hb).maxLen
 exact (Tryz.strings_Index s (sub3 x) m w1 yq46 hm).mono fun _ _ h => ⟨h.1, h.2 ▸ Below.refl _ _⟩
theorem cw_count (s : ByteArray) (x : UInt8) (hs : smallT s = true) (hG : GT w) : CW w 49 #[.string s, .string (sub3 x)] (.int .i64 (cnt3 s x)) := fun w1 hb => by
 obtain ⟨m, hm⟩ := (GT_below hG hb).maxLen
 exact (Tryz.strings_Count s (sub3 x) m w1 yq46 hm (by show 2 ≤ 3; omega)).mono fun _ _ h => ⟨h.1, h.2 ▸ Below.refl _ _⟩
theorem fork (b : Bool) {P : Prop} (h : P) : b = false ∨ (b = true ∧ P) := by cases b <;> simp [h]
theorem fork2 (b : Bool) {P Q : Prop} (h : P) (h' : Q) : (b = true ∧ P) ∨ (b = false ∧ Q) := by cases b <;> simp [h, h']
theorem lt_ge (n m : Int) : decide (n < m) = !decide (m ≤ n) := by
 by_cases h : m ≤ n
 ·rw [decide_eq_true h]; exact decide_eq_false yq10
 rw [decide_eq_false h]; exact decide_eq_true yq10
theorem dbF {p : Prop} [Decidable p] (h : (!decide p) = true) : p = False := by simpa using h
theorem dbT {p : Prop} [Decidable p] (h : (!decide p) = false) : p = True := by simpa using h
theorem rd_get {l : List Int} {i : Nat} (h : i < l.length) : rd l (i : Int) = l[i] := by simp [rd, h]
def locV (a0 a1 a2 a3 a4 : ByteArray) (v5 : Value) (a6 : Int) (v7 : Value) (a8 a9 a10 a11 : ByteArray) (v12 v13 : Value) (a14 : ByteArray) : Array Value := #[.string a0, .string a1, .string a2, .string a3, .string a4, v5, .int .i64 a6, v7, .string a8, .string a9, .string a10, .string a11, v12, v13, .string a14]
structure LS (w wc : World) (g : Nat) (vs : Array Value) : Prop where
 b : Below w.heap.size w wc
 k : wc.heap[g]? = some (.cells vs 31 (0, 0))
 g : w.heap.size ≤ g
theorem LS.step {wc w' : World} {g : Nat} {vs : Array Value} (h : LS w wc g vs) (hb : Below wc.heap.size wc w') : LS w w' g vs := ⟨zam h.b hb, zaH h.k hb, h.g⟩
theorem LS.at {wc : World} {g : Nat} {a0 a1 a2 a3 a4 : ByteArray} {v5 : Value} {a6 : Int} {v7 : Value} {a8 a9 a10 a11 : ByteArray} {v12 v13 : Value} {a14 : ByteArray} (h : LS w wc g (locV a0 a1 a2 a3 a4 v5 a6 v7 a8 a9 a10 a11 v12 v13 a14)) :
  wc.cell? ⟨g, 0, none⟩ = some (.string a0) ∧ wc.cell? ⟨g, 1, none⟩ = some (.string a1) ∧ wc.cell? ⟨g, 2, none⟩ = some (.string a2) ∧ wc.cell? ⟨g, 3, none⟩ = some (.string a3) ∧ wc.cell? ⟨g, 4, none⟩ = some (.string a4) ∧ wc.cell? ⟨g, 5, none⟩ = some v5 ∧ wc.cell? ⟨g, 6, none⟩ = some (.int .i64 a6) ∧ wc.cell? ⟨g, 7, none⟩ = some v7 ∧ wc.cell? ⟨g, 8, none⟩ = some (.string a8) ∧ wc.cell? ⟨g, 9, none⟩ = some (.string a9) ∧ wc.cell? ⟨g, 10, none⟩ = some (.string a10) ∧ wc.cell? ⟨g, 11, none⟩ = some (.string a11) ∧ wc.cell? ⟨g, 12, none⟩ = some v12 ∧ wc.cell? ⟨g, 13, none⟩ = some v13 ∧ wc.cell? ⟨g, 14, none⟩ = some (.string a14) :=
 ⟨(zah h.k 0).trans rfl, (zah h.k 1).trans rfl, (zah h.k 2).trans rfl, (zah h.k 3).trans rfl, (zah h.k 4).trans rfl, (zah h.k 5).trans rfl, (zah h.k 6).trans rfl, (zah h.k 7).trans rfl, (zah h.k 8).trans rfl, (zah h.k 9).trans rfl, (zah h.k 10).trans rfl, (zah h.k 11).trans rfl, (zah h.k 12).trans rfl, (zah h.k 13).trans rfl, (zah h.k 14).trans rfl⟩
end Go.Proofs.YtfafjbolmeimmaaGreatDoor.P
namespace Go.Proofs.YtfafjbolmeimmaaGreatDoor.P
open Go.RowKit Go.Proofs.YtfafjbolmeimmaaGreatDoorW.PrintWords Go.Proofs.YtfafjbolmeimmaaGreatDoorW.PrintLast Go.Proofs.YtfafjbolmeimmaaGreatDoorW.PrintMore
set_option linter.unusedVariables false
structure L2 (w wc : World) (g : Nat) (vs : Array Value) (gp : Nat) (f0 f1 : ByteArray) : Prop where
 l : LS w wc g vs
 p : wc.heap[gp]? = some (.cells #[.string f0, .string f1] 58 (0, 0))
 ge : w.heap.size ≤ gp
theorem LS.boxed {w wr w2 : World} {g gp : Nat} {vs : Array Value} {x y : Value} (f0 f1 : ByteArray) (h : LS w wr g vs) (hbox : w2.heap[gp]? = some (.cells #[x, y] 58 (0, 0))) (hb : Below wr.heap.size wr w2) (hg : gp = wr.heap.size) :
  L2 w ((w2.setCell ⟨gp, 0, none⟩ (.string f0)).setCell ⟨gp, 1, none⟩ (.string f1)) g vs gp f0 f1 := by
 have h0 := h.step hb
 have hne : g ≠ gp := by have := blk_lt h.k; omega
 have hge : w.heap.size ≤ gp := by rw [hg]; exact zav h.b
 exact ⟨⟨zaj (zaj h0.b hge) hge, zaZ (zaZ h0.k hne _) hne _, h.g⟩, zaV (zaV hbox 0 _ rfl) 1 _ rfl, hge⟩
theorem L2.drew {w wc : World} {g gp : Nat} {vs : Array Value} {f0 f1 : ByteArray} (h : L2 w wc g vs gp f0 f1) : L2 w wc.drew g vs gp f0 f1 := ⟨⟨zac h.l.b, zan h.l.k, h.l.g⟩, zan h.p, h.ge⟩
theorem L2.step {w wc w' : World} {g gp : Nat} {vs : Array Value} {f0 f1 : ByteArray} (h : L2 w wc g vs gp f0 f1) (hb : Below wc.heap.size wc w') : L2 w w' g vs gp f0 f1 := ⟨h.l.step hb, zaH h.p hb, h.ge⟩
theorem L2.at {w wc : World} {g gp : Nat} {f0 f1 : ByteArray} {a0 a1 a2 a3 a4 : ByteArray} {v5 : Value} {a6 : Int} {v7 : Value} {a8 a9 a10 a11 : ByteArray} {v12 v13 : Value} {a14 : ByteArray} (h : L2 w wc g (locV a0 a1 a2 a3 a4 v5 a6 v7 a8 a9 a10 a11 v12 v13 a14) gp f0 f1) :
  wc.cell? ⟨gp, 0, none⟩ = some (.string f0) ∧ wc.cell? ⟨gp, 1, none⟩ = some (.string f1) ∧ wc.cell? ⟨g, 7, none⟩ = some v7 := ⟨(zah h.p 0).trans rfl, (zah h.p 1).trans rfl, (zah h.l.k 7).trans rfl⟩
theorem L2.old {w wc : World} {g gp : Nat} {vs : Array Value} {f0 f1 : ByteArray} {p : Addr} {v : Value} (h : L2 w wc g vs gp f0 f1) (hx : w.cell? p = some v) : wc.cell? p = some v := (h.l.b.cell (World.block_lt_of_cell? w _ hx)).trans hx
theorem LS.old {w wc : World} {g : Nat} {vs : Array Value} {p : Addr} {v : Value} (h : LS w wc g vs) (hx : w.cell? p = some v) : wc.cell? p = some v := (h.b.cell (World.block_lt_of_cell? w _ hx)).trans hx
theorem rd58_small {l : List S58} {i : Nat} (h : l.all (fun p => smallT p.f0 && smallT p.f1) = true) (hi : i < l.length) : smallT (za8 l (i : Int)).f0 = true ∧ smallT (za8 l (i : Int)).f1 = true := by
 have e : za8 l (i : Int) = l[i] := by simp [za8, hi]
 rw [e]
 have := List.all_eq_true.1 h _ (List.getElem_mem hi)
 simpa only [Bool.and_eq_true] using this
end Go.Proofs.YtfafjbolmeimmaaGreatDoor.P
namespace Go.Proofs.YtfafjbolmeimmaaGreatDoor.P
open Go.RowKit Go.Proofs.YtfafjbolmeimmaaGreatDoorW.PrintWords Go.Proofs.YtfafjbolmeimmaaGreatDoorW.PrintLast Go.Proofs.YtfafjbolmeimmaaGreatDoorW.PrintMore
set_option linter.unusedVariables false
set_option linter.unusedSimpArgs false
theorem cw_digit {w : World} (p : Int) (h0 : 0 ≤ p) : CW w 45 #[.int .i64 p] (.bool (digB p)) := fun w1 _ => by
 obtain ⟨k, h⟩ := ev_some (isDigit_ev p h0)
 exact (impl_isDigit.calls k p _ w1 h).mono fun _ _ h => ⟨h.1, drawn_bl h.2⟩
def IdxOut (l : List Int) (w : World) (e : Ending) (w' : World) : Prop := ∃ r : Int, e = .returned (.int .i64 r) ∧ decide (r ≥ 0) = l.any digB ∧ Below w.heap.size w w'
set_option maxHeartbeats 4000000 in
theorem idxf_calls (A : Option Addr) (c : Nat) (l : List Int) (w : World) (hC : Kd.C (Kd.int .i64) w A l.length l) (hc : l.length ≤ c) (hl : l.length ≤ 1099511627776) (h0 : ∀ p ∈ l, 0 ≤ p) :
  Calls Tryz.prog 78 #[.slice A l.length c, .func (.func 45) #[] #[]] w fun e w' => IdxOut l w e w' := by
 have HC := zaa.mk hC; have HL := zaa.mk hl; have H0 := zaa.mk h0
 have eg : ∀ args w, (callFunc 45 args).run Tryz.prog w = .ok (.enter 45 args) w := fun args w => enters_ Tryz.func45 yq11 rfl args w
 clear hC hc hl h0
 go_enter Tryz.func78, Tryz.ntmps78
 go_wp2
 go_loopg [8] (l.length + 1) (fun gk v8 wr => ∃ i : Nat, v8 = .int .i64 (i : Int) ∧ zaa (i ≤ l.length ∧ l.length - i + 1 ≤ gk) ∧ zaa (l.any digB = (l.drop i).any digB) ∧ zaa (Below w.heap.size w wr))
 case atStart => exact ⟨0, rfl, ⟨Nat.zero_le _, Nat.le_refl _⟩, ⟨rfl⟩, ⟨Below.refl _ _⟩⟩
 case round =>
  obtain ⟨i, rfl, HK, HA, HB⟩ := hrel
  cases gk with
  | zero => exact absurd HK.out.2 yq10
  | succ fu =>
   by_cases hi : i < l.length
   ·have q0 : (i : Int) < (l.length : Int) := by omega
    have p0 : (0 : Int) ≤ (i : Int) := Int.natCast_nonneg i
    obtain ⟨ad, e5, hx⟩ := Kd.at_int HC.out (i : Int) p0 q0
    cases e5
    replace hx := (HB.out.cell (World.block_lt_of_cell? w _ hx)).trans hx
    rw [rd_get hi, Int.toNat_natCast] at hx
    have hm := H0.out _ (List.getElem_mem hi)
    have h9 := HA.out
    rw [List.drop_eq_getElem_cons hi, List.any_cons] at h9
    have hw := w_succ i (yq23 HL.out)
    replace hi := zaa.mk hi
    generalize l[i]'hi.out = n at *
    have CD := zaa.mk (cw_digit (w := w) n hm)
    have H9 := zaa.mk h9
    replace p0 := eq_true p0
    replace q0 := eq_true q0
    clear h9 hm HA
    cases hq : digB n with
    | true =>
     have CD1 : zaa (CW w 45 #[.int .i64 n] (.bool true)) := hq ▸ CD
     clear CD
     go_wp2_with (go_at_fn 45; (with_reducible refine (CW.go CD1.out HB.out).mono ?_); rintro e wn ⟨rfl, hb⟩; have HB2 := zaa.mk (zam HB.out hb); clear hb)
     go_ret
     exact ⟨_, rfl, by rw [H9.out, hq]; exact decide_eq_true yq10, HB2.out⟩
    | false =>
     have CD1 : zaa (CW w 45 #[.int .i64 n] (.bool false)) := hq ▸ CD
     have HN : zaa (l.any digB = (l.drop (i + 1)).any digB) := ⟨by rw [H9.out, hq, Bool.false_or]⟩
     clear CD H9
     go_wp2_with (go_at_fn 45; (with_reducible refine (CW.go CD1.out HB.out).mono ?_); rintro e wn ⟨rfl, hb⟩; have HB2 := zaa.mk (zam HB.out hb); clear hb)
     go_roundg fu
     case measure => have := HK.out; omega
     case rel => exact ⟨i + 1, by rw [hw], ⟨yq23 hi.out, yq25 HK.out hi.out⟩, HN, HB2⟩
   have q0 : ((i : Int) < (l.length : Int)) = False := eq_false yq10
   have h9 := HA.out
   rw [List.drop_eq_nil_of_le yq10] at h9
   have H9 := zaa.mk h9
   replace hi := eq_false hi
   clear h9 HA
   go_wp2
   go_ret
   exact ⟨_, rfl, by rw [H9.out]; rfl, HB.out⟩
set_option maxHeartbeats 4000000 in
theorem contf_calls (A : Option Addr) (c : Nat) (l : List Int) (w : World) (hC : Kd.C (Kd.int .i64) w A l.length l) (hc : l.length ≤ c) (hl : l.length ≤ 1099511627776) (h0 : ∀ p ∈ l, 0 ≤ p) :
  Calls Tryz.prog 44 #[.slice A l.length c, .func (.func 45) #[] #[]] w fun e w' => e = .returned (.bool (l.any digB)) ∧ Below w.heap.size w w' := by
 have HI := zaa.mk (idxf_calls A c l w hC hc hl h0)
 clear hC hc hl h0
 go_enter Tryz.func44, Tryz.ntmps44
 go_wp2_with (go_at_call 78; (with_reducible refine HI.out.mono ?_); rintro e wn ⟨r, rfl, hr, hb⟩; have HR := zaa.mk hr; have HB := zaa.mk hb; clear hr hb)
 go_ret
 exact ⟨by rw [← HR.out]; rfl, HB.out⟩
def nthSeq : Code → Nat → Code
 | .seq a _, 0 => a
 | .seq _ b, n + 1 => nthSeq b n
 | c, _ => c
def tailSeq : Code → Nat → Code
 | c, 0 => c
 | .seq _ b, n + 1 => tailSeq b n
 | c, _ => c
noncomputable def lfCode (k : Nat) : Code := nthSeq (Tryz.f11.body.getD .skip) k
noncomputable def lfTail (k : Nat) : Code := tailSeq (Tryz.f11.body.getD .skip) k
theorem small_parts' {a0 a1 a2 a3 a4 : ByteArray} {l5 : List Int} {l7 : List S58} {a8 a9 a10 a11 : ByteArray} {l12 l13 : List ByteArray} {a14 : ByteArray} (h : smallLoc a0 a1 a2 a3 a4 l5 l7 a8 a9 a10 a11 l12 l13 a14 = true) :
  (smallT a0 = true ∧ smallT a1 = true ∧ smallT a2 = true ∧ smallT a3 = true ∧ smallT a4 = true ∧ smallT a8 = true ∧ smallT a9 = true ∧ smallT a10 = true ∧ smallT a11 = true ∧ smallT a14 = true) ∧ l5.length ≤ 1073741824 ∧ l7.length ≤ 1073741824 ∧ l7.all (fun p => smallT p.f0 && smallT p.f1) = true ∧ l12.length ≤ 1073741824 ∧ l12.all smallT = true ∧ l13.length ≤ 1073741824 ∧ l13.all smallT = true := by
 unfold smallLoc at h
 simp only [List.all_cons, List.all_nil, Bool.and_true, Bool.and_eq_true, decide_eq_true_eq] at h
 obtain ⟨⟨⟨⟨⟨⟨⟨h0, h1⟩, h2⟩, h3⟩, h4⟩, h5⟩, h6⟩, h7⟩ := h
 exact ⟨h0, h1, h2, by simpa only [Bool.and_eq_true] using h3, h4, h5, h6, h7⟩
theorem grown_bl {a c : World} (h : a.grownBy c none) : Below a.heap.size a c := ⟨h.os, h.tape, h.output, h.size, fun i hi => h.block i hi yq27⟩
def PtsOut (s : ByteArray) (w : World) (e : Ending) (w' : World) : Prop := ∃ (A : Option Addr) (c : Nat), e = .returned (.slice A (pts s).length c) ∧ Kd.C (Kd.int .i64) w' A (pts s).length (pts s) ∧ (pts s).length ≤ c ∧ Below w.heap.size w w'
theorem pts_calls (s : ByteArray) (hs : smallT s = true) (w : World) (hG : GT w) : Calls Tryz.prog 42 #[.string s] w fun e w' => PtsOut s w e w' := by
 obtain ⟨k, h⟩ := ev_some (points_f s yq46)
 refine (impl_points.calls k s _ w hG h).mono ?_
 rintro e w' ⟨v, rfl, hR, hb⟩
 obtain ⟨A, c, e, _, _⟩ := Kd.R_reads hR
 subst e
 exact ⟨A, c, rfl, (Kd.zbc hR).2.2, (Kd.zbc hR).2.1, hb⟩
def anB (s : ByteArray) : Bool := (pts s).any digB
theorem signB_eq (s : ByteArray) : signB s = (!decide (3 < ((pts s).length : Int)) && okB s && !anB s) := by
 have e : decide ((pts s).length ≤ 3) = !decide (3 < ((pts s).length : Int)) := by
  by_cases h : (pts s).length ≤ 3
  ·rw [decide_eq_true h, decide_eq_false yq10]; rfl
  rw [decide_eq_false h, decide_eq_true yq10]; rfl
 rw [← e]; rfl
theorem contf_pts (A : Option Addr) (c : Nat) (s : ByteArray) (w : World) (hC : Kd.C (Kd.int .i64) w A (pts s).length (pts s)) (hc : (pts s).length ≤ c) (hs : smallT s = true) :
  Calls Tryz.prog 44 #[.slice A (pts s).length c, .func (.func 45) #[] #[]] w fun e w' => e = .returned (.bool (anB s)) ∧ Below w.heap.size w w' := contf_calls A c (pts s) w hC hc (by have := pts_len' s; have := of_decide_eq_true hs; omega) (fun p hp => (pts_range s 0 p hp).1)
theorem orn (b0 T x : Bool) : ((b0 || !T) || !x) = (b0 || !(T && x)) := by cases b0 <;> cases T <;> cases x <;> rfl
theorem orn' (b0 x F : Bool) : ((b0 || !x) || !F) = (b0 || !(x && F)) := orn b0 x F
theorem szB_eq (n : Int) : szB n = (!decide (n < 1) && !decide (9 < n)) := by unfold szB; rw [lt_ge, lt_ge, Bool.not_not, Bool.not_not]
theorem frame_eq (s : ByteArray) : frameB s = (nilB s || (!decide (50 < (s.size : Int)) && okB s && cnt3 s 48 == 1 && cnt3 s 49 == 1 && !decide (idx3 s 49 < idx3 s 48))) := by
 have e : decide (s.size ≤ 50) = !decide (50 < (s.size : Int)) := by
  by_cases h : s.size ≤ 50
  ·rw [decide_eq_true h, decide_eq_false yq10]; rfl
  rw [decide_eq_false h, decide_eq_true yq10]; rfl
 rw [← e]; rfl
theorem beT {c d : Int} (h : (c == d) = true) : (c = d) = True := eq_true (beq_iff_eq.1 h)
theorem beF {c d : Int} (h : (c == d) = false) : (c = d) = False := eq_false (beq_eq_false_iff_ne.1 h)
theorem take_all (p : ByteArray → Bool) (xs : List ByteArray) (i : Nat) (h : i < xs.length) : (xs.take (i + 1)).all p = ((xs.take i).all p && p xs[i]) := by
 rw [List.take_add_one, List.getElem?_eq_getElem h, List.all_append]
 simp
theorem rdS_get {l : List ByteArray} {i : Nat} (h : i < l.length) : rdOf ByteArray.empty l (i : Int) = l[i] := by simp [rdOf, h]
end Go.Proofs.YtfafjbolmeimmaaGreatDoor.P
