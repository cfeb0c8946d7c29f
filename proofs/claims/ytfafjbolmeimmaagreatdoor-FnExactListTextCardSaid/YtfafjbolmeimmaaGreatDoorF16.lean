/- Parts of a proof: words of the print tool that this claim uses, or plain lists. -/
import Derived.Test.YtfafjbolmeimmaaGreatDoorAb
import Derived.Test.YtfafjbolmeimmaaGreatDoorF13
import Derived.Test.YtfafjbolmeimmaaGreatDoorF8
import Derived.Test.YtfafjbolmeimmaaGreatDoorF15
import Derived.Test.YtfafjbolmeimmaaGreatDoorF12
import Derived.Test.YtfafjbolmeimmaaGreatDoorF7
import Derived.Laws.Cover1
import Derived.Maps.RangeRun
import Derived.Deep.CutBlock
namespace Go.Proofs.YtfafjbolmeimmaaGreatDoor.P
open Go.RowKit Go.Proofs.YtfafjbolmeimmaaGreatDoorW.PrintWords Go.Proofs.YtfafjbolmeimmaaGreatDoorW.PrintLast Go.Proofs.YtfafjbolmeimmaaGreatDoorW.PrintMore
set_option linter.unusedVariables false
def ruleB (s : ByteArray) : Bool := pRule s.data.toList && decide (s.size ≤ 200)
def otherB (s : ByteArray) : Bool := s.toList == ([111, 116, 104, 101, 114] : List UInt8)
def plAt (l : List S58) (i : Nat) : Bool := nameB (rd_T58 l i).f0 && !otherB (rd_T58 l i).f0 && ruleB (rd_T58 l i).f1 && (decide (i = 0) || Op.bytesLess (rd_T58 l ((i - 1 : Nat) : Int)).f0.toList (rd_T58 l i).f0.toList)
def plFrom (l : List S58) (i : Nat) : Bool := (List.range' i (l.length - i)).all (plAt l)
theorem plFrom_lt {l : List S58} {i : Nat} (h : i < l.length) : plFrom l i = (plAt l i && plFrom l (i + 1)) := by
 unfold plFrom
 obtain ⟨n, hn⟩ : ∃ n, l.length - i = n + 1 := ⟨l.length - i - 1, yq12⟩
 rw [hn, show l.length - (i + 1) = n by omega, List.range'_succ, List.all_cons]
theorem plFrom_ge {l : List S58} {i : Nat} (h : ¬ i < l.length) : plFrom l i = true := by
 unfold plFrom
 rw [show l.length - i = 0 by omega]
 rfl
def szB (n : Int) : Bool := decide (1 ≤ n) && decide (n ≤ 9)
def loc1 (a0 a1 : ByteArray) (l5 : List Int) (a6 : Int) (l7 : List S58) : Bool := nameB a0 && (nilB a1 || nameB a1) && !decide (a6 < -1) && !decide (6 < a6) && !decide (3 < (l5.length : Int)) && !decide (6 < (l7.length : Int))
def okLoc (a0 a1 a2 a3 a4 : ByteArray) (l5 : List Int) (a6 : Int) (l7 : List S58) (a8 a9 a10 a11 : ByteArray) (l12 l13 : List ByteArray) (a14 : ByteArray) : Bool :=
 loc1 a0 a1 l5 a6 l7 && [a2, a3, a4].all signB && (apartB a2 a4 && apartB a2 a3) && l5.all szB && plFrom l7 0 && [a8, a9, a10, a11].all frameB && (labelsB l12 13 && labelsB l13 7) && (!decide (50 < (a14.size : Int)) && okB a14)
def smallT (s : ByteArray) : Bool := decide (s.size ≤ 1073741824)
def smallLoc (a0 a1 a2 a3 a4 : ByteArray) (l5 : List Int) (l7 : List S58) (a8 a9 a10 a11 : ByteArray) (l12 l13 : List ByteArray) (a14 : ByteArray) : Bool :=
 [a0, a1, a2, a3, a4, a8, a9, a10, a11, a14].all smallT && decide (l5.length ≤ 1073741824) && decide (l7.length ≤ 1073741824) && l7.all (fun p => smallT p.f0 && smallT p.f1) && decide (l12.length ≤ 1073741824) && l12.all smallT && decide (l13.length ≤ 1073741824) && l13.all smallT
theorem ev_some {α : Type} {g : Nat → Option α} {r : α} (h : Ev g r) : ∃ k, g k = some r := by
 obtain ⟨k, h⟩ := h
 exact ⟨k, h k (Nat.le_refl _)⟩
variable {w : World}
theorem cw_sName (s : ByteArray) (hs : smallT s = true) : CW w 32 #[.string s] (.bool (nameB s)) := fun w1 _ => by
 obtain ⟨k, h⟩ := ev_some (sName_ev s yq42)
 exact (zaH.calls k s _ w1 h).mono fun _ _ h => ⟨h.1, drawn_bl h.2⟩
theorem cw_name (s : ByteArray) (hs : smallT s = true) : CW w 41 #[.string s] (.bool (nameB s)) := fun w1 _ => by
 obtain ⟨k, h⟩ := ev_some (isName_ev s yq42)
 exact (zbt.calls k s _ w1 h).mono fun _ _ h => ⟨h.1, drawn_bl h.2⟩
theorem cw_sign (s : ByteArray) (hs : smallT s = true) : CW w 33 #[.string s] (.bool (signB s)) := fun w1 _ => by
 obtain ⟨k, h⟩ := ev_some (sign_ev s yq42)
 exact zbA.calls k s _ w1 h
theorem cw_apart (a b : ByteArray) : CW w 34 #[.string a, .string b] (.bool (apartB a b)) := fun w1 _ =>
 (spec_l17Apart.calls a b _ w1 (apart_f a b)).mono fun _ _ h => ⟨h.1, drawn_bl h.2⟩
theorem cw_begins (a b : ByteArray) : CW w 46 #[.string a, .string b] (.bool (begB a b)) := fun w1 _ =>
 (impl_begins.calls a b _ w1 (begins_f a b)).mono fun _ _ h => ⟨h.1, drawn_bl h.2⟩
theorem cw_frame (s : ByteArray) (hs : smallT s = true) : CW w 35 #[.string s] (.bool (frameB s)) := fun w1 _ => by
 obtain ⟨k, h⟩ := ev_some (frame_ev s yq42)
 exact spec_l17Frame.calls k s _ w1 h
theorem cw_swell (s : ByteArray) (hs : smallT s = true) : CW w 37 #[.string s] (.bool (okB s)) := fun w1 _ => by
 obtain ⟨k, h⟩ := ev_some (swell_ev s yq42)
 exact za8.calls k s _ w1 h
theorem cw_well (s : ByteArray) (hs : smallT s = true) (hG : GT w) : CW w 43 #[.string s] (.bool (okB s)) := fun w1 hb =>
 impl_well.calls s _ w1 (zby hG hb) (well_f s yq42)
theorem cw_rule (s : ByteArray) (hs : smallT s = true) (hG : GT w) : CW w 47 #[.string s] (.int .i64 (if ruleB s = true then 0 else 1)) := fun w1 hb => by
 refine impl_RuleFault.calls s _ w1 (zby hG hb) ?_
 have := of_decide_eq_true hs
 unfold impl_RuleFault.f
 rw [if_pos yq12]
 have hl : s.data.toList.length = s.size := by rw [Array.length_toList]; rfl
 have e3 : (whenI s.data.toList).isSome = ruleB s := by
  unfold ruleB
  by_cases h2 : s.size ≤ 200
  ·rw [when_rule _ yq12, decide_eq_true h2, Bool.and_true]
  rw [decide_eq_false h2, Bool.and_false]
  unfold whenI
  rw [if_pos yq12]
  rfl
 rw [e3]
theorem cw_sRule (s : ByteArray) (hs : smallT s = true) : CW w 38 #[.string s] (.int .i64 (if ruleB s = true then 0 else 1)) := fun w1 _ => by
 refine spec_RuleFault.calls s _ w1 ?_
 have := of_decide_eq_true hs
 unfold spec_RuleFault.f
 rw [if_pos yq12]
 rfl
theorem cw_labels (A : Option Addr) (c : Nat) (l : List ByteArray) (n : Int) (hl : l.length ≤ 1073741824) (hs : l.all smallT = true) (hC : Kd.C Kd.string w A l.length l) (hc : l.length ≤ c) : CW w 36 #[.slice A l.length c, .int .i64 n] (.bool (labelsB l n)) := fun w1 hb => by
 obtain ⟨k, h⟩ := ev_some (labels_ev l n yq12 (fun s h => by have := of_decide_eq_true (List.all_eq_true.1 hs s h); omega))
 exact zbm.calls k A c l n _ w1 (Kd.za3 hC hb) hc h
theorem cw_index (s : ByteArray) (x : UInt8) (hs : smallT s = true) (hG : GT w) : CW w 48 #[.string s, .string (sub3 x)] (.int .i64 (idx3 s x)) := fun w1 hb => by
 obtain ⟨m, hm⟩ := (zby hG hb).maxLen
 exact (Tryz.strings_Index s (sub3 x) m w1 yq42 hm).mono fun _ _ h => ⟨h.1, h.2 ▸ Below.refl _ _⟩
theorem cw_count (s : ByteArray) (x : UInt8) (hs : smallT s = true) (hG : GT w) : CW w 49 #[.string s, .string (sub3 x)] (.int .i64 (cnt3 s x)) := fun w1 hb => by
 obtain ⟨m, hm⟩ := (zby hG hb).maxLen
 exact (Tryz.strings_Count s (sub3 x) m w1 yq42 hm (by show 2 ≤ 3; omega)).mono fun _ _ h => ⟨h.1, h.2 ▸ Below.refl _ _⟩
theorem fork (b : Bool) {P : Prop} (h : P) : b = false ∨ (b = true ∧ P) := by cases b <;> simp [h]
theorem fork2 (b : Bool) {P Q : Prop} (h : P) (h' : Q) : (b = true ∧ P) ∨ (b = false ∧ Q) := by cases b <;> simp [h, h']
theorem lt_ge (n m : Int) : decide (n < m) = !decide (m ≤ n) := by
 by_cases h : m ≤ n
 ·rw [decide_eq_true h]; exact decide_eq_false yq12
 rw [decide_eq_false h]; exact decide_eq_true yq12
theorem dbF {p : Prop} [Decidable p] (h : (!decide p) = true) : p = False := by simpa using h
theorem dbT {p : Prop} [Decidable p] (h : (!decide p) = false) : p = True := by simpa using h
theorem rd_get {l : List Int} {i : Nat} (h : i < l.length) : rd l (i : Int) = l[i] := by simp [rd, h]
def locV (a0 a1 a2 a3 a4 : ByteArray) (v5 : Value) (a6 : Int) (v7 : Value) (a8 a9 a10 a11 : ByteArray) (v12 v13 : Value) (a14 : ByteArray) : Array Value := #[.string a0, .string a1, .string a2, .string a3, .string a4, v5, .int .i64 a6, v7, .string a8, .string a9, .string a10, .string a11, v12, v13, .string a14]
structure LS (w wc : World) (g : Nat) (vs : Array Value) : Prop where
 b : Below w.heap.size w wc
 k : wc.heap[g]? = some (.cells vs 31 (0, 0))
 g : w.heap.size ≤ g
theorem LS.step {wc w' : World} {g : Nat} {vs : Array Value} (h : LS w wc g vs) (hb : Below wc.heap.size wc w') : LS w w' g vs := ⟨zao h.b hb, zaP h.k hb, h.g⟩
theorem LS.at {wc : World} {g : Nat} {a0 a1 a2 a3 a4 : ByteArray} {v5 : Value} {a6 : Int} {v7 : Value} {a8 a9 a10 a11 : ByteArray} {v12 v13 : Value} {a14 : ByteArray} (h : LS w wc g (locV a0 a1 a2 a3 a4 v5 a6 v7 a8 a9 a10 a11 v12 v13 a14)) :
  wc.cell? ⟨g, 0, none⟩ = some (.string a0) ∧ wc.cell? ⟨g, 1, none⟩ = some (.string a1) ∧ wc.cell? ⟨g, 2, none⟩ = some (.string a2) ∧ wc.cell? ⟨g, 3, none⟩ = some (.string a3) ∧ wc.cell? ⟨g, 4, none⟩ = some (.string a4) ∧ wc.cell? ⟨g, 5, none⟩ = some v5 ∧ wc.cell? ⟨g, 6, none⟩ = some (.int .i64 a6) ∧ wc.cell? ⟨g, 7, none⟩ = some v7 ∧ wc.cell? ⟨g, 8, none⟩ = some (.string a8) ∧ wc.cell? ⟨g, 9, none⟩ = some (.string a9) ∧ wc.cell? ⟨g, 10, none⟩ = some (.string a10) ∧ wc.cell? ⟨g, 11, none⟩ = some (.string a11) ∧ wc.cell? ⟨g, 12, none⟩ = some v12 ∧ wc.cell? ⟨g, 13, none⟩ = some v13 ∧ wc.cell? ⟨g, 14, none⟩ = some (.string a14) :=
 ⟨(zad h.k 0).trans rfl, (zad h.k 1).trans rfl, (zad h.k 2).trans rfl, (zad h.k 3).trans rfl, (zad h.k 4).trans rfl, (zad h.k 5).trans rfl, (zad h.k 6).trans rfl, (zad h.k 7).trans rfl, (zad h.k 8).trans rfl, (zad h.k 9).trans rfl, (zad h.k 10).trans rfl, (zad h.k 11).trans rfl, (zad h.k 12).trans rfl, (zad h.k 13).trans rfl, (zad h.k 14).trans rfl⟩
end Go.Proofs.YtfafjbolmeimmaaGreatDoor.P
namespace Go.Proofs.YtfafjbolmeimmaaGreatDoor.P
open Go.RowKit Go.Proofs.YtfafjbolmeimmaaGreatDoorW.PrintWords Go.Proofs.YtfafjbolmeimmaaGreatDoorW.PrintLast Go.Proofs.YtfafjbolmeimmaaGreatDoorW.PrintMore
set_option linter.unusedVariables false
structure L2 (w wc : World) (g : Nat) (vs : Array Value) (gp : Nat) (f0 f1 : ByteArray) : Prop where
 l : LS w wc g vs
 p : wc.heap[gp]? = some (.cells #[.string f0, .string f1] 58 (0, 0))
 ge : w.heap.size ≤ gp
theorem LS.boxed {w wr w2 : World} {g gp : Nat} {vs : Array Value} {x y : Value} (f0 f1 : ByteArray) (h : LS w wr g vs) (hbox : w2.heap[gp]? = some (.cells #[x, y] 58 (0, 0))) (hb : Below wr.heap.size wr w2) (hg : gp = wr.heap.size) :
  L2 w ((w2.setCell ⟨gp, 0, none⟩ (.string f0)).setCell ⟨gp, 1, none⟩ (.string f1)) g vs gp f0 f1 := by
 have h0 := h.step hb
 have hne : g ≠ gp := by have := blk_lt h.k; omega
 have hge : w.heap.size ≤ gp := by rw [hg]; exact zar h.b
 exact ⟨⟨zai (zai h0.b hge) hge, za5 (za5 h0.k hne _) hne _, h.g⟩, zaY (zaY hbox 0 _ rfl) 1 _ rfl, hge⟩
theorem L2.drew {w wc : World} {g gp : Nat} {vs : Array Value} {f0 f1 : ByteArray} (h : L2 w wc g vs gp f0 f1) : L2 w wc.drew g vs gp f0 f1 := ⟨⟨zae h.l.b, zal h.l.k, h.l.g⟩, zal h.p, h.ge⟩
theorem L2.step {w wc w' : World} {g gp : Nat} {vs : Array Value} {f0 f1 : ByteArray} (h : L2 w wc g vs gp f0 f1) (hb : Below wc.heap.size wc w') : L2 w w' g vs gp f0 f1 := ⟨h.l.step hb, zaP h.p hb, h.ge⟩
theorem L2.at {w wc : World} {g gp : Nat} {f0 f1 : ByteArray} {a0 a1 a2 a3 a4 : ByteArray} {v5 : Value} {a6 : Int} {v7 : Value} {a8 a9 a10 a11 : ByteArray} {v12 v13 : Value} {a14 : ByteArray} (h : L2 w wc g (locV a0 a1 a2 a3 a4 v5 a6 v7 a8 a9 a10 a11 v12 v13 a14) gp f0 f1) :
  wc.cell? ⟨gp, 0, none⟩ = some (.string f0) ∧ wc.cell? ⟨gp, 1, none⟩ = some (.string f1) ∧ wc.cell? ⟨g, 7, none⟩ = some v7 := ⟨(zad h.p 0).trans rfl, (zad h.p 1).trans rfl, (zad h.l.k 7).trans rfl⟩
theorem L2.old {w wc : World} {g gp : Nat} {vs : Array Value} {f0 f1 : ByteArray} {p : Addr} {v : Value} (h : L2 w wc g vs gp f0 f1) (hx : w.cell? p = some v) : wc.cell? p = some v := (h.l.b.cell (World.block_lt_of_cell? w _ hx)).trans hx
theorem LS.old {w wc : World} {g : Nat} {vs : Array Value} {p : Addr} {v : Value} (h : LS w wc g vs) (hx : w.cell? p = some v) : wc.cell? p = some v := (h.b.cell (World.block_lt_of_cell? w _ hx)).trans hx
theorem rd58_small {l : List S58} {i : Nat} (h : l.all (fun p => smallT p.f0 && smallT p.f1) = true) (hi : i < l.length) : smallT (rd_T58 l (i : Int)).f0 = true ∧ smallT (rd_T58 l (i : Int)).f1 = true := by
 have e : rd_T58 l (i : Int) = l[i] := by simp [rd_T58, hi]
 rw [e]
 have := List.all_eq_true.1 h _ (List.getElem_mem hi)
 simpa only [Bool.and_eq_true] using this
end Go.Proofs.YtfafjbolmeimmaaGreatDoor.P
namespace Go.Proofs.YtfafjbolmeimmaaGreatDoor.P
open Go.RowKit Go.Proofs.YtfafjbolmeimmaaGreatDoorW.PrintWords Go.Proofs.YtfafjbolmeimmaaGreatDoorW.PrintLast Go.Proofs.YtfafjbolmeimmaaGreatDoorW.PrintMore
set_option linter.unusedVariables false
set_option linter.unusedSimpArgs false
theorem cw_digit {w : World} (p : Int) (h0 : 0 ≤ p) : CW w 45 #[.int .i64 p] (.bool (digB p)) := fun w1 _ => by
 obtain ⟨k, h⟩ := ev_some (isDigit_ev p h0)
 exact (impl_isDigit.calls k p _ w1 h).mono fun _ _ h => ⟨h.1, drawn_bl h.2⟩
def IdxOut (l : List Int) (w : World) (e : Ending) (w' : World) : Prop := ∃ r : Int, e = .returned (.int .i64 r) ∧ decide (r ≥ 0) = l.any digB ∧ Below w.heap.size w w'
set_option maxHeartbeats 4000000 in
theorem idxf_calls (A : Option Addr) (c : Nat) (l : List Int) (w : World) (hC : Kd.C (Kd.int .i64) w A l.length l) (hc : l.length ≤ c) (hl : l.length ≤ 1099511627776) (h0 : ∀ p ∈ l, 0 ≤ p) :
  Calls Tryz.prog 78 #[.slice A l.length c, .func (.func 45) #[] #[]] w fun e w' => IdxOut l w e w' := by
 have HC := zaa.mk hC; have HL := zaa.mk hl; have H0 := zaa.mk h0
 have eg : ∀ args w, (callFunc 45 args).run Tryz.prog w = .ok (.enter 45 args) w := fun args w => enters_ Tryz.func45 yq9 rfl args w
 clear hC hc hl h0
 go_enter Tryz.func78, Tryz.ntmps78
 go_wp2
 go_loopg [8] (l.length + 1) (fun gk v8 wr => ∃ i : Nat, v8 = .int .i64 (i : Int) ∧ zaa (i ≤ l.length ∧ l.length - i + 1 ≤ gk) ∧ zaa (l.any digB = (l.drop i).any digB) ∧ zaa (Below w.heap.size w wr))
 case atStart => exact ⟨0, rfl, ⟨Nat.zero_le _, Nat.le_refl _⟩, ⟨rfl⟩, ⟨Below.refl _ _⟩⟩
 case round =>
  obtain ⟨i, rfl, HK, HA, HB⟩ := hrel
  cases gk with
  | zero => exact absurd HK.out.2 yq12
  | succ fu =>
   by_cases hi : i < l.length
   ·have q0 : (i : Int) < (l.length : Int) := by omega
    have p0 : (0 : Int) ≤ (i : Int) := Int.natCast_nonneg i
    obtain ⟨ad, e5, hx⟩ := Kd.at_int HC.out (i : Int) p0 q0
    cases e5
    replace hx := (HB.out.cell (World.block_lt_of_cell? w _ hx)).trans hx
    rw [rd_get hi, Int.toNat_natCast] at hx
    have hm := H0.out _ (List.getElem_mem hi)
    have h9 := HA.out
    rw [List.drop_eq_getElem_cons hi, List.any_cons] at h9
    have hw := w_succ i (yq24 HL.out)
    replace hi := zaa.mk hi
    generalize l[i]'hi.out = n at *
    have CD := zaa.mk (cw_digit (w := w) n hm)
    have H9 := zaa.mk h9
    replace p0 := eq_true p0
    replace q0 := eq_true q0
    clear h9 hm HA
    cases hq : digB n with
    | true =>
     have CD1 : zaa (CW w 45 #[.int .i64 n] (.bool true)) := hq ▸ CD
     clear CD
     go_wp2_with (go_at_fn 45; (with_reducible refine (CW.go CD1.out HB.out).mono ?_); rintro e wn ⟨rfl, hb⟩; have HB2 := zaa.mk (zao HB.out hb); clear hb)
     go_ret
     exact ⟨_, rfl, by rw [H9.out, hq]; exact decide_eq_true yq12, HB2.out⟩
    | false =>
     have CD1 : zaa (CW w 45 #[.int .i64 n] (.bool false)) := hq ▸ CD
     have HN : zaa (l.any digB = (l.drop (i + 1)).any digB) := ⟨by rw [H9.out, hq, Bool.false_or]⟩
     clear CD H9
     go_wp2_with (go_at_fn 45; (with_reducible refine (CW.go CD1.out HB.out).mono ?_); rintro e wn ⟨rfl, hb⟩; have HB2 := zaa.mk (zao HB.out hb); clear hb)
     go_roundg fu
     case measure => have := HK.out; omega
     case rel => exact ⟨i + 1, by rw [hw], ⟨yq24 hi.out, yq27 HK.out hi.out⟩, HN, HB2⟩
   have q0 : ((i : Int) < (l.length : Int)) = False := eq_false yq12
   have h9 := HA.out
   rw [List.drop_eq_nil_of_le yq12] at h9
   have H9 := zaa.mk h9
   replace hi := eq_false hi
   clear h9 HA
   go_wp2
   go_ret
   exact ⟨_, rfl, by rw [H9.out]; rfl, HB.out⟩
set_option maxHeartbeats 4000000 in
theorem contf_calls (A : Option Addr) (c : Nat) (l : List Int) (w : World) (hC : Kd.C (Kd.int .i64) w A l.length l) (hc : l.length ≤ c) (hl : l.length ≤ 1099511627776) (h0 : ∀ p ∈ l, 0 ≤ p) :
  Calls Tryz.prog 44 #[.slice A l.length c, .func (.func 45) #[] #[]] w fun e w' => e = .returned (.bool (l.any digB)) ∧ Below w.heap.size w w' := by
 have HI := zaa.mk (idxf_calls A c l w hC hc hl h0)
 clear hC hc hl h0
 go_enter Tryz.func44, Tryz.ntmps44
 go_wp2_with (go_at_call 78; (with_reducible refine HI.out.mono ?_); rintro e wn ⟨r, rfl, hr, hb⟩; have HR := zaa.mk hr; have HB := zaa.mk hb; clear hr hb)
 go_ret
 exact ⟨by rw [← HR.out]; rfl, HB.out⟩
def nthSeq : Code → Nat → Code
 | .seq a _, 0 => a
 | .seq _ b, n + 1 => nthSeq b n
 | c, _ => c
def tailSeq : Code → Nat → Code
 | c, 0 => c
 | .seq _ b, n + 1 => tailSeq b n
 | c, _ => c
noncomputable def lfCode (k : Nat) : Code := nthSeq (Tryz.f11.body.getD .skip) k
noncomputable def lfTail (k : Nat) : Code := tailSeq (Tryz.f11.body.getD .skip) k
theorem small_parts' {a0 a1 a2 a3 a4 : ByteArray} {l5 : List Int} {l7 : List S58} {a8 a9 a10 a11 : ByteArray} {l12 l13 : List ByteArray} {a14 : ByteArray} (h : smallLoc a0 a1 a2 a3 a4 l5 l7 a8 a9 a10 a11 l12 l13 a14 = true) :
  (smallT a0 = true ∧ smallT a1 = true ∧ smallT a2 = true ∧ smallT a3 = true ∧ smallT a4 = true ∧ smallT a8 = true ∧ smallT a9 = true ∧ smallT a10 = true ∧ smallT a11 = true ∧ smallT a14 = true) ∧ l5.length ≤ 1073741824 ∧ l7.length ≤ 1073741824 ∧ l7.all (fun p => smallT p.f0 && smallT p.f1) = true ∧ l12.length ≤ 1073741824 ∧ l12.all smallT = true ∧ l13.length ≤ 1073741824 ∧ l13.all smallT = true := by
 unfold smallLoc at h
 simp only [List.all_cons, List.all_nil, Bool.and_true, Bool.and_eq_true, decide_eq_true_eq] at h
 obtain ⟨⟨⟨⟨⟨⟨⟨h0, h1⟩, h2⟩, h3⟩, h4⟩, h5⟩, h6⟩, h7⟩ := h
 exact ⟨h0, h1, h2, by simpa only [Bool.and_eq_true] using h3, h4, h5, h6, h7⟩
theorem grown_bl {a c : World} (h : a.grownBy c none) : Below a.heap.size a c := ⟨h.os, h.tape, h.output, h.size, fun i hi => h.block i hi yq26⟩
def PtsOut (s : ByteArray) (w : World) (e : Ending) (w' : World) : Prop := ∃ (A : Option Addr) (c : Nat), e = .returned (.slice A (pts s).length c) ∧ Kd.C (Kd.int .i64) w' A (pts s).length (pts s) ∧ (pts s).length ≤ c ∧ Below w.heap.size w w'
theorem pts_calls (s : ByteArray) (hs : smallT s = true) (w : World) (hG : GT w) : Calls Tryz.prog 42 #[.string s] w fun e w' => PtsOut s w e w' := by
 obtain ⟨k, h⟩ := ev_some (points_f s yq42)
 refine (impl_points.calls k s _ w hG h).mono ?_
 rintro e w' ⟨v, rfl, hR, hb⟩
 obtain ⟨A, c, e, _, _⟩ := Kd.R_reads hR
 subst e
 exact ⟨A, c, rfl, (Kd.zbb hR).2.2, (Kd.zbb hR).2.1, hb⟩
def anB (s : ByteArray) : Bool := (pts s).any digB
theorem signB_eq (s : ByteArray) : signB s = (!decide (3 < ((pts s).length : Int)) && okB s && !anB s) := by
 have e : decide ((pts s).length ≤ 3) = !decide (3 < ((pts s).length : Int)) := by
  by_cases h : (pts s).length ≤ 3
  ·rw [decide_eq_true h, decide_eq_false yq12]; rfl
  rw [decide_eq_false h, decide_eq_true yq12]; rfl
 rw [← e]; rfl
theorem contf_pts (A : Option Addr) (c : Nat) (s : ByteArray) (w : World) (hC : Kd.C (Kd.int .i64) w A (pts s).length (pts s)) (hc : (pts s).length ≤ c) (hs : smallT s = true) :
  Calls Tryz.prog 44 #[.slice A (pts s).length c, .func (.func 45) #[] #[]] w fun e w' => e = .returned (.bool (anB s)) ∧ Below w.heap.size w w' := contf_calls A c (pts s) w hC hc (by have := pts_len' s; have := of_decide_eq_true hs; omega) (fun p hp => (pts_range s 0 p hp).1)
theorem orn (b0 T x : Bool) : ((b0 || !T) || !x) = (b0 || !(T && x)) := by cases b0 <;> cases T <;> cases x <;> rfl
theorem orn' (b0 x F : Bool) : ((b0 || !x) || !F) = (b0 || !(x && F)) := orn b0 x F
theorem szB_eq (n : Int) : szB n = (!decide (n < 1) && !decide (9 < n)) := by unfold szB; rw [lt_ge, lt_ge, Bool.not_not, Bool.not_not]
theorem frame_eq (s : ByteArray) : frameB s = (nilB s || (!decide (50 < (s.size : Int)) && okB s && cnt3 s 48 == 1 && cnt3 s 49 == 1 && !decide (idx3 s 49 < idx3 s 48))) := by
 have e : decide (s.size ≤ 50) = !decide (50 < (s.size : Int)) := by
  by_cases h : s.size ≤ 50
  ·rw [decide_eq_true h, decide_eq_false yq12]; rfl
  rw [decide_eq_false h, decide_eq_true yq12]; rfl
 rw [← e]; rfl
theorem beT {c d : Int} (h : (c == d) = true) : (c = d) = True := eq_true (beq_iff_eq.1 h)
theorem beF {c d : Int} (h : (c == d) = false) : (c = d) = False := eq_false (beq_eq_false_iff_ne.1 h)
theorem take_all (p : ByteArray → Bool) (xs : List ByteArray) (i : Nat) (h : i < xs.length) : (xs.take (i + 1)).all p = ((xs.take i).all p && p xs[i]) := by
 rw [List.take_add_one, List.getElem?_eq_getElem h, List.all_append]
 simp
theorem rdS_get {l : List ByteArray} {i : Nat} (h : i < l.length) : rdOf ByteArray.empty l (i : Int) = l[i] := by simp [rdOf, h]
end Go.Proofs.YtfafjbolmeimmaaGreatDoor.P
namespace Go.Proofs.YtfafjbolmeimmaaGreatDoor.P
open Go.RowKit Go.Proofs.YtfafjbolmeimmaaGreatDoorW.PrintWords Go.Proofs.YtfafjbolmeimmaaGreatDoorW.PrintLast Go.Proofs.YtfafjbolmeimmaaGreatDoorW.PrintMore
open Go.ChangeMaps (setBlock)
set_option linter.unusedVariables false
theorem run_insert {P : Program} {w : World} {mty kt et : TypeId} {r clock : Nat} {es : Array MapEntry} (n : Int) (val : Value) (hm : P.underlying mty = some (.map kt et)) (hk : P.underlying kt = some (.int .i64)) (hb : w.heap[r]? = some (.map es clock)) (hf : Instr.findNow (.int .i64) (.int .i64 n) es.toList 0 = some none) :
  (Instr.mapUpdate mty (.map (some r)) (.int .i64 n) val).run P w = .ok () (setBlock w r (.map (es.push ⟨.int .i64 n, val, clock⟩) (clock + 1))) := by
 have hc : (Instr.checkKey false 10000 kt (.int .i64 n)).run P w = .ok () w := MapKept.run_checkKey (k := .int .i64 n) hk (by simp [MapKept.IsKey]) false 9999
 simp [Instr.mapUpdate, run_underlying hm, MapKept.run_getObj_map hb, hc, MapKept.run_findKey hk hf, MapKept.run_setObj_map _ hb, Result.andThen, setBlock]
theorem sb_at {w : World} {r : Nat} {o o' : Obj} (h : w.heap[r]? = some o) : (setBlock w r o').heap[r]? = some o' := by
 have hlt : r < w.heap.size := by
  rcases Nat.lt_or_ge r w.heap.size with h' | h'
  ·exact h'
  rw [Array.getElem?_eq_none h'] at h; cases h
 show (w.heap.setIfInBounds r o')[r]? = _
 rw [Array.getElem?_setIfInBounds_self_of_lt hlt]
theorem sb_far {w : World} {r j : Nat} {o' : Obj} (h : r ≠ j) : (setBlock w r o').heap[j]? = w.heap[j]? := by
 show (w.heap.setIfInBounds r o')[j]? = _
 rw [Array.getElem?_setIfInBounds_ne h]
theorem LS.put {w wc : World} {g r : Nat} {vs : Array Value} (h : LS w wc g vs) (o : Obj) (hr : w.heap.size ≤ r) (hg : r ≠ g) : LS w (setBlock wc r o) g vs :=
 ⟨⟨h.b.os, h.b.tape, h.b.output, by show _ ≤ (wc.heap.setIfInBounds r o).size; rw [Array.size_setIfInBounds]; exact h.b.size, fun i hi => by rw [sb_far yq12]; exact h.b.block i hi⟩, by rw [sb_far hg]; exact h.k, h.g⟩
theorem LS.lay {w wc : World} {g : Nat} {vs : Array Value} (h : LS w wc g vs) (o : Obj) : LS w (wc.alloc o) g vs := h.step ((Below.refl _ _).alloc (Nat.le_refl _) _)
theorem LS.drew1 {w wc : World} {g : Nat} {vs : Array Value} (h : LS w wc g vs) : LS w wc.drew g vs := h.step (zae (Below.refl _ _))
theorem lay_at (w : World) (o : Obj) : (w.alloc o).heap[w.heap.size]? = some o := heap_alloc_new w o
theorem lay_old {w : World} {r : Nat} {o o' : Obj} (h : w.heap[r]? = some o) : (w.alloc o').heap[r]? = some o := by
 have hlt : r < w.heap.size := by
  rcases Nat.lt_or_ge r w.heap.size with h' | h'
  ·exact h'
  rw [Array.getElem?_eq_none h'] at h; cases h
 rw [heap_alloc_old w o' hlt, h]
structure MS (wr : World) (B R : Nat) (es : Array MapEntry) (seen : Array Nat) (c0 : Nat) : Prop where
 m : wr.heap[B]? = some (.map es 2)
 i : wr.heap[R]? = some (.mapIter (some B) 2 seen c0)
 c : 2 ≤ c0
theorem MS.step {wr w' : World} {B R : Nat} {es : Array MapEntry} {seen : Array Nat} {c0 : Nat} (h : MS wr B R es seen c0) (hb : Below wr.heap.size wr w') : MS w' B R es seen c0 := ⟨zaP h.m hb, zaP h.i hb, h.c⟩
def ent (n : Int) (v : Value) (k : Nat) : MapEntry := ⟨.int .i64 n, v, k⟩
def restB (p0 p1 : Bool) (seen : Array Nat) : Bool := (seen.contains 0 || p0) && (seen.contains 1 || p1)
theorem rest_end {v0 v1 : Value} {p0 p1 : Bool} {seen : Array Nat} (h : (leftOf #[ent 13 v0 0, ent 7 v1 1] seen).size = 0) : restB p0 p1 seen = true := by
 have he : leftOf #[ent 13 v0 0, ent 7 v1 1] seen = #[] := Array.eq_empty_of_size_eq_zero h
 unfold leftOf at he
 rw [Array.filter_eq_empty_iff] at he
 have h0 := he (ent 13 v0 0) yq26
 have h1 := he (ent 7 v1 1) yq26
 unfold restB
 simp only [ent, Bool.not_eq_true, Bool.not_eq_false'] at h0 h1
 rw [h0, h1]
 rfl
theorem rest_step {v0 v1 : Value} {p0 p1 : Bool} {seen : Array Nat} {e : MapEntry} (he : e ∈ (leftOf #[ent 13 v0 0, ent 7 v1 1] seen).toList) :
  (e = ent 13 v0 0 ∧ restB p0 p1 seen = (p0 && restB p0 p1 (seen.push e.born))) ∨ (e = ent 7 v1 1 ∧ restB p0 p1 seen = (p1 && restB p0 p1 (seen.push e.born))) := by
 obtain ⟨hm, hs⟩ := mem_left he
 rcases (by simpa using hm : e = ent 13 v0 0 ∨ e = ent 7 v1 1) with rfl | rfl
 ·refine .inl ⟨rfl, ?_⟩
  have h : seen.contains 0 = false := hs
  show ((seen.contains 0 || p0) && (seen.contains 1 || p1)) = (p0 && (((seen.push 0).contains 0 || p0) && ((seen.push 0).contains 1 || p1)))
  rw [contains_push, contains_push, h]
  cases p0 <;> simp
 refine .inr ⟨rfl, ?_⟩
 have h : seen.contains 1 = false := hs
 show ((seen.contains 0 || p0) && (seen.contains 1 || p1)) = (p1 && (((seen.push 1).contains 0 || p0) && ((seen.push 1).contains 1 || p1)))
 rw [contains_push, contains_push, h]
 cases p1 <;> simp
theorem ents_old (v0 v1 : Value) : ∀ x ∈ (#[ent 13 v0 0, ent 7 v1 1] : Array MapEntry).toList, x.born < 2 := by
 intro x hx
 rcases (by simpa using hx : x = ent 13 v0 0 ∨ x = ent 7 v1 1) with rfl | rfl
 ·exact (by decide : 0 < 2)
 exact (by decide : 1 < 2)
theorem ents_nodup (v0 v1 : Value) : ((#[ent 13 v0 0, ent 7 v1 1] : Array MapEntry).toList.map (·.born)).Nodup := by
 show [0, 1].Nodup
 decide
theorem left_start (v0 v1 : Value) : (leftOf #[ent 13 v0 0, ent 7 v1 1] #[]).size + 1 ≤ 3 := by
 unfold leftOf
 have := Array.size_filter_le (p := fun e : MapEntry => !(#[] : Array Nat).contains e.born) (xs := #[ent 13 v0 0, ent 7 v1 1])
 have h2 : (#[ent 13 v0 0, ent 7 v1 1] : Array MapEntry).size = 2 := rfl
 omega
theorem rest_start (p0 p1 : Bool) : restB p0 p1 #[] = (p0 && p1) := by unfold restB; simp
theorem labB_eq (s : ByteArray) : labB s = (okB s && !decide ((s.size : Int) < 1) && !decide (30 < (s.size : Int))) := by
 have e1 : decide (1 ≤ s.size) = !decide ((s.size : Int) < 1) := by
  by_cases h : 1 ≤ s.size
  ·rw [decide_eq_true h, decide_eq_false yq12]; rfl
  rw [decide_eq_false h, decide_eq_true yq12]; rfl
 have e2 : decide (s.size ≤ 30) = !decide (30 < (s.size : Int)) := by
  by_cases h : s.size ≤ 30
  ·rw [decide_eq_true h, decide_eq_false yq12]; rfl
  rw [decide_eq_false h, decide_eq_true yq12]; rfl
 unfold labB
 rw [e1, e2]
 cases okB s <;> simp
theorem labels_eq (l : List ByteArray) (n : Int) : ((decide (l.length = 0) || decide ((l.length : Int) = n)) && l.all labB) = labelsB l n := by
 unfold labelsB
 rw [Bool.and_comm]
end Go.Proofs.YtfafjbolmeimmaaGreatDoor.P
namespace Go.Proofs.YtfafjbolmeimmaaGreatDoor.P
open Go.RowKit Go.Proofs.YtfafjbolmeimmaaGreatDoorW.PrintWords Go.Proofs.YtfafjbolmeimmaaGreatDoorW.PrintLast Go.Proofs.YtfafjbolmeimmaaGreatDoorW.PrintMore
set_option linter.unusedVariables false
set_option linter.unusedSimpArgs false
variable {a0_0 a0_1 a0_2 a0_3 a0_4 : ByteArray} {A0_5 : Option Addr} {c0_5 : Nat} {l0_5 : List Int} {a0_6 : Int} {A0_7 : Option Addr} {c0_7 : Nat} {l0_7 : List S58} {a0_8 a0_9 a0_10 a0_11 : ByteArray} {A0_12 : Option Addr} {c0_12 : Nat} {l0_12 : List ByteArray} {A0_13 : Option Addr} {c0_13 : Nat} {l0_13 : List ByteArray} {a0_14 : ByteArray} {w wc : World} {gb : Nat}
noncomputable def lgCode (k : Nat) : Code := nthSeq (Tryz.f9.body.getD .skip) k
set_option maxHeartbeats 8000000 in
set_option maxRecDepth 1000000 in
theorem lg_0 {x1 x2 x3 x4 x5 x6 x7 x8 x9 x10 x11 x12 x13 x14 x15 x16 x17 x18 x19 x20 x21 x22 x23 x24 x25 x26 x27 x28 x29 x30 x31 x32 x33 x34 x35 x36 x37 x38 x39 x40 x41 x42 x43 x44 x45 x46 x47 x48 x49 x50 x51 x52 x53 x54 x55 x56 x57 x58 x59 x60 x61 x62 x63 x64 x65 x66 x67 x68 x69 x70 x71 x72 x73 x74 x75 x76 x77 x78 x79 x80 x81 x82 x83 x84 x85 x86 x87 x88 x89 x90 x91 x92 x93 x94 x95 x96 x97 x98 x99 x100 x101 x102 x103 x104 x105 x106 x107 x108 x109 x110 x111 x112 x113 x114 x115 x116 x117 x118 x119 x120 x121 x122 x123 x124 x125 x126 x127 x128 x129 x130 x131 x132 x133 x134 x135 x136 x137 x138 x139 x140 x141 x142 x143 x144 x145 x146 x147 x148 x149 x150 x151 x152 x153 x154 x155 x156 x157 x158 x159 x160 x161 x162 x163 x164 x165 x166 x167 x168 x169 x170 x171 x172 x173 x174 x175 x176 x177 x178 x179 x180 x181 x182 x183 x184 x185 x186 : Value} (Q : Exit → Act → World → Prop)
  (hQ : ∀ ⦃gb : Nat⦄ ⦃y3 y4 y5 y6 y7 y8 y9 y10 y11 y12 y13 y14 y15 y16 y17 y18 y19 y20 y21 y22 y23 y24 y25 y26 y27 y28 y29 y30 y31 y32 y33 y34 y35 y36 y37 y38 y39 y40 y41 y42 y43 y44 y45 y46 y47 y48 y49 y50 y51 y52 y53 y54 y55 y56 y57 y58 y59 y60 y61 y62 y63 y64 y65 y66 y67 y68 y69 y70 y71 y72 y73 y74 y75 y76 y77 y78 y79 y80 y81 y82 y83 y84 y85 y86 y87 y88 y89 y90 y91 y92 y93 y94 y95 y96 y97 y98 y99 y100 y101 y102 y103 y104 y105 y106 y107 y108 y109 y110 y111 y112 y113 y114 y115 y116 y117 y118 y119 y120 y121 y122 y123 y124 y125 y126 y127 y128 y129 y130 y131 y132 y133 y134 y135 y136 y137 y138 y139 y140 y141 y142 y143 y144 y145 y146 y147 y148 y149 y150 y151 y152 y153 y154 y155 y156 y157 y158 y159 y160 y161 y162 y163 y164 y165 y166 y167 y168 y169 y170 y171 y172 y173 y174 y175 y176 y177 y178 y179 y180 y181 y182 y183 y184 y185 y186 : Value⦄ ⦃w' : World⦄, zaa (LS w w' gb (locV a0_0 a0_1 a0_2 a0_3 a0_4 (.slice A0_5 l0_5.length c0_5) a0_6 (.slice A0_7 l0_7.length c0_7) a0_8 a0_9 a0_10 a0_11 (.slice A0_12 l0_12.length c0_12) (.slice A0_13 l0_13.length c0_13) a0_14)) → Q .normal ⟨((.agg #[.string a0_0, .string a0_1, .string a0_2, .string a0_3, .string a0_4, .slice A0_5 l0_5.length c0_5, .int .i64 a0_6, .slice A0_7 l0_7.length c0_7, .string a0_8, .string a0_9, .string a0_10, .string a0_11, .slice A0_12 l0_12.length c0_12, .slice A0_13 l0_13.length c0_13, .string a0_14]) :: (.pointer (some ⟨gb, 0, none⟩)) :: (.int .i64 0) :: y3 :: y4 :: y5 :: y6 :: y7 :: y8 :: y9 :: y10 :: y11 :: y12 :: y13 :: y14 :: y15 :: y16 :: y17 :: y18 :: y19 :: y20 :: y21 :: y22 :: y23 :: y24 :: y25 :: y26 :: y27 :: y28 :: y29 :: y30 :: y31 :: y32 :: y33 :: y34 :: y35 :: y36 :: y37 :: y38 :: y39 :: y40 :: y41 :: y42 :: y43 :: y44 :: y45 :: y46 :: y47 :: y48 :: y49 :: y50 :: y51 :: y52 :: y53 :: y54 :: y55 :: y56 :: y57 :: y58 :: y59 :: y60 :: y61 :: y62 :: y63 :: y64 :: y65 :: y66 :: y67 :: y68 :: y69 :: y70 :: y71 :: y72 :: y73 :: y74 :: y75 :: y76 :: y77 :: y78 :: y79 :: y80 :: y81 :: y82 :: y83 :: y84 :: y85 :: y86 :: y87 :: y88 :: y89 :: y90 :: y91 :: y92 :: y93 :: y94 :: y95 :: y96 :: y97 :: y98 :: y99 :: y100 :: y101 :: y102 :: y103 :: y104 :: y105 :: y106 :: y107 :: y108 :: y109 :: y110 :: y111 :: y112 :: y113 :: y114 :: y115 :: y116 :: y117 :: y118 :: y119 :: y120 :: y121 :: y122 :: y123 :: y124 :: y125 :: y126 :: y127 :: y128 :: y129 :: y130 :: y131 :: y132 :: y133 :: y134 :: y135 :: y136 :: y137 :: y138 :: y139 :: y140 :: y141 :: y142 :: y143 :: y144 :: y145 :: y146 :: y147 :: y148 :: y149 :: y150 :: y151 :: y152 :: y153 :: y154 :: y155 :: y156 :: y157 :: y158 :: y159 :: y160 :: y161 :: y162 :: y163 :: y164 :: y165 :: y166 :: y167 :: y168 :: y169 :: y170 :: y171 :: y172 :: y173 :: y174 :: y175 :: y176 :: y177 :: y178 :: y179 :: y180 :: y181 :: y182 :: y183 :: y184 :: y185 :: y186 :: []).toArray, []⟩ w') :
  Code.wp Tryz.prog (lgCode 0) Q ⟨((.agg #[.string a0_0, .string a0_1, .string a0_2, .string a0_3, .string a0_4, .slice A0_5 l0_5.length c0_5, .int .i64 a0_6, .slice A0_7 l0_7.length c0_7, .string a0_8, .string a0_9, .string a0_10, .string a0_11, .slice A0_12 l0_12.length c0_12, .slice A0_13 l0_13.length c0_13, .string a0_14]) :: x1 :: x2 :: x3 :: x4 :: x5 :: x6 :: x7 :: x8 :: x9 :: x10 :: x11 :: x12 :: x13 :: x14 :: x15 :: x16 :: x17 :: x18 :: x19 :: x20 :: x21 :: x22 :: x23 :: x24 :: x25 :: x26 :: x27 :: x28 :: x29 :: x30 :: x31 :: x32 :: x33 :: x34 :: x35 :: x36 :: x37 :: x38 :: x39 :: x40 :: x41 :: x42 :: x43 :: x44 :: x45 :: x46 :: x47 :: x48 :: x49 :: x50 :: x51 :: x52 :: x53 :: x54 :: x55 :: x56 :: x57 :: x58 :: x59 :: x60 :: x61 :: x62 :: x63 :: x64 :: x65 :: x66 :: x67 :: x68 :: x69 :: x70 :: x71 :: x72 :: x73 :: x74 :: x75 :: x76 :: x77 :: x78 :: x79 :: x80 :: x81 :: x82 :: x83 :: x84 :: x85 :: x86 :: x87 :: x88 :: x89 :: x90 :: x91 :: x92 :: x93 :: x94 :: x95 :: x96 :: x97 :: x98 :: x99 :: x100 :: x101 :: x102 :: x103 :: x104 :: x105 :: x106 :: x107 :: x108 :: x109 :: x110 :: x111 :: x112 :: x113 :: x114 :: x115 :: x116 :: x117 :: x118 :: x119 :: x120 :: x121 :: x122 :: x123 :: x124 :: x125 :: x126 :: x127 :: x128 :: x129 :: x130 :: x131 :: x132 :: x133 :: x134 :: x135 :: x136 :: x137 :: x138 :: x139 :: x140 :: x141 :: x142 :: x143 :: x144 :: x145 :: x146 :: x147 :: x148 :: x149 :: x150 :: x151 :: x152 :: x153 :: x154 :: x155 :: x156 :: x157 :: x158 :: x159 :: x160 :: x161 :: x162 :: x163 :: x164 :: x165 :: x166 :: x167 :: x168 :: x169 :: x170 :: x171 :: x172 :: x173 :: x174 :: x175 :: x176 :: x177 :: x178 :: x179 :: x180 :: x181 :: x182 :: x183 :: x184 :: x185 :: x186 :: []).toArray, []⟩ w := by
 have HQ := zaa.mk hQ; clear hQ
 conv => arg 2; whnf
 go_wp2_with (first | ((with_reducible refine zaO (N := 1) rfl ?_); refine zaT ?hg (N := 1) ?hd (cs := #[.string a0_0, .string a0_1, .string a0_2, .string a0_3, .string a0_4, .slice A0_5 l0_5.length c0_5, .int .i64 a0_6, .slice A0_7 l0_7.length c0_7, .string a0_8, .string a0_9, .string a0_10, .string a0_11, .slice A0_12 l0_12.length c0_12, .slice A0_13 l0_13.length c0_13, .string a0_14]) (t := 31) ?hr ?_; (case hd => rfl); (case hg => rfl); (case hr => first | (go_simp; done) | (go_simp; rfl)); intro gb hg wb hbox hb; have L : zaa (LS w wb gb (locV a0_0 a0_1 a0_2 a0_3 a0_4 (.slice A0_5 l0_5.length c0_5) a0_6 (.slice A0_7 l0_7.length c0_7) a0_8 a0_9 a0_10 a0_11 (.slice A0_12 l0_12.length c0_12) (.slice A0_13 l0_13.length c0_13) a0_14)) := ⟨⟨zao (Below.refl _ _) hb, hbox, by rw [hg]; exact Nat.le_refl _⟩⟩; clear hb hbox hg) | fail)
 exact HQ.out L
end Go.Proofs.YtfafjbolmeimmaaGreatDoor.P
namespace Go.Proofs.YtfafjbolmeimmaaGreatDoor.P
open Go.RowKit Go.Proofs.YtfafjbolmeimmaaGreatDoorW.PrintWords Go.Proofs.YtfafjbolmeimmaaGreatDoorW.PrintLast Go.Proofs.YtfafjbolmeimmaaGreatDoorW.PrintMore
set_option linter.unusedVariables false
set_option linter.unusedSimpArgs false
variable {a0_0 a0_1 a0_2 a0_3 a0_4 : ByteArray} {A0_5 : Option Addr} {c0_5 : Nat} {l0_5 : List Int} {a0_6 : Int} {A0_7 : Option Addr} {c0_7 : Nat} {l0_7 : List S58} {a0_8 a0_9 a0_10 a0_11 : ByteArray} {A0_12 : Option Addr} {c0_12 : Nat} {l0_12 : List ByteArray} {A0_13 : Option Addr} {c0_13 : Nat} {l0_13 : List ByteArray} {a0_14 : ByteArray} {w wc : World} {gb : Nat}
set_option maxHeartbeats 8000000 in
set_option maxRecDepth 1000000 in
theorem lg_C {x2 x3 x4 x5 x6 x7 x8 x9 x10 x11 x12 x13 x14 x15 x16 x17 x18 x19 x20 x21 x22 x23 x24 x25 x26 x27 x28 x29 x30 x31 x32 x33 x34 x35 x36 x37 x38 x39 x40 x41 x42 x43 x44 x45 x46 x47 x48 x49 x50 x51 x52 x53 x54 x55 x56 x57 x58 x59 x60 x61 x62 x63 x64 x65 x66 x67 x68 x69 x70 x71 x72 x73 x74 x75 x76 x77 x78 x79 x80 x81 x82 x83 x84 x85 x86 x87 x88 x89 x90 x91 x92 x93 x94 x95 x96 x97 x98 x99 x100 x101 x102 x103 x104 x105 x106 x107 x108 x109 x110 x111 x112 x113 x114 x115 x116 x117 x118 x119 x120 x121 x122 x123 x124 x125 x126 x127 x128 x129 x130 x131 x132 x133 x134 x135 x136 x137 x138 x139 x140 x141 x142 x143 x144 x145 x146 x147 x148 x149 x150 x151 x152 x153 x154 x155 x156 x157 x158 x159 x160 x161 x162 x163 x164 x165 x166 x167 x168 x169 x170 x171 x172 x173 x174 x175 x176 x177 x178 x179 x180 x181 x182 x183 x184 x185 x186 : Value} {r : Int} (T5 : zaa (l0_5.length ≤ 1073741824)) (HR5l : zaa (Kd.C (Kd.int .i64) w A0_5 l0_5.length l0_5)) (L : zaa (LS w wc gb (locV a0_0 a0_1 a0_2 a0_3 a0_4 (.slice A0_5 l0_5.length c0_5) a0_6 (.slice A0_7 l0_7.length c0_7) a0_8 a0_9 a0_10 a0_11 (.slice A0_12 l0_12.length c0_12) (.slice A0_13 l0_13.length c0_13) a0_14)))
  (h1 : l0_5.all szB = false → r = 1) (Q : Exit → Act → World → Prop) (hR : ∀ a w', Q .ret a w' = bodyPost Tryz.prog Tryz.f9 (fun e w' => e = .returned (.int .i64 r) ∧ Below w.heap.size w w') .ret a w') (HP : zaa (∀ c a n v w, Q (.panic c) (a.put n v) w → Q (.panic c) a w))
  (hQ : ∀ ⦃y2 y3 y4 y5 y6 y7 y8 y9 y10 y11 y12 y13 y14 y15 y16 y17 y18 y19 y20 y21 y22 y23 y24 y25 y26 y27 y28 y29 y30 y31 y32 y33 y34 y35 y36 y37 y38 y39 y40 y41 y42 y43 y44 y45 y46 y47 y48 y49 y50 y51 y52 y53 y54 y55 y56 y57 y58 y59 y60 y61 y62 y63 y64 y65 y66 y67 y68 y69 y70 y71 y72 y73 y74 y75 y76 y77 y78 y79 y80 y81 y82 y83 y84 y85 y86 y87 y88 y89 y90 y91 y92 y93 y94 y95 y96 y97 y98 y99 y100 y101 y102 y103 y104 y105 y106 y107 y108 y109 y110 y111 y112 y113 y114 y115 y116 y117 y118 y119 y120 y121 y122 y123 y124 y125 y126 y127 y128 y129 y130 y131 y132 y133 y134 y135 y136 y137 y138 y139 y140 y141 y142 y143 y144 y145 y146 y147 y148 y149 y150 y151 y152 y153 y154 y155 y156 y157 y158 y159 y160 y161 y162 y163 y164 y165 y166 y167 y168 y169 y170 y171 y172 y173 y174 y175 y176 y177 y178 y179 y180 y181 y182 y183 y184 y185 y186 : Value⦄ ⦃w' : World⦄, l0_5.all szB = true → zaa (LS w w' gb (locV a0_0 a0_1 a0_2 a0_3 a0_4 (.slice A0_5 l0_5.length c0_5) a0_6 (.slice A0_7 l0_7.length c0_7) a0_8 a0_9 a0_10 a0_11 (.slice A0_12 l0_12.length c0_12) (.slice A0_13 l0_13.length c0_13) a0_14)) → Q .normal ⟨((.agg #[.string a0_0, .string a0_1, .string a0_2, .string a0_3, .string a0_4, .slice A0_5 l0_5.length c0_5, .int .i64 a0_6, .slice A0_7 l0_7.length c0_7, .string a0_8, .string a0_9, .string a0_10, .string a0_11, .slice A0_12 l0_12.length c0_12, .slice A0_13 l0_13.length c0_13, .string a0_14]) :: (.pointer (some ⟨gb, 0, none⟩)) :: y2 :: y3 :: y4 :: y5 :: y6 :: y7 :: y8 :: y9 :: y10 :: y11 :: y12 :: y13 :: y14 :: y15 :: y16 :: y17 :: y18 :: y19 :: y20 :: y21 :: y22 :: y23 :: y24 :: y25 :: y26 :: y27 :: y28 :: y29 :: y30 :: y31 :: y32 :: y33 :: y34 :: y35 :: y36 :: y37 :: y38 :: y39 :: y40 :: y41 :: y42 :: y43 :: y44 :: y45 :: y46 :: y47 :: y48 :: y49 :: y50 :: y51 :: y52 :: y53 :: y54 :: y55 :: y56 :: y57 :: y58 :: y59 :: y60 :: y61 :: y62 :: y63 :: y64 :: y65 :: y66 :: y67 :: y68 :: y69 :: y70 :: y71 :: y72 :: y73 :: y74 :: y75 :: y76 :: y77 :: y78 :: y79 :: y80 :: y81 :: y82 :: y83 :: y84 :: y85 :: y86 :: y87 :: y88 :: y89 :: y90 :: y91 :: y92 :: y93 :: y94 :: y95 :: y96 :: y97 :: y98 :: y99 :: y100 :: y101 :: y102 :: y103 :: y104 :: y105 :: y106 :: y107 :: y108 :: y109 :: y110 :: y111 :: y112 :: y113 :: y114 :: y115 :: y116 :: y117 :: y118 :: y119 :: y120 :: y121 :: y122 :: y123 :: y124 :: y125 :: y126 :: y127 :: y128 :: y129 :: y130 :: y131 :: y132 :: y133 :: y134 :: y135 :: y136 :: y137 :: y138 :: y139 :: y140 :: y141 :: y142 :: y143 :: y144 :: y145 :: y146 :: y147 :: y148 :: y149 :: y150 :: y151 :: y152 :: y153 :: y154 :: y155 :: y156 :: y157 :: y158 :: y159 :: y160 :: y161 :: y162 :: y163 :: y164 :: y165 :: y166 :: y167 :: y168 :: y169 :: y170 :: y171 :: y172 :: y173 :: y174 :: y175 :: y176 :: y177 :: y178 :: y179 :: y180 :: y181 :: y182 :: y183 :: y184 :: y185 :: y186 :: []).toArray, []⟩ w') :
  Code.wp Tryz.prog (lgCode 3) Q ⟨((.agg #[.string a0_0, .string a0_1, .string a0_2, .string a0_3, .string a0_4, .slice A0_5 l0_5.length c0_5, .int .i64 a0_6, .slice A0_7 l0_7.length c0_7, .string a0_8, .string a0_9, .string a0_10, .string a0_11, .slice A0_12 l0_12.length c0_12, .slice A0_13 l0_13.length c0_13, .string a0_14]) :: (.pointer (some ⟨gb, 0, none⟩)) :: x2 :: x3 :: x4 :: x5 :: x6 :: x7 :: x8 :: x9 :: x10 :: x11 :: x12 :: x13 :: x14 :: x15 :: x16 :: x17 :: x18 :: x19 :: x20 :: x21 :: x22 :: x23 :: x24 :: x25 :: x26 :: x27 :: x28 :: x29 :: x30 :: x31 :: x32 :: x33 :: x34 :: x35 :: x36 :: x37 :: x38 :: x39 :: x40 :: x41 :: x42 :: x43 :: x44 :: x45 :: x46 :: x47 :: x48 :: x49 :: x50 :: x51 :: x52 :: x53 :: x54 :: x55 :: x56 :: x57 :: x58 :: x59 :: x60 :: x61 :: x62 :: x63 :: x64 :: x65 :: x66 :: x67 :: x68 :: x69 :: x70 :: x71 :: x72 :: x73 :: x74 :: x75 :: x76 :: x77 :: x78 :: x79 :: x80 :: x81 :: x82 :: x83 :: x84 :: x85 :: x86 :: x87 :: x88 :: x89 :: x90 :: x91 :: x92 :: x93 :: x94 :: x95 :: x96 :: x97 :: x98 :: x99 :: x100 :: x101 :: x102 :: x103 :: x104 :: x105 :: x106 :: x107 :: x108 :: x109 :: x110 :: x111 :: x112 :: x113 :: x114 :: x115 :: x116 :: x117 :: x118 :: x119 :: x120 :: x121 :: x122 :: x123 :: x124 :: x125 :: x126 :: x127 :: x128 :: x129 :: x130 :: x131 :: x132 :: x133 :: x134 :: x135 :: x136 :: x137 :: x138 :: x139 :: x140 :: x141 :: x142 :: x143 :: x144 :: x145 :: x146 :: x147 :: x148 :: x149 :: x150 :: x151 :: x152 :: x153 :: x154 :: x155 :: x156 :: x157 :: x158 :: x159 :: x160 :: x161 :: x162 :: x163 :: x164 :: x165 :: x166 :: x167 :: x168 :: x169 :: x170 :: x171 :: x172 :: x173 :: x174 :: x175 :: x176 :: x177 :: x178 :: x179 :: x180 :: x181 :: x182 :: x183 :: x184 :: x185 :: x186 :: []).toArray, []⟩ wc := by
 have HQ := zaa.mk hQ; have HR := zaa.mk hR; have H1 := zaa.mk h1; clear hQ hR h1
 conv => arg 2; whnf
 go_wp2
 go_loopg [3] (l0_5.length + 1) (fun gk v3 wr => ∃ i : Nat, v3 = .int .i64 (i : Int) ∧ zaa (i ≤ l0_5.length ∧ l0_5.length - i + 1 ≤ gk) ∧ zaa (l0_5.all szB = (l0_5.drop i).all szB) ∧ zaa (LS w wr gb (locV a0_0 a0_1 a0_2 a0_3 a0_4 (.slice A0_5 l0_5.length c0_5) a0_6 (.slice A0_7 l0_7.length c0_7) a0_8 a0_9 a0_10 a0_11 (.slice A0_12 l0_12.length c0_12) (.slice A0_13 l0_13.length c0_13) a0_14)))
 case atStart => exact ⟨0, rfl, ⟨Nat.zero_le _, Nat.le_refl _⟩, ⟨rfl⟩, L⟩
 case round =>
  clear L
  obtain ⟨i, rfl, HK, HA, L⟩ := hrel
  cases gk with
  | zero => exact absurd HK.out.2 yq12
  | succ fu =>
   obtain ⟨k0, k1, k2, k3, k4, k5, k6, k7, k8, k9, k10, k11, k12, k13, k14⟩ := L.out.at
   by_cases hi : i < l0_5.length
   ·have q0 : (i : Int) < (l0_5.length : Int) := by omega
    have p0 : (0 : Int) ≤ (i : Int) := Int.natCast_nonneg i
    obtain ⟨ad, e5, hx⟩ := Kd.at_int HR5l.out (i : Int) p0 q0
    cases e5
    replace hx := (L.out.b.cell (World.block_lt_of_cell? w _ hx)).trans hx
    rw [rd_get hi, Int.toNat_natCast] at hx
    have h9 := HA.out
    rw [List.drop_eq_getElem_cons hi, List.all_cons, szB_eq] at h9
    have hw := w_succ i (yq24 T5.out)
    replace hi := zaa.mk hi
    generalize l0_5[i]'hi.out = n at *
    have H9 := zaa.mk h9
    replace p0 := eq_true p0
    replace q0 := eq_true q0
    clear h9 HA
    rcases fork (!decide (n < 1)) (fork (!decide (9 < n)) trivial) with g1 | ⟨g1, g2 | ⟨g2, -⟩⟩
    ·have hr1 : r = 1 := H1.out (by rw [H9.out, g1]; rfl)
     replace g1 := dbT g1
     go_wp2
     rw [HR.out]
     go_ret
     exact ⟨by rw [hr1]; rfl, L.out.b⟩
    ·have hr1 : r = 1 := H1.out (by rw [H9.out, g1, g2]; rfl)
     replace g1 := dbF g1
     replace g2 := dbT g2
     go_wp2
     rw [HR.out]
     go_ret
     exact ⟨by rw [hr1]; rfl, L.out.b⟩
    have HN : zaa (l0_5.all szB = (l0_5.drop (i + 1)).all szB) := ⟨by rw [H9.out, g1, g2]; rfl⟩
    replace g1 := dbF g1
    replace g2 := dbF g2
    clear H9
    go_wp2
    go_roundg fu
    case measure => have := HK.out; omega
    case rel => exact ⟨i + 1, yq29, ⟨yq24 hi.out, yq27 HK.out hi.out⟩, HN, L⟩
   have q0 : ((i : Int) < (l0_5.length : Int)) = False := eq_false yq12
   have HE : l0_5.all szB = true := by rw [HA.out, List.drop_eq_nil_of_le yq12]; rfl
   have HE1 := zaa.mk HE
   replace hi := eq_false hi
   clear HA HK HE
   go_wp2
   exact HQ.out HE1.out L
end Go.Proofs.YtfafjbolmeimmaaGreatDoor.P
