/- Parts of a proof: words of the print tool that this claim uses, or plain lists. -/
import Derived.Test.YtfafjbolmeimmaaGreatDoorAb
import Derived.Test.YtfafjbolmeimmaaGreatDoorF14
import Derived.Test.YtfafjbolmeimmaaGreatDoorF7
import Derived.Test.YtfafjbolmeimmaaGreatDoorF16
import Derived.Test.YtfafjbolmeimmaaGreatDoorF10
import Derived.Laws.Cover1
import Derived.Test.YtfafjbolmeimmaaGreatDoorF5
import Derived.Test.YtfafjbolmeimmaaGreatDoorJ27
import Derived.Deep.CutBlock
namespace Go.Proofs.YtfafjbolmeimmaaGreatDoor.P
open Go.RowKit Go.Proofs.YtfafjbolmeimmaaGreatDoorW.PrintWords Go.Proofs.YtfafjbolmeimmaaGreatDoorW.PrintLast Go.Proofs.YtfafjbolmeimmaaGreatDoorW.PrintMore
set_option linter.unusedVariables false
def ruleB (s : ByteArray) : Bool := pRule s.data.toList && decide (s.size ≤ 200)
def otherB (s : ByteArray) : Bool := s.toList == ([111, 116, 104, 101, 114] : List UInt8)
def plAt (l : List S58) (i : Nat) : Bool := nameB (rd_T58 l i).f0 && !otherB (rd_T58 l i).f0 && ruleB (rd_T58 l i).f1 && (decide (i = 0) || Op.bytesLess (rd_T58 l ((i - 1 : Nat) : Int)).f0.toList (rd_T58 l i).f0.toList)
def plFrom (l : List S58) (i : Nat) : Bool := (List.range' i (l.length - i)).all (plAt l)
theorem plFrom_lt {l : List S58} {i : Nat} (h : i < l.length) : plFrom l i = (plAt l i && plFrom l (i + 1)) := by
 unfold plFrom
 obtain ⟨n, hn⟩ : ∃ n, l.length - i = n + 1 := ⟨l.length - i - 1, yq9⟩
 rw [hn, show l.length - (i + 1) = n by omega, List.range'_succ, List.all_cons]
theorem plFrom_ge {l : List S58} {i : Nat} (h : ¬ i < l.length) : plFrom l i = true := by
 unfold plFrom
 rw [show l.length - i = 0 by omega]
 rfl
def szB (n : Int) : Bool := decide (1 ≤ n) && decide (n ≤ 9)
def loc1 (a0 a1 : ByteArray) (l5 : List Int) (a6 : Int) (l7 : List S58) : Bool := nameB a0 && (nilB a1 || nameB a1) && !decide (a6 < -1) && !decide (6 < a6) && !decide (3 < (l5.length : Int)) && !decide (6 < (l7.length : Int))
def okLoc (a0 a1 a2 a3 a4 : ByteArray) (l5 : List Int) (a6 : Int) (l7 : List S58) (a8 a9 a10 a11 : ByteArray) (l12 l13 : List ByteArray) (a14 : ByteArray) : Bool :=
 loc1 a0 a1 l5 a6 l7 && [a2, a3, a4].all signB && (apartB a2 a4 && apartB a2 a3) && l5.all szB && plFrom l7 0 && [a8, a9, a10, a11].all frameB && (labelsB l12 13 && labelsB l13 7) && (!decide (50 < (a14.size : Int)) && okB a14)
def smallT (s : ByteArray) : Bool := decide (s.size ≤ 1073741824)
def smallLoc (a0 a1 a2 a3 a4 : ByteArray) (l5 : List Int) (l7 : List S58) (a8 a9 a10 a11 : ByteArray) (l12 l13 : List ByteArray) (a14 : ByteArray) : Bool :=
 [a0, a1, a2, a3, a4, a8, a9, a10, a11, a14].all smallT && decide (l5.length ≤ 1073741824) && decide (l7.length ≤ 1073741824) && l7.all (fun p => smallT p.f0 && smallT p.f1) && decide (l12.length ≤ 1073741824) && l12.all smallT && decide (l13.length ≤ 1073741824) && l13.all smallT
theorem ev_some {α : Type} {g : Nat → Option α} {r : α} (h : Ev g r) : ∃ k, g k = some r := by
 obtain ⟨k, h⟩ := h
 exact ⟨k, h k (Nat.le_refl _)⟩
variable {w : World}
theorem cw_sName (s : ByteArray) (hs : smallT s = true) : CW w 32 #[.string s] (.bool (nameB s)) := fun w1 _ => by
 obtain ⟨k, h⟩ := ev_some (sName_ev s yq42)
 exact (zaC.calls k s _ w1 h).mono fun _ _ h => ⟨h.1, drawn_bl h.2⟩
theorem cw_name (s : ByteArray) (hs : smallT s = true) : CW w 41 #[.string s] (.bool (nameB s)) := fun w1 _ => by
 obtain ⟨k, h⟩ := ev_some (isName_ev s yq42)
 exact (zbi.calls k s _ w1 h).mono fun _ _ h => ⟨h.1, drawn_bl h.2⟩
theorem cw_sign (s : ByteArray) (hs : smallT s = true) : CW w 33 #[.string s] (.bool (signB s)) := fun w1 _ => by
 obtain ⟨k, h⟩ := ev_some (sign_ev s yq42)
 exact zbp.calls k s _ w1 h
theorem cw_apart (a b : ByteArray) : CW w 34 #[.string a, .string b] (.bool (apartB a b)) := fun w1 _ =>
 (spec_l17Apart.calls a b _ w1 (apart_f a b)).mono fun _ _ h => ⟨h.1, drawn_bl h.2⟩
theorem cw_begins (a b : ByteArray) : CW w 46 #[.string a, .string b] (.bool (begB a b)) := fun w1 _ =>
 (impl_begins.calls a b _ w1 (begins_f a b)).mono fun _ _ h => ⟨h.1, drawn_bl h.2⟩
theorem cw_frame (s : ByteArray) (hs : smallT s = true) : CW w 35 #[.string s] (.bool (frameB s)) := fun w1 _ => by
 obtain ⟨k, h⟩ := ev_some (frame_ev s yq42)
 exact spec_l17Frame.calls k s _ w1 h
theorem cw_swell (s : ByteArray) (hs : smallT s = true) : CW w 37 #[.string s] (.bool (okB s)) := fun w1 _ => by
 obtain ⟨k, h⟩ := ev_some (swell_ev s yq42)
 exact zaX.calls k s _ w1 h
theorem cw_well (s : ByteArray) (hs : smallT s = true) (hG : GT w) : CW w 43 #[.string s] (.bool (okB s)) := fun w1 hb =>
 impl_well.calls s _ w1 (GT_below hG hb) (well_f s yq42)
theorem cw_rule (s : ByteArray) (hs : smallT s = true) (hG : GT w) : CW w 47 #[.string s] (.int .i64 (if ruleB s = true then 0 else 1)) := fun w1 hb => by
 refine impl_RuleFault.calls s _ w1 (GT_below hG hb) ?_
 have := of_decide_eq_true hs
 unfold impl_RuleFault.f
 rw [if_pos yq9]
 have hl : s.data.toList.length = s.size := by rw [Array.length_toList]; rfl
 have e3 : (whenI s.data.toList).isSome = ruleB s := by
  unfold ruleB
  by_cases h2 : s.size ≤ 200
  ·rw [when_rule _ yq9, decide_eq_true h2, Bool.and_true]
  rw [decide_eq_false h2, Bool.and_false]
  unfold whenI
  rw [if_pos yq9]
  rfl
 rw [e3]
theorem cw_sRule (s : ByteArray) (hs : smallT s = true) : CW w 38 #[.string s] (.int .i64 (if ruleB s = true then 0 else 1)) := fun w1 _ => by
 refine spec_RuleFault.calls s _ w1 ?_
 have := of_decide_eq_true hs
 unfold spec_RuleFault.f
 rw [if_pos yq9]
 rfl
theorem cw_labels (A : Option Addr) (c : Nat) (l : List ByteArray) (n : Int) (hl : l.length ≤ 1073741824) (hs : l.all smallT = true) (hC : Kd.C Kd.string w A l.length l) (hc : l.length ≤ c) : CW w 36 #[.slice A l.length c, .int .i64 n] (.bool (labelsB l n)) := fun w1 hb => by
 obtain ⟨k, h⟩ := ev_some (labels_ev l n yq9 (fun s h => by have := of_decide_eq_true (List.all_eq_true.1 hs s h); omega))
 exact zbd.calls k A c l n _ w1 (Kd.zaS hC hb) hc h
theorem cw_index (s : ByteArray) (x : UInt8) (hs : smallT s = true) (hG : GT w) : CW w 48 #[.string s, .string (sub3 x)] (.int .i64 (idx3 s x)) := fun w1 hb => by
 obtain ⟨m, hm⟩ := (GT_below hG hb).maxLen
 exact (Tryz.strings_Index s (sub3 x) m w1 yq42 hm).mono fun _ _ h => ⟨h.1, h.2 ▸ Below.refl _ _⟩
theorem cw_count (s : ByteArray) (x : UInt8) (hs : smallT s = true) (hG : GT w) : CW w 49 #[.string s, .string (sub3 x)] (.int .i64 (cnt3 s x)) := fun w1 hb => by
 obtain ⟨m, hm⟩ := (GT_below hG hb).maxLen
 exact (Tryz.strings_Count s (sub3 x) m w1 yq42 hm (by show 2 ≤ 3; omega)).mono fun _ _ h => ⟨h.1, h.2 ▸ Below.refl _ _⟩
theorem fork (b : Bool) {P : Prop} (h : P) : b = false ∨ (b = true ∧ P) := by cases b <;> simp [h]
theorem fork2 (b : Bool) {P Q : Prop} (h : P) (h' : Q) : (b = true ∧ P) ∨ (b = false ∧ Q) := by cases b <;> simp [h, h']
theorem lt_ge (n m : Int) : decide (n < m) = !decide (m ≤ n) := by
 by_cases h : m ≤ n
 ·rw [decide_eq_true h]; exact decide_eq_false yq9
 rw [decide_eq_false h]; exact decide_eq_true yq9
theorem dbF {p : Prop} [Decidable p] (h : (!decide p) = true) : p = False := by simpa using h
theorem dbT {p : Prop} [Decidable p] (h : (!decide p) = false) : p = True := by simpa using h
theorem rd_get {l : List Int} {i : Nat} (h : i < l.length) : rd l (i : Int) = l[i] := by simp [rd, h]
def locV (a0 a1 a2 a3 a4 : ByteArray) (v5 : Value) (a6 : Int) (v7 : Value) (a8 a9 a10 a11 : ByteArray) (v12 v13 : Value) (a14 : ByteArray) : Array Value := #[.string a0, .string a1, .string a2, .string a3, .string a4, v5, .int .i64 a6, v7, .string a8, .string a9, .string a10, .string a11, v12, v13, .string a14]
structure LS (w wc : World) (g : Nat) (vs : Array Value) : Prop where
 b : Below w.heap.size w wc
 k : wc.heap[g]? = some (.cells vs 31 (0, 0))
 g : w.heap.size ≤ g
theorem LS.step {wc w' : World} {g : Nat} {vs : Array Value} (h : LS w wc g vs) (hb : Below wc.heap.size wc w') : LS w w' g vs := ⟨zam h.b hb, zbg h.k hb, h.g⟩
theorem LS.at {wc : World} {g : Nat} {a0 a1 a2 a3 a4 : ByteArray} {v5 : Value} {a6 : Int} {v7 : Value} {a8 a9 a10 a11 : ByteArray} {v12 v13 : Value} {a14 : ByteArray} (h : LS w wc g (locV a0 a1 a2 a3 a4 v5 a6 v7 a8 a9 a10 a11 v12 v13 a14)) :
  wc.cell? ⟨g, 0, none⟩ = some (.string a0) ∧ wc.cell? ⟨g, 1, none⟩ = some (.string a1) ∧ wc.cell? ⟨g, 2, none⟩ = some (.string a2) ∧ wc.cell? ⟨g, 3, none⟩ = some (.string a3) ∧ wc.cell? ⟨g, 4, none⟩ = some (.string a4) ∧ wc.cell? ⟨g, 5, none⟩ = some v5 ∧ wc.cell? ⟨g, 6, none⟩ = some (.int .i64 a6) ∧ wc.cell? ⟨g, 7, none⟩ = some v7 ∧ wc.cell? ⟨g, 8, none⟩ = some (.string a8) ∧ wc.cell? ⟨g, 9, none⟩ = some (.string a9) ∧ wc.cell? ⟨g, 10, none⟩ = some (.string a10) ∧ wc.cell? ⟨g, 11, none⟩ = some (.string a11) ∧ wc.cell? ⟨g, 12, none⟩ = some v12 ∧ wc.cell? ⟨g, 13, none⟩ = some v13 ∧ wc.cell? ⟨g, 14, none⟩ = some (.string a14) :=
 ⟨(zal h.k 0).trans rfl, (zal h.k 1).trans rfl, (zal h.k 2).trans rfl, (zal h.k 3).trans rfl, (zal h.k 4).trans rfl, (zal h.k 5).trans rfl, (zal h.k 6).trans rfl, (zal h.k 7).trans rfl, (zal h.k 8).trans rfl, (zal h.k 9).trans rfl, (zal h.k 10).trans rfl, (zal h.k 11).trans rfl, (zal h.k 12).trans rfl, (zal h.k 13).trans rfl, (zal h.k 14).trans rfl⟩
end Go.Proofs.YtfafjbolmeimmaaGreatDoor.P
namespace Go.Proofs.YtfafjbolmeimmaaGreatDoor.P
open Go.RowKit Go.Proofs.YtfafjbolmeimmaaGreatDoorW.PrintWords Go.Proofs.YtfafjbolmeimmaaGreatDoorW.PrintLast Go.Proofs.YtfafjbolmeimmaaGreatDoorW.PrintMore
set_option linter.unusedVariables false
structure L2 (w wc : World) (g : Nat) (vs : Array Value) (gp : Nat) (f0 f1 : ByteArray) : Prop where
 l : LS w wc g vs
 p : wc.heap[gp]? = some (.cells #[.string f0, .string f1] 58 (0, 0))
 ge : w.heap.size ≤ gp
theorem LS.boxed {w wr w2 : World} {g gp : Nat} {vs : Array Value} {x y : Value} (f0 f1 : ByteArray) (h : LS w wr g vs) (hbox : w2.heap[gp]? = some (.cells #[x, y] 58 (0, 0))) (hb : Below wr.heap.size wr w2) (hg : gp = wr.heap.size) :
  L2 w ((w2.setCell ⟨gp, 0, none⟩ (.string f0)).setCell ⟨gp, 1, none⟩ (.string f1)) g vs gp f0 f1 := by
 have h0 := h.step hb
 have hne : g ≠ gp := by have := blk_lt h.k; omega
 have hge : w.heap.size ≤ gp := by rw [hg]; exact zaq h.b
 exact ⟨⟨zai (zai h0.b hge) hge, blk_far (blk_far h0.k hne _) hne _, h.g⟩, zbb (zbb hbox 0 _ rfl) 1 _ rfl, hge⟩
theorem L2.drew {w wc : World} {g gp : Nat} {vs : Array Value} {f0 f1 : ByteArray} (h : L2 w wc g vs gp f0 f1) : L2 w wc.drew g vs gp f0 f1 := ⟨⟨zac h.l.b, zar h.l.k, h.l.g⟩, zar h.p, h.ge⟩
theorem L2.step {w wc w' : World} {g gp : Nat} {vs : Array Value} {f0 f1 : ByteArray} (h : L2 w wc g vs gp f0 f1) (hb : Below wc.heap.size wc w') : L2 w w' g vs gp f0 f1 := ⟨h.l.step hb, zbg h.p hb, h.ge⟩
theorem L2.at {w wc : World} {g gp : Nat} {f0 f1 : ByteArray} {a0 a1 a2 a3 a4 : ByteArray} {v5 : Value} {a6 : Int} {v7 : Value} {a8 a9 a10 a11 : ByteArray} {v12 v13 : Value} {a14 : ByteArray} (h : L2 w wc g (locV a0 a1 a2 a3 a4 v5 a6 v7 a8 a9 a10 a11 v12 v13 a14) gp f0 f1) :
  wc.cell? ⟨gp, 0, none⟩ = some (.string f0) ∧ wc.cell? ⟨gp, 1, none⟩ = some (.string f1) ∧ wc.cell? ⟨g, 7, none⟩ = some v7 := ⟨(zal h.p 0).trans rfl, (zal h.p 1).trans rfl, (zal h.l.k 7).trans rfl⟩
theorem L2.old {w wc : World} {g gp : Nat} {vs : Array Value} {f0 f1 : ByteArray} {p : Addr} {v : Value} (h : L2 w wc g vs gp f0 f1) (hx : w.cell? p = some v) : wc.cell? p = some v := (h.l.b.cell (World.block_lt_of_cell? w _ hx)).trans hx
theorem LS.old {w wc : World} {g : Nat} {vs : Array Value} {p : Addr} {v : Value} (h : LS w wc g vs) (hx : w.cell? p = some v) : wc.cell? p = some v := (h.b.cell (World.block_lt_of_cell? w _ hx)).trans hx
theorem rd58_small {l : List S58} {i : Nat} (h : l.all (fun p => smallT p.f0 && smallT p.f1) = true) (hi : i < l.length) : smallT (rd_T58 l (i : Int)).f0 = true ∧ smallT (rd_T58 l (i : Int)).f1 = true := by
 have e : rd_T58 l (i : Int) = l[i] := by simp [rd_T58, hi]
 rw [e]
 have := List.all_eq_true.1 h _ (List.getElem_mem hi)
 simpa only [Bool.and_eq_true] using this
end Go.Proofs.YtfafjbolmeimmaaGreatDoor.P
namespace Go.Proofs.YtfafjbolmeimmaaGreatDoor.P
open Go.RowKit Go.Proofs.YtfafjbolmeimmaaGreatDoorW.PrintWords Go.Proofs.YtfafjbolmeimmaaGreatDoorW.PrintLast Go.Proofs.YtfafjbolmeimmaaGreatDoorW.PrintMore
set_option linter.unusedVariables false
set_option linter.unusedSimpArgs false
theorem zaR.same_l (l : List ByteArray) (hl : l.length ≤ 1073741824) : ∀ (d i : Nat), l.length - i = d → i ≤ l.length → Ev (fun k => zaR.l0 k l l (i : Int)) true := by
 intro d
 induction d with
 | zero =>
  intro i hd hi
  refine Ev.step (fun k => by rw [zaR.l0]) ?_
  exact Ev.neg yq9 (Ev.now _)
 | succ d ih =>
  intro i hd hi
  refine Ev.step (fun k => by rw [zaR.l0]) ?_
  refine Ev.pos yq9 (Ev.pos yq9 (Ev.pos yq9 ?_))
  rw [w_succ i yq9]
  exact Ev.pos rfl (ih (i + 1) yq9 yq9)
theorem zaR.same (l : List ByteArray) (hl : l.length ≤ 1073741824) : Ev (fun k => zaR.f k l l) true := Ev.pos rfl (zaR.same_l l hl _ 0 rfl yq9)
theorem zbc.same_l (l : List Int) (hl : l.length ≤ 1073741824) : ∀ (d i : Nat), l.length - i = d → i ≤ l.length → Ev (fun k => zbc.l0 k l l (i : Int)) true := by
 intro d
 induction d with
 | zero =>
  intro i hd hi
  refine Ev.step (fun k => by rw [zbc.l0]) ?_
  exact Ev.neg yq9 (Ev.now _)
 | succ d ih =>
  intro i hd hi
  refine Ev.step (fun k => by rw [zbc.l0]) ?_
  refine Ev.pos yq9 (Ev.pos yq9 (Ev.pos yq9 ?_))
  rw [w_succ i yq9]
  exact Ev.pos rfl (ih (i + 1) yq9 yq9)
theorem zbc.same (l : List Int) (hl : l.length ≤ 1073741824) : Ev (fun k => zbc.f k l l) true := Ev.pos rfl (zbc.same_l l hl _ 0 rfl yq9)
theorem zaz.same_l (l : List S58) (hl : l.length ≤ 1073741824) : ∀ (d i : Nat), l.length - i = d → i ≤ l.length → Ev (fun k => zaz.l0 k l l (i : Int)) true := by
 intro d
 induction d with
 | zero =>
  intro i hd hi
  refine Ev.step (fun k => by rw [zaz.l0]) ?_
  exact Ev.neg yq9 (Ev.now _)
 | succ d ih =>
  intro i hd hi
  refine Ev.step (fun k => by rw [zaz.l0]) ?_
  refine Ev.pos yq9 (Ev.pos yq9 (Ev.pos yq9 ?_))
  rw [w_succ i yq9]
  refine Ev.bind (r := true) (Ev.done (by unfold laws_eqPluralRule.f; rw [if_pos rfl, if_pos rfl])) ?_
  exact Ev.pos rfl (ih (i + 1) yq9 yq9)
theorem zaz.same (l : List S58) (hl : l.length ≤ 1073741824) : Ev (fun k => zaz.f k l l) true := Ev.pos rfl (zaz.same_l l hl _ 0 rfl yq9)
set_option maxHeartbeats 8000000 in
set_option maxRecDepth 100000 in
theorem eqLoc_same (a0_0 : ByteArray) (a0_1 : ByteArray) (a0_2 : ByteArray) (a0_3 : ByteArray) (a0_4 : ByteArray) (A0_5 : Option Addr) (c0_5 : Nat) (l0_5 : List Int) (a0_6 : Int) (A0_7 : Option Addr) (c0_7 : Nat) (l0_7 : List S58) (a0_8 : ByteArray) (a0_9 : ByteArray) (a0_10 : ByteArray) (a0_11 : ByteArray) (A0_12 : Option Addr) (c0_12 : Nat) (l0_12 : List ByteArray) (A0_13 : Option Addr) (c0_13 : Nat) (l0_13 : List ByteArray) (a0_14 : ByteArray) (A1_5 : Option Addr) (c1_5 : Nat) (A1_7 : Option Addr) (c1_7 : Nat) (A1_12 : Option Addr) (c1_12 : Nat) (A1_13 : Option Addr) (c1_13 : Nat) (w : World) (hr0_5 : Kd.C (Kd.int .i64) w A0_5 l0_5.length l0_5) (hc0_5 : l0_5.length ≤ c0_5) (hr0_7 : Kd.C k58 w A0_7 l0_7.length l0_7) (hc0_7 : l0_7.length ≤ c0_7) (hr0_12 : Kd.C Kd.string w A0_12 l0_12.length l0_12) (hc0_12 : l0_12.length ≤ c0_12) (hr0_13 : Kd.C Kd.string w A0_13 l0_13.length l0_13) (hc0_13 : l0_13.length ≤ c0_13) (hr1_5 : Kd.C (Kd.int .i64) w A1_5 l0_5.length l0_5) (hc1_5 : l0_5.length ≤ c1_5) (hr1_7 : Kd.C k58 w A1_7 l0_7.length l0_7) (hc1_7 : l0_7.length ≤ c1_7) (hr1_12 : Kd.C Kd.string w A1_12 l0_12.length l0_12) (hc1_12 : l0_12.length ≤ c1_12) (hr1_13 : Kd.C Kd.string w A1_13 l0_13.length l0_13) (hc1_13 : l0_13.length ≤ c1_13) (n5 : l0_5.length ≤ 1073741824) (n7 : l0_7.length ≤ 1073741824) (n12 : l0_12.length ≤ 1073741824) (n13 : l0_13.length ≤ 1073741824) :
  Calls Tryz.prog 12 #[.agg #[.string a0_0, .string a0_1, .string a0_2, .string a0_3, .string a0_4, .slice A0_5 l0_5.length c0_5, .int .i64 a0_6, .slice A0_7 l0_7.length c0_7, .string a0_8, .string a0_9, .string a0_10, .string a0_11, .slice A0_12 l0_12.length c0_12, .slice A0_13 l0_13.length c0_13, .string a0_14], .agg #[.string a0_0, .string a0_1, .string a0_2, .string a0_3, .string a0_4, .slice A1_5 l0_5.length c1_5, .int .i64 a0_6, .slice A1_7 l0_7.length c1_7, .string a0_8, .string a0_9, .string a0_10, .string a0_11, .slice A1_12 l0_12.length c1_12, .slice A1_13 l0_13.length c1_13, .string a0_14]] w fun e w' => e = .returned (.bool true) ∧ Below w.heap.size w w' := by
 have E5 : zaa (CW w 50 #[.slice A0_5 l0_5.length c0_5, .slice A1_5 l0_5.length c1_5] (.bool true)) := ⟨fun w1 hb => by
  obtain ⟨k, h⟩ := ev_some (zbc.same l0_5 n5)
  exact (zbc.calls k A0_5 c0_5 l0_5 A1_5 c1_5 l0_5 true w1 (Kd.zaS hr0_5 hb) hc0_5 (Kd.zaS hr1_5 hb) hc1_5 h).mono fun _ _ h => ⟨h.1, drawn_bl h.2⟩⟩
 have E7 : zaa (CW w 51 #[.slice A0_7 l0_7.length c0_7, .slice A1_7 l0_7.length c1_7] (.bool true)) := ⟨fun w1 hb => by
  obtain ⟨k, h⟩ := ev_some (zaz.same l0_7 n7)
  exact (zaz.calls k A0_7 c0_7 l0_7 A1_7 c1_7 l0_7 true w1 (Kd.zaS hr0_7 hb) hc0_7 (Kd.zaS hr1_7 hb) hc1_7 h)⟩
 have E12 : zaa (CW w 22 #[.slice A0_12 l0_12.length c0_12, .slice A1_12 l0_12.length c1_12] (.bool true)) := ⟨fun w1 hb => by
  obtain ⟨k, h⟩ := ev_some (zaR.same l0_12 n12)
  exact (zaR.calls k A0_12 c0_12 l0_12 A1_12 c1_12 l0_12 true w1 (Kd.zaS hr0_12 hb) hc0_12 (Kd.zaS hr1_12 hb) hc1_12 h).mono fun _ _ h => ⟨h.1, drawn_bl h.2⟩⟩
 have E13 : zaa (CW w 22 #[.slice A0_13 l0_13.length c0_13, .slice A1_13 l0_13.length c1_13] (.bool true)) := ⟨fun w1 hb => by
  obtain ⟨k, h⟩ := ev_some (zaR.same l0_13 n13)
  exact (zaR.calls k A0_13 c0_13 l0_13 A1_13 c1_13 l0_13 true w1 (Kd.zaS hr0_13 hb) hc0_13 (Kd.zaS hr1_13 hb) hc1_13 h).mono fun _ _ h => ⟨h.1, drawn_bl h.2⟩⟩
 clear hr0_5 hc0_5 hr0_7 hc0_7 hr0_12 hc0_12 hr0_13 hc0_13 hr1_5 hc1_5 hr1_7 hc1_7 hr1_12 hc1_12 hr1_13 hc1_13 n5 n7 n12 n13
 go_enter Tryz.func12, Tryz.ntmps12
 go_upto_region 1 with (first | ((with_reducible refine zaU (N := 2) rfl ?_); refine zba ?hg (N := 2) ?hd (cs := #[.string a0_0, .string a0_1, .string a0_2, .string a0_3, .string a0_4, .slice A0_5 l0_5.length c0_5, .int .i64 a0_6, .slice A0_7 l0_7.length c0_7, .string a0_8, .string a0_9, .string a0_10, .string a0_11, .slice A0_12 l0_12.length c0_12, .slice A0_13 l0_13.length c0_13, .string a0_14]) (t := 31) ?hr ?_; (case hd => rfl); (case hg => rfl); (case hr => first | (go_simp; done) | (go_simp; rfl)); intro gb hg wb hbox hb; have L : zaa (LS w wb gb (locV a0_0 a0_1 a0_2 a0_3 a0_4 (.slice A0_5 l0_5.length c0_5) a0_6 (.slice A0_7 l0_7.length c0_7) a0_8 a0_9 a0_10 a0_11 (.slice A0_12 l0_12.length c0_12) (.slice A0_13 l0_13.length c0_13) a0_14)) := ⟨⟨zam (Below.refl _ _) hb, hbox, by rw [hg]; exact Nat.le_refl _⟩⟩; clear hb hbox hg) | ((with_reducible refine zaU (N := 3) rfl ?_); refine zba ?hg (N := 3) ?hd (cs := #[.string a0_0, .string a0_1, .string a0_2, .string a0_3, .string a0_4, .slice A1_5 l0_5.length c1_5, .int .i64 a0_6, .slice A1_7 l0_7.length c1_7, .string a0_8, .string a0_9, .string a0_10, .string a0_11, .slice A1_12 l0_12.length c1_12, .slice A1_13 l0_13.length c1_13, .string a0_14]) (t := 31) ?hr ?_; (case hd => rfl); (case hg => rfl); (case hr => first | (go_simp; done) | (go_simp; rfl)); intro gc hg wc hbox hb; have M : zaa (LS w wc gc (locV a0_0 a0_1 a0_2 a0_3 a0_4 (.slice A1_5 l0_5.length c1_5) a0_6 (.slice A1_7 l0_7.length c1_7) a0_8 a0_9 a0_10 a0_11 (.slice A1_12 l0_12.length c1_12) (.slice A1_13 l0_13.length c1_13) a0_14)) := ⟨⟨zam L.out.b hb, hbox, by rw [hg]; exact zaq L.out.b⟩⟩; have L1 := zaa.mk (L.out.step hb); clear L; have L := L1; clear L1 hb hbox hg) | fail)
 obtain ⟨k0, k1, k2, k3, k4, k5, k6, k7, k8, k9, k10, k11, k12, k13, k14⟩ := L.out.at
 obtain ⟨j0, j1, j2, j3, j4, j5, j6, j7, j8, j9, j10, j11, j12, j13, j14⟩ := M.out.at
 go_wp2_with (first | ((first | (go_at_call 50; with_reducible refine (CW.go E5.out L.out.b).mono ?_) | (go_at_call 51; with_reducible refine (CW.go E7.out L.out.b).mono ?_) | (go_at_call 22; with_reducible refine (CW.go E12.out L.out.b).mono ?_) | (go_at_call 22; with_reducible refine (CW.go E13.out L.out.b).mono ?_)); (rintro e wn ⟨rfl, hb⟩; have L1 := zaa.mk (L.out.step hb); have M1 := zaa.mk (M.out.step hb); clear L M hb k0 k1 k2 k3 k4 k5 k6 k7 k8 k9 k10 k11 k12 k13 k14 j0 j1 j2 j3 j4 j5 j6 j7 j8 j9 j10 j11 j12 j13 j14; have L := L1; have M := M1; clear L1 M1; obtain ⟨k0, k1, k2, k3, k4, k5, k6, k7, k8, k9, k10, k11, k12, k13, k14⟩ := L.out.at; obtain ⟨j0, j1, j2, j3, j4, j5, j6, j7, j8, j9, j10, j11, j12, j13, j14⟩ := M.out.at)) | fail)
 go_ret
 exact ⟨rfl, L.out.b⟩
def plPair (x : S58) : ByteArray × ByteArray := (x.f0, x.f1)
theorem plPair_inj {l m : List S58} (h : l.map plPair = m.map plPair) : l = m := (List.map_inj_right (fun x y e => by cases x; cases y; cases e; rfl)).1 h
def laws_eqLocale.f (a0_0 : ByteArray) (a0_1 : ByteArray) (a0_2 : ByteArray) (a0_3 : ByteArray) (a0_4 : ByteArray) (l0_5 : List Int) (a0_6 : Int) (l0_7 : List S58) (a0_8 : ByteArray) (a0_9 : ByteArray) (a0_10 : ByteArray) (a0_11 : ByteArray) (l0_12 : List ByteArray) (l0_13 : List ByteArray) (a0_14 : ByteArray) (a1_0 : ByteArray) (a1_1 : ByteArray) (a1_2 : ByteArray) (a1_3 : ByteArray) (a1_4 : ByteArray) (l1_5 : List Int) (a1_6 : Int) (l1_7 : List S58) (a1_8 : ByteArray) (a1_9 : ByteArray) (a1_10 : ByteArray) (a1_11 : ByteArray) (l1_12 : List ByteArray) (l1_13 : List ByteArray) (a1_14 : ByteArray) : Option Bool := if (a0_0 = a1_0 ∧ a0_1 = a1_1 ∧ a0_2 = a1_2 ∧ a0_3 = a1_3 ∧ a0_4 = a1_4 ∧ l0_5 = l1_5 ∧ a0_6 = a1_6 ∧ l0_7.map plPair = l1_7.map plPair ∧ a0_8 = a1_8 ∧ a0_9 = a1_9 ∧ a0_10 = a1_10 ∧ a0_11 = a1_11 ∧ l0_12 = l1_12 ∧ l0_13 = l1_13 ∧ a0_14 = a1_14) ∧ l0_5.length ≤ 1073741824 ∧ l0_7.length ≤ 1073741824 ∧ l0_12.length ≤ 1073741824 ∧ l0_13.length ≤ 1073741824 then some true else none
theorem laws_eqLocale.calls (a0_0 : ByteArray) (a0_1 : ByteArray) (a0_2 : ByteArray) (a0_3 : ByteArray) (a0_4 : ByteArray) (A0_5 : Option Addr) (c0_5 : Nat) (l0_5 : List Int) (a0_6 : Int) (A0_7 : Option Addr) (c0_7 : Nat) (l0_7 : List S58) (a0_8 : ByteArray) (a0_9 : ByteArray) (a0_10 : ByteArray) (a0_11 : ByteArray) (A0_12 : Option Addr) (c0_12 : Nat) (l0_12 : List ByteArray) (A0_13 : Option Addr) (c0_13 : Nat) (l0_13 : List ByteArray) (a0_14 : ByteArray) (a1_0 : ByteArray) (a1_1 : ByteArray) (a1_2 : ByteArray) (a1_3 : ByteArray) (a1_4 : ByteArray) (A1_5 : Option Addr) (c1_5 : Nat) (l1_5 : List Int) (a1_6 : Int) (A1_7 : Option Addr) (c1_7 : Nat) (l1_7 : List S58) (a1_8 : ByteArray) (a1_9 : ByteArray) (a1_10 : ByteArray) (a1_11 : ByteArray) (A1_12 : Option Addr) (c1_12 : Nat) (l1_12 : List ByteArray) (A1_13 : Option Addr) (c1_13 : Nat) (l1_13 : List ByteArray) (a1_14 : ByteArray) (r : Bool) (w : World) (hr0_5 : Kd.C (Kd.int .i64) w A0_5 l0_5.length l0_5) (hc0_5 : l0_5.length ≤ c0_5) (hr0_7 : Kd.C k58 w A0_7 l0_7.length l0_7) (hc0_7 : l0_7.length ≤ c0_7) (hr0_12 : Kd.C Kd.string w A0_12 l0_12.length l0_12) (hc0_12 : l0_12.length ≤ c0_12) (hr0_13 : Kd.C Kd.string w A0_13 l0_13.length l0_13) (hc0_13 : l0_13.length ≤ c0_13) (hr1_5 : Kd.C (Kd.int .i64) w A1_5 l1_5.length l1_5) (hc1_5 : l1_5.length ≤ c1_5) (hr1_7 : Kd.C k58 w A1_7 l1_7.length l1_7) (hc1_7 : l1_7.length ≤ c1_7) (hr1_12 : Kd.C Kd.string w A1_12 l1_12.length l1_12) (hc1_12 : l1_12.length ≤ c1_12) (hr1_13 : Kd.C Kd.string w A1_13 l1_13.length l1_13) (hc1_13 : l1_13.length ≤ c1_13) (h : laws_eqLocale.f a0_0 a0_1 a0_2 a0_3 a0_4 l0_5 a0_6 l0_7 a0_8 a0_9 a0_10 a0_11 l0_12 l0_13 a0_14 a1_0 a1_1 a1_2 a1_3 a1_4 l1_5 a1_6 l1_7 a1_8 a1_9 a1_10 a1_11 l1_12 l1_13 a1_14 = some r) :
  Calls Tryz.prog 12 #[.agg #[.string a0_0, .string a0_1, .string a0_2, .string a0_3, .string a0_4, .slice A0_5 l0_5.length c0_5, .int .i64 a0_6, .slice A0_7 l0_7.length c0_7, .string a0_8, .string a0_9, .string a0_10, .string a0_11, .slice A0_12 l0_12.length c0_12, .slice A0_13 l0_13.length c0_13, .string a0_14], .agg #[.string a1_0, .string a1_1, .string a1_2, .string a1_3, .string a1_4, .slice A1_5 l1_5.length c1_5, .int .i64 a1_6, .slice A1_7 l1_7.length c1_7, .string a1_8, .string a1_9, .string a1_10, .string a1_11, .slice A1_12 l1_12.length c1_12, .slice A1_13 l1_13.length c1_13, .string a1_14]] w fun e w' => e = .returned (.bool r) ∧ Below w.heap.size w w' := by
 unfold laws_eqLocale.f at h
 split at h
 ·rename_i hh
  obtain ⟨⟨g0, g1, g2, g3, g4, g5, g6, g7, g8, g9, g10, g11, g12, g13, g14⟩, n5, n7, n12, n13⟩ := hh
  replace g7 := plPair_inj g7
  subst g0 g1 g2 g3 g4 g5 g6 g7 g8 g9 g10 g11 g12 g13 g14
  cases h
  exact eqLoc_same a0_0 a0_1 a0_2 a0_3 a0_4 A0_5 c0_5 l0_5 a0_6 A0_7 c0_7 l0_7 a0_8 a0_9 a0_10 a0_11 A0_12 c0_12 l0_12 A0_13 c0_13 l0_13 a0_14 A1_5 c1_5 A1_7 c1_7 A1_12 c1_12 A1_13 c1_13 w hr0_5 hc0_5 hr0_7 hc0_7 hr0_12 hc0_12 hr0_13 hc0_13 hr1_5 hc1_5 hr1_7 hc1_7 hr1_12 hc1_12 hr1_13 hc1_13 n5 n7 n12 n13
 cases h
end Go.Proofs.YtfafjbolmeimmaaGreatDoor.P
namespace Go.Proofs.YtfafjbolmeimmaaGreatDoor.P
open Go.RowKit Go.Proofs.YtfafjbolmeimmaaGreatDoorW.PrintWords
set_option linter.unusedVariables false
def smLB (x : S31) : Bool := smallLoc x.f0 x.f1 x.f2 x.f3 x.f4 x.f5 x.f7 x.f8 x.f9 x.f10 x.f11 x.f12 x.f13 x.f14
def okLB (x : S31) : Bool := okLoc x.f0 x.f1 x.f2 x.f3 x.f4 x.f5 x.f6 x.f7 x.f8 x.f9 x.f10 x.f11 x.f12 x.f13 x.f14
def lsBad (l : List S31) (i : Nat) : Bool := !okLB (zao l (i : Int)) || (decide (0 < i) && !Op.bytesLess (zao l ((i - 1 : Nat) : Int)).f0.toList (zao l (i : Int)).f0.toList)
def lsV (l : List S31) : Int := if (l.length : Int) > 50 then 1 else if (List.range l.length).any (lsBad l) = true then 1 else 0
def lsS (l : List S31) : Bool := decide (l.length ≤ 1048576) && l.all smLB
theorem lsV_long {l : List S31} (h : (l.length : Int) > 50) : lsV l = 1 := if_pos h
theorem lsV_bad {l : List S31} {i : Nat} (hi : i < l.length) (h : lsBad l i = true) : lsV l = 1 := by
 unfold lsV
 by_cases h5 : (l.length : Int) > 50
 ·exact if_pos h5
 rw [if_neg h5]
 exact if_pos (List.any_eq_true.2 ⟨i, List.mem_range.2 hi, h⟩)
theorem lsV_good {l : List S31} (h5 : ¬ (l.length : Int) > 50) (h : ∀ j, j < l.length → lsBad l j = false) : lsV l = 0 := by
 unfold lsV
 rw [if_neg h5]
 refine if_neg (fun h2 => ?_)
 obtain ⟨j, hj, hb⟩ := List.any_eq_true.1 h2
 rw [h j (List.mem_range.1 hj)] at hb
 cases hb
theorem smL_at {l : List S31} (h : lsS l = true) {i : Nat} (hi : i < l.length) : smLB (zao l (i : Int)) = true := by
 have e : zao l (i : Int) = l[i] := by simp [zao, hi]
 rw [e]
 exact List.all_eq_true.1 (Bool.and_eq_true_iff.1 h).2 _ (List.getElem_mem hi)
theorem lsS_len {l : List S31} (h : lsS l = true) : l.length ≤ 1048576 := of_decide_eq_true (Bool.and_eq_true_iff.1 h).1
structure RowAt (w : World) (ad : Addr) (n : Nat) (y : S31) (A5 : Option Addr) (c5 : Nat) (A7 : Option Addr) (c7 : Nat) (A12 : Option Addr) (c12 : Nat) (A13 : Option Addr) (c13 : Nat) : Prop where
 x0 : w.cell? (ad.add n) = some (.string y.f0)
 x1 : w.cell? ⟨(ad.add n).block, (ad.add n).off + 1, none⟩ = some (.string y.f1)
 x2 : w.cell? ⟨(ad.add n).block, (ad.add n).off + 2, none⟩ = some (.string y.f2)
 x3 : w.cell? ⟨(ad.add n).block, (ad.add n).off + 3, none⟩ = some (.string y.f3)
 x4 : w.cell? ⟨(ad.add n).block, (ad.add n).off + 4, none⟩ = some (.string y.f4)
 x5 : w.cell? ⟨(ad.add n).block, (ad.add n).off + 5, none⟩ = some (.slice A5 y.f5.length c5)
 x6 : w.cell? ⟨(ad.add n).block, (ad.add n).off + 6, none⟩ = some (.int .i64 y.f6)
 x7 : w.cell? ⟨(ad.add n).block, (ad.add n).off + 7, none⟩ = some (.slice A7 y.f7.length c7)
 x8 : w.cell? ⟨(ad.add n).block, (ad.add n).off + 8, none⟩ = some (.string y.f8)
 x9 : w.cell? ⟨(ad.add n).block, (ad.add n).off + 9, none⟩ = some (.string y.f9)
 x10 : w.cell? ⟨(ad.add n).block, (ad.add n).off + 10, none⟩ = some (.string y.f10)
 x11 : w.cell? ⟨(ad.add n).block, (ad.add n).off + 11, none⟩ = some (.string y.f11)
 x12 : w.cell? ⟨(ad.add n).block, (ad.add n).off + 12, none⟩ = some (.slice A12 y.f12.length c12)
 x13 : w.cell? ⟨(ad.add n).block, (ad.add n).off + 13, none⟩ = some (.slice A13 y.f13.length c13)
 x14 : w.cell? ⟨(ad.add n).block, (ad.add n).off + 14, none⟩ = some (.string y.f14)
 r5 : Kd.C (Kd.int .i64) w A5 y.f5.length y.f5
 s5 : y.f5.length ≤ c5
 r7 : Kd.C k58 w A7 y.f7.length y.f7
 s7 : y.f7.length ≤ c7
 r12 : Kd.C Kd.string w A12 y.f12.length y.f12
 s12 : y.f12.length ≤ c12
 r13 : Kd.C Kd.string w A13 y.f13.length y.f13
 s13 : y.f13.length ≤ c13
theorem cell_step {w w' : World} {a : Addr} {v : Value} (hb : Below w.heap.size w w') (h : w.cell? a = some v) : w'.cell? a = some v := (hb.cell (World.block_lt_of_cell? w _ h)).trans h
theorem RowAt.step {w w' : World} {ad : Addr} {n : Nat} {y : S31} {A5 : Option Addr} {c5 : Nat} {A7 : Option Addr} {c7 : Nat} {A12 : Option Addr} {c12 : Nat} {A13 : Option Addr} {c13 : Nat} (h : RowAt w ad n y A5 c5 A7 c7 A12 c12 A13 c13) (hb : Below w.heap.size w w') : RowAt w' ad n y A5 c5 A7 c7 A12 c12 A13 c13 :=
 ⟨cell_step hb h.x0, cell_step hb h.x1, cell_step hb h.x2, cell_step hb h.x3, cell_step hb h.x4, cell_step hb h.x5, cell_step hb h.x6, cell_step hb h.x7, cell_step hb h.x8, cell_step hb h.x9, cell_step hb h.x10, cell_step hb h.x11, cell_step hb h.x12, cell_step hb h.x13, cell_step hb h.x14, Kd.zaS h.r5 hb, h.s5, Kd.zaS h.r7 hb, h.s7, Kd.zaS h.r12 hb, h.s12, Kd.zaS h.r13 hb, h.s13⟩
theorem row_at {w : World} {A : Option Addr} {l : List S31} (h : Kd.C k31 w A l.length l) (x : Int) (h0 : 0 ≤ x) (h1 : x < l.length) : ∃ ad A5 c5 A7 c7 A12 c12 A13 c13, A = some ad ∧ RowAt w ad (x.toNat * 15) (zao l x) A5 c5 A7 c7 A12 c12 A13 c13 := by
 obtain ⟨ad, A5, c5, A7, c7, A12, c12, A13, c13, e, h0, h1, h2, h3, h4, h5, h6, h7, h8, h9, h10, h11, h12, h13, h14, l5, g5, l7, g7, l12, g12, l13, g13⟩ := at_T31 h x h0 h1
 exact ⟨ad, A5, c5, A7, c7, A12, c12, A13, c13, e, ⟨h0, h1, h2, h3, h4, h5, h6, h7, h8, h9, h10, h11, h12, h13, h14, g5, l5, g7, l7, g12, l12, g13, l13⟩⟩
end Go.Proofs.YtfafjbolmeimmaaGreatDoor.P
namespace Go.Proofs.YtfafjbolmeimmaaGreatDoor.P
open Go.RowKit Go.Proofs.YtfafjbolmeimmaaGreatDoorW.PrintWords Go.Proofs.YtfafjbolmeimmaaGreatDoorW.PrintLast Go.Proofs.YtfafjbolmeimmaaGreatDoorW.PrintMore
set_option linter.unusedVariables false
set_option linter.unusedSimpArgs false
abbrev LO := S31
def atO (n : ByteArray) : List LO → Option Nat
 | [] => none
 | x :: l => if x.f0.toList = n.toList then some 0 else (atO n l).map (· + 1)
theorem atO_none {n : ByteArray} {l : List LO} (h : ∀ y, y < l.length → ¬ (zao l (y : Int)).f0.toList = n.toList) : atO n l = none := by
 induction l with
 | nil => rfl
 | cons x l ih =>
  show (if x.f0.toList = n.toList then some 0 else (atO n l).map (· + 1)) = none
  rw [if_neg (show ¬ x.f0.toList = n.toList from h 0 (Nat.succ_pos _)), ih (fun y hy => h (y + 1) (Nat.succ_lt_succ hy))]
  rfl
theorem atO_some {n : ByteArray} {l : List LO} {j : Nat} (h : ∀ y, y < j → ¬ (zao l (y : Int)).f0.toList = n.toList) (hj : j < l.length) (hh : (zao l (j : Int)).f0.toList = n.toList) : atO n l = some j := by
 induction l generalizing j with
 | nil => exact absurd hj (Nat.not_lt_zero _)
 | cons x l ih =>
  show (if x.f0.toList = n.toList then some 0 else (atO n l).map (· + 1)) = some j
  cases j with
  | zero => rw [if_pos (show x.f0.toList = n.toList from hh)]
  | succ j =>
   rw [if_neg (show ¬ x.f0.toList = n.toList from h 0 (Nat.succ_pos _)), ih (j := j) (fun y hy => h (y + 1) (Nat.succ_lt_succ hy)) (Nat.lt_of_succ_lt_succ hj) hh]
   rfl
theorem atO_lt {n : ByteArray} {l : List LO} {j : Nat} (h : atO n l = some j) : j < l.length := by
 induction l generalizing j with
 | nil => cases h
 | cons x l ih =>
  replace h : (if x.f0.toList = n.toList then some 0 else (atO n l).map (· + 1)) = some j := h
  split at h
  ·cases h; exact Nat.succ_pos _
  obtain ⟨i, hi, rfl⟩ := Option.map_eq_some_iff.1 h
  exact Nat.succ_lt_succ (ih hi)
def dshF (s : ByteArray) : Nat → Option Nat
 | 0 => none
 | k + 1 => if bt s (k : Int) = 45 then some k else dshF s k
def dsh (s : ByteArray) : Option Nat := dshF s s.size
theorem dshF_lt {s : ByteArray} {k i : Nat} (h : dshF s k = some i) : i < k := by
 induction k with
 | zero => cases h
 | succ k ih =>
  replace h : (if bt s (k : Int) = 45 then some k else dshF s k) = some i := h
  split at h
  ·cases h; exact Nat.lt_succ_self _
  exact Nat.lt_succ_of_lt (ih h)
def atI (n : ByteArray) (l : List LO) : Int := match atO n l with | none => -1 | some j => (j : Int)
theorem atI_none {n : ByteArray} {l : List LO} (h : atO n l = none) : atI n l = -1 := by unfold atI; rw [h]
theorem atI_some {n : ByteArray} {l : List LO} {j : Nat} (h : atO n l = some j) : atI n l = (j : Int) := by unfold atI; rw [h]
def dshI (s : ByteArray) : Int := match dsh s with | none => -1 | some j => (j : Int)
theorem dshI_none {s : ByteArray} (h : dsh s = none) : dshI s = -1 := by unfold dshI; rw [h]
theorem dshI_some {s : ByteArray} {j : Nat} (h : dsh s = some j) : dshI s = (j : Int) := by unfold dshI; rw [h]
set_option maxHeartbeats 4000000 in
set_option maxRecDepth 100000 in
theorem sat_calls (A0 : Option Addr) (c0 : Nat) (l : List LO) (n : ByteArray) (w : World) (hC : Kd.C k31 w A0 l.length l) (hl : l.length ≤ 1048576) :
  Calls Tryz.prog 117 #[.slice A0 l.length c0, .string n] w fun e w' => e = .returned (.int .i64 (atI n l)) ∧ Below w.heap.size w w' := by
 have HC := zaa.mk hC; have HL := zaa.mk hl; clear hC hl
 go_enter Tryz.func117, Tryz.ntmps117
 go_wp2_with (fail)
 go_loopg [5] (l.length + 1) (fun gk v3 wr => ∃ (x : Int) (j : Nat), v3 = .int .i64 x ∧ zaa (x = (j : Int) ∧ j ≤ l.length ∧ l.length + 1 ≤ gk + j ∧ ∀ y, y < j → ¬ (zao l (y : Int)).f0.toList = n.toList) ∧ zaa (Below w.heap.size w wr))
 case atStart => exact ⟨0, 0, rfl, ⟨rfl, Nat.zero_le _, Nat.le_refl _, fun y hy => absurd hy (Nat.not_lt_zero _)⟩, ⟨Below.refl _ _⟩⟩
 case round =>
  obtain ⟨x, j, rfl, HX, HB⟩ := hrel
  cases gk with
  | zero => exact absurd HX.out.2.2.1 (by have := HX.out.2.1; omega)
  | succ k1 =>
   by_cases hlt : j < l.length
   case neg =>
    have g1 : decide (x < (l.length : Int)) = false := decide_eq_false (yq27 HX.out)
    have HV := zaa.mk (atO_none (n := n) (fun y hy => HX.out.2.2.2 y yq9))
    clear hlt
    go_wp2
    go_ret
    exact ⟨by rw [atI_none HV.out]; rfl, HB.out⟩
   have g1 : decide (x < (l.length : Int)) = true := decide_eq_true (yq27 HX.out)
   have g2 : (0 ≤ x) = True := eq_true (yq27 HX.out)
   have g3 : (x < (l.length : Int)) = True := eq_true (yq27 HX.out)
   obtain ⟨ad, A5, c5, A7, c7, A12, c12, A13, c13, e, RW⟩ := row_at (Kd.zaS HC.out HB.out) x (yq27 HX.out) (yq27 HX.out)
   have q0 := RW.x0
   have HLt := zaa.mk hlt
   obtain ⟨y, hy⟩ : ∃ y, zao l x = y := ⟨_, rfl⟩
   rw [hy] at q0
   have HY := zaa.mk hy
   have hz : x.toNat = j := by have := HX.out.1; omega
   have HZ := zaa.mk hz
   cases e
   clear RW hlt hy hz
   by_cases hn : y.f0.toList = n.toList
   ·have HV : zaa (atO n l = some j) := ⟨atO_some HX.out.2.2.2 HLt.out (by rw [← HX.out.1, HY.out]; exact hn)⟩
    have e1 : (y.f0.toList == n.toList) = true := beq_iff_eq.2 hn
    go_wp2
    go_ret
    exact ⟨by rw [atI_some HV.out]; exact congrArg (fun z => Ending.returned (.int .i64 z)) HX.out.1, HB.out⟩
   have HN : zaa (¬ (zao l (j : Int)).f0.toList = n.toList) := ⟨by rw [← HX.out.1, HY.out]; exact hn⟩
   have e1 : (y.f0.toList == n.toList) = false := beq_eq_false_iff_ne.2 hn
   go_wp2
   go_roundg k1
   case measure => have := HX.out; have := HLt.out; omega
   case rel => exact ⟨_, j + 1, rfl, ⟨by rw [HX.out.1]; show wrap64 _ = _; rw [w64 yq9 (yq19 HLt.out HL.out)]; omega, HLt.out, by have := HX.out.2.2.1; omega, fun z hz => by rcases Nat.lt_succ_iff_lt_or_eq.1 hz with h1 | rfl; exact HX.out.2.2.2 z h1; exact HN.out⟩, HB⟩
def FindP (n : ByteArray) (l : List LO) (A0 : Option Addr) (v : Value) : Prop := (atO n l = none ∧ v = .pointer none) ∨ ∃ (j : Nat) (ad : Addr), atO n l = some j ∧ A0 = some ad ∧ v = .pointer (some (ad.add (j * 15)))
set_option maxHeartbeats 4000000 in
set_option maxRecDepth 100000 in
theorem fnd_calls (A0 : Option Addr) (c0 : Nat) (l : List LO) (n : ByteArray) (w : World) (hC : Kd.C k31 w A0 l.length l) (hl : l.length ≤ 1048576) :
  Calls Tryz.prog 62 #[.slice A0 l.length c0, .string n] w fun e w' => ∃ v, e = .returned v ∧ FindP n l A0 v ∧ Below w.heap.size w w' := by
 have HC := zaa.mk hC; have HL := zaa.mk hl; clear hC hl
 go_enter Tryz.func62, Tryz.ntmps62
 go_wp2_with (fail)
 go_loopg [8] (l.length + 1) (fun gk v3 wr => ∃ (x : Int) (j : Nat), v3 = .int .i64 x ∧ zaa (x = (j : Int) ∧ j ≤ l.length ∧ l.length + 1 ≤ gk + j ∧ ∀ y, y < j → ¬ (zao l (y : Int)).f0.toList = n.toList) ∧ zaa (Below w.heap.size w wr))
 case atStart => exact ⟨0, 0, rfl, ⟨rfl, Nat.zero_le _, Nat.le_refl _, fun y hy => absurd hy (Nat.not_lt_zero _)⟩, ⟨Below.refl _ _⟩⟩
 case round =>
  obtain ⟨x, j, rfl, HX, HB⟩ := hrel
  cases gk with
  | zero => exact absurd HX.out.2.2.1 (by have := HX.out.2.1; omega)
  | succ k1 =>
   by_cases hlt : j < l.length
   case neg =>
    have g1 : decide (x < (l.length : Int)) = false := decide_eq_false (yq27 HX.out)
    have HV := zaa.mk (atO_none (n := n) (fun y hy => HX.out.2.2.2 y yq9))
    clear hlt
    go_wp2
    go_ret
    exact ⟨_, rfl, .inl ⟨HV.out, rfl⟩, HB.out⟩
   have g1 : decide (x < (l.length : Int)) = true := decide_eq_true (yq27 HX.out)
   have g2 : (0 ≤ x) = True := eq_true (yq27 HX.out)
   have g3 : (x < (l.length : Int)) = True := eq_true (yq27 HX.out)
   obtain ⟨ad, A5, c5, A7, c7, A12, c12, A13, c13, e, RW⟩ := row_at (Kd.zaS HC.out HB.out) x (yq27 HX.out) (yq27 HX.out)
   have q0 := RW.x0
   have HLt := zaa.mk hlt
   obtain ⟨y, hy⟩ : ∃ y, zao l x = y := ⟨_, rfl⟩
   rw [hy] at q0
   have HY := zaa.mk hy
   have hz : x.toNat = j := by have := HX.out.1; omega
   have HZ := zaa.mk hz
   cases e
   clear RW hlt hy hz
   by_cases hn : y.f0.toList = n.toList
   ·have HV : zaa (atO n l = some j) := ⟨atO_some HX.out.2.2.2 HLt.out (by rw [← HX.out.1, HY.out]; exact hn)⟩
    have e1 : (y.f0.toList == n.toList) = true := beq_iff_eq.2 hn
    go_wp2
    go_ret
    exact ⟨_, rfl, .inr ⟨j, ad, HV.out, rfl, by rw [← HZ.out]; rfl⟩, HB.out⟩
   have HN : zaa (¬ (zao l (j : Int)).f0.toList = n.toList) := ⟨by rw [← HX.out.1, HY.out]; exact hn⟩
   have e1 : (y.f0.toList == n.toList) = false := beq_eq_false_iff_ne.2 hn
   go_wp2
   go_roundg k1
   case measure => have := HX.out; have := HLt.out; omega
   case rel => exact ⟨_, j + 1, rfl, ⟨by rw [HX.out.1]; show wrap64 _ = _; rw [w64 yq9 (yq19 HLt.out HL.out)]; omega, HLt.out, by have := HX.out.2.2.1; omega, fun z hz => by rcases Nat.lt_succ_iff_lt_or_eq.1 hz with h1 | rfl; exact HX.out.2.2.2 z h1; exact HN.out⟩, HB⟩
set_option maxHeartbeats 4000000 in
set_option maxRecDepth 100000 in
theorem lix_calls (s : ByteArray) (w : World) (hs : s.size ≤ 1099511627776) :
  Calls Tryz.prog 96 #[.string s, .int .u8 45] w fun e w' => e = .returned (.int .i64 (dshI s)) ∧ Below w.heap.size w w' := by
 have HS := zaa.mk hs; clear hs
 go_enter Tryz.func96, Tryz.ntmps96
 go_wp2_with (fail)
 go_loopg [5] (s.size + 1) (fun gk v5 wr => ∃ (x : Int) (j : Nat), v5 = .int .i64 x ∧ zaa (x + 1 = (j : Int) ∧ j ≤ s.size ∧ j + 1 ≤ gk ∧ dsh s = dshF s j) ∧ zaa (Below w.heap.size w wr))
 case atStart => exact ⟨_, s.size, rfl, ⟨by rw [w64 yq9 (yq15 HS.out)]; omega, Nat.le_refl _, Nat.le_refl _, rfl⟩, ⟨Below.refl _ _⟩⟩
 case round =>
  obtain ⟨x, j, rfl, HX, HB⟩ := hrel
  cases gk with
  | zero => exact absurd HX.out.2.2.1 yq9
  | succ k1 =>
   cases j with
   | zero =>
    have g1 : decide (0 ≤ x) = false := decide_eq_false (yq27 HX.out)
    have g2 : (0 ≤ x) = False := eq_false (yq27 HX.out)
    have HV : zaa (dsh s = none) := ⟨HX.out.2.2.2⟩
    go_wp2
    go_ret
    exact ⟨by rw [dshI_none HV.out]; rfl, HB.out⟩
   | succ j =>
    have g1 : decide (0 ≤ x) = true := decide_eq_true (yq27 HX.out)
    have g2 : (0 ≤ x) = True := eq_true (yq27 HX.out)
    have g3 : (x < (s.size : Int)) = True := eq_true (yq15 HX.out)
    have hb := bt_at s x
    have hx : x = (j : Int) := by have := HX.out.1; omega
    have HJ := zaa.mk hx; clear hx
    by_cases h45 : bt s x = 45
    ·have HV : zaa (dsh s = some j) := ⟨by rw [HX.out.2.2.2]; show (if bt s (j : Int) = 45 then some j else dshF s j) = some j; rw [← HJ.out, if_pos h45]⟩
     have e1 : (bt s x == 45) = true := beq_iff_eq.2 h45
     go_wp2
     go_ret
     exact ⟨by rw [dshI_some HV.out, ← HJ.out]; rfl, HB.out⟩
    have HN : zaa (dsh s = dshF s j) := ⟨by rw [HX.out.2.2.2]; show (if bt s (j : Int) = 45 then some j else dshF s j) = _; rw [← HJ.out, if_neg h45]⟩
    have e1 : (bt s x == 45) = false := beq_eq_false_iff_ne.2 h45
    go_wp2
    go_roundg k1
    case measure => have := HX.out; omega
    case rel => exact ⟨_, j, rfl, ⟨by have := HJ.out; have := HX.out; have := HS.out; show wrap64 _ + 1 = _; rw [w64 yq9 yq9]; omega, yq15 HX.out, yq15 HX.out, HN.out⟩, HB⟩
theorem lib_calls (s : ByteArray) (w : World) (hs : s.size ≤ 1099511627776) :
  Calls Tryz.prog 63 #[.string s, .int .u8 45] w fun e w' => e = .returned (.int .i64 (dshI s)) ∧ Below w.heap.size w w' := by
 have HI := zaa.mk (lix_calls s w hs)
 clear hs
 go_enter Tryz.func63, Tryz.ntmps63
 go_wp2_with (first | ((with_reducible refine HI.out.mono ?_); rintro e w1 ⟨rfl, hb⟩; have HB := zaa.mk hb; clear hb) | fail)
 go_ret
 exact ⟨rfl, HB.out⟩
def parO (l : List LO) (n : ByteArray) : ByteArray := match atO n l with | none => ⟨#[]⟩ | some j => (zao l (j : Int)).f1
theorem parO_none {n : ByteArray} {l : List LO} (h : atO n l = none) : parO l n = ⟨#[]⟩ := by unfold parO; rw [h]
theorem parO_some {n : ByteArray} {l : List LO} {j : Nat} (h : atO n l = some j) : parO l n = (zao l (j : Int)).f1 := by unfold parO; rw [h]
def nxt (l : List LO) (n : ByteArray) : Option ByteArray := if (parO l n).toList = ([] : List UInt8) then (dsh n).map (fun i => n.extract 0 i) else some (parO l n)
def nxtB (l : List LO) (n : ByteArray) : ByteArray := (nxt l n).getD ⟨#[]⟩
def cutB (n : ByteArray) : ByteArray := ((dsh n).map (fun i => n.extract 0 i)).getD ⟨#[]⟩
theorem nxtB_cut {l : List LO} {n : ByteArray} (h : (parO l n).toList = ([] : List UInt8)) : nxtB l n = cutB n := by unfold nxtB nxt; rw [if_pos h]; rfl
theorem nxtB_par {l : List LO} {n : ByteArray} (h : ¬ (parO l n).toList = ([] : List UInt8)) : nxtB l n = parO l n := by unfold nxtB nxt; rw [if_neg h]; rfl
set_option maxHeartbeats 4000000 in
set_option maxRecDepth 100000 in
theorem snx_calls (A0 : Option Addr) (c0 : Nat) (l : List LO) (n : ByteArray) (w : World) (hC : Kd.C k31 w A0 l.length l) (hl : l.length ≤ 1048576) (hn : 1 ≤ n.size ∧ n.size ≤ 1048576) (h0 : bt n 0 ≠ 45) :
  Calls Tryz.prog 94 #[.slice A0 l.length c0, .string n] w fun e w' => e = .returned (.string (nxtB l n)) ∧ Below w.heap.size w w' := by
 have HA : zaa (Calls Tryz.prog 117 #[.slice A0 l.length c0, .string n] w fun e w' => e = .returned (.int .i64 (atI n l)) ∧ Below w.heap.size w w') := ⟨sat_calls A0 c0 l n w hC hl⟩
 have HC := zaa.mk hC; have HN := zaa.mk hn; have H0 := zaa.mk h0; have HL := zaa.mk hl; clear hC hl hn h0
 obtain ⟨z, hz⟩ : ∃ z, atI n l = z := ⟨_, rfl⟩
 have key : (z = -1 ∧ nxtB l n = cutB n) ∨ ∃ j : Nat, z = (j : Int) ∧ j < l.length ∧ (((zao l z).f1.toList = ([] : List UInt8) ∧ nxtB l n = cutB n) ∨ (¬ (zao l z).f1.toList = ([] : List UInt8) ∧ nxtB l n = (zao l z).f1)) := by
  cases hat : atO n l with
  | none => exact .inl ⟨by rw [← hz, atI_none hat], nxtB_cut (by rw [parO_none hat]; simp)⟩
  | some j =>
   have e : z = (j : Int) := by rw [← hz, atI_some hat]
   refine .inr ⟨j, e, atO_lt hat, ?_⟩
   rw [e, ← parO_some hat]
   by_cases hp : (parO l n).toList = ([] : List UInt8)
   ·exact .inl ⟨hp, nxtB_cut hp⟩
   exact .inr ⟨hp, nxtB_par hp⟩
 rw [hz] at HA
 have HZ := zaa.mk hz; clear hz
 rcases key with ⟨rfl, hv⟩ | ⟨j, hj, hjl, ⟨hp, hv⟩ | ⟨hp, hv⟩⟩
 rotate_left 2
 ·have HV := zaa.mk hv
  have HJ := zaa.mk (And.intro hj hjl)
  obtain ⟨y, hy⟩ : ∃ y, zao l z = y := ⟨_, rfl⟩
  have HY := zaa.mk hy
  rw [hy] at hp
  have g1 : decide (0 ≤ z) = true := decide_eq_true yq9
  have g2 : (0 ≤ z) = True := eq_true yq9
  have g3 : (z < (l.length : Int)) = True := eq_true yq9
  have g4 : (y.f1.toList == ([] : List UInt8)) = false := beq_eq_false_iff_ne.2 hp
  have g5 : (y.f1.toList != ([] : List UInt8)) = true := by rw [bne, g4]; rfl
  clear hv hj hjl hy hp
  go_enter Tryz.func94, Tryz.ntmps94
  go_wp2_with (first | ((with_reducible refine HA.out.mono ?_); rintro e w1 ⟨rfl, hb⟩; have HB := zaa.mk hb; have hat := row_at (Kd.zaS HC.out hb) z (yq15 HJ.out) (yq15 HJ.out); rw [HY.out] at hat; obtain ⟨ad, A5, c5, A7, c7, A12, c12, A13, c13, e, RW⟩ := hat; have q1 := RW.x1; cases e; clear RW hb) | fail)
  go_ret
  exact ⟨by rw [HV.out, HY.out]; rfl, HB.out⟩
 have HV := zaa.mk hv; clear hv
 go_enter Tryz.func94, Tryz.ntmps94
 go_wp2_with (first | ((with_reducible refine HA.out.mono ?_); rintro e w1 ⟨rfl, hb⟩; have HB := zaa.mk hb; clear hb) | fail)
 rotate_left
 have HV := zaa.mk hv
 have HJ := zaa.mk (And.intro hj hjl)
 obtain ⟨y, hy⟩ : ∃ y, zao l z = y := ⟨_, rfl⟩
 have HY := zaa.mk hy
 rw [hy] at hp
 have g1 : decide (0 ≤ z) = true := decide_eq_true yq9
 have g2 : (0 ≤ z) = True := eq_true yq9
 have g3 : (z < (l.length : Int)) = True := eq_true yq9
 have g4 : (y.f1.toList == ([] : List UInt8)) = true := beq_iff_eq.2 hp
 have g5 : (y.f1.toList != ([] : List UInt8)) = false := by rw [bne, g4]; rfl
 clear hv hj hjl hy hp
 go_enter Tryz.func94, Tryz.ntmps94
 go_wp2_with (first | ((with_reducible refine HA.out.mono ?_); rintro e w1 ⟨rfl, hb⟩; have HB := zaa.mk hb; have hat := row_at (Kd.zaS HC.out hb) z (yq15 HJ.out) (yq15 HJ.out); rw [HY.out] at hat; obtain ⟨ad, A5, c5, A7, c7, A12, c12, A13, c13, e, RW⟩ := hat; have q1 := RW.x1; cases e; clear RW hb) | fail)
 clear q1
 all_goals
  go_loopg [6] (n.size + 1) (fun gk v6 wr => ∃ (x : Int) (j : Nat), v6 = .int .i64 x ∧ zaa (x = (j : Int) ∧ j + 1 ≤ n.size ∧ j + 1 ≤ gk ∧ dsh n = dshF n (j + 1)) ∧ zaa (Below w.heap.size w wr))
  case atStart => exact ⟨_, n.size - 1, rfl, ⟨by rw [w64 yq9 (yq15 HN.out)]; have := HN.out; omega, yq15 HN.out, yq9, by rw [show n.size - 1 + 1 = n.size by have := HN.out; omega]; rfl⟩, HB⟩
  case round =>
   clear HB
   obtain ⟨x, i, rfl, HX, HB⟩ := hrel
   cases gk with
   | zero => exact absurd HX.out.2.2.1 yq9
   | succ k1 =>
    cases i with
    | zero =>
     have hx : x = 0 := HX.out.1
     have HW : zaa (cutB n = ⟨#[]⟩) := ⟨by unfold cutB; rw [HX.out.2.2.2]; show (((if bt n ((0 : Nat) : Int) = 45 then some 0 else dshF n 0) : Option Nat).map _).getD _ = _; rw [if_neg (show ¬ bt n ((0 : Nat) : Int) = 45 from H0.out)]; rfl⟩
     subst hx
     go_wp2
     go_ret
     exact ⟨by rw [HV.out, HW.out]; rfl, HB.out⟩
    | succ i =>
     have g1 : decide (0 < x) = true := decide_eq_true (yq27 HX.out)
     have g2 : (0 ≤ x) = True := eq_true (yq27 HX.out)
     have g3 : (x < (n.size : Int)) = True := eq_true (yq15 HX.out)
     have g4 : (x ≤ (n.size : Int)) = True := eq_true (yq15 HX.out)
     have hb := bt_at n x
     have hx : x = ((i + 1 : Nat) : Int) := HX.out.1
     have HJ := zaa.mk hx; clear hx
     by_cases h45 : bt n x = 45
     ·have HW : zaa (cutB n = n.extract 0 x.toNat) := ⟨by unfold cutB; rw [HX.out.2.2.2]; show (((if bt n ((i + 1 : Nat) : Int) = 45 then some (i + 1) else dshF n (i + 1)) : Option Nat).map _).getD _ = _; rw [← HJ.out, if_pos h45, HJ.out]; rfl⟩
      have e1 : (bt n x == 45) = true := beq_iff_eq.2 h45
      go_wp2
      go_ret
      exact ⟨by rw [HV.out, HW.out]; rfl, HB.out⟩
     have HI : zaa (dsh n = dshF n (i + 1)) := ⟨by rw [HX.out.2.2.2]; show (if bt n ((i + 1 : Nat) : Int) = 45 then some (i + 1) else dshF n (i + 1)) = _; rw [← HJ.out, if_neg h45]⟩
     have e1 : (bt n x == 45) = false := beq_eq_false_iff_ne.2 h45
     go_wp2
     go_roundg k1
     case measure => have := HX.out; omega
     case rel => exact ⟨_, i, rfl, ⟨by have := HJ.out; have := HX.out; have := HN.out; show wrap64 _ = _; rw [w64 yq9 yq9]; omega, yq15 HX.out, yq15 HX.out, HI.out⟩, HB⟩
end Go.Proofs.YtfafjbolmeimmaaGreatDoor.P
