/- Parts of a proof: words of the print tool that this claim uses, or plain lists. -/
import Derived.Test.YtfafjbolmeimmaaGreatDoorAb
import Derived.Test.YtfafjbolmeimmaaGreatDoorF4
import Derived.Laws.CopyOwn
import Derived.Deep.CutBlock
import Derived.Test.YtfafjbolmeimmaaGreatDoorTie
import Derived.Lay
import Derived.SevenTiedAt
import Derived.ProofKit
import Derived.OpenShut
import Derived.ShutString
import Derived.ChangeOld
import Derived.SizedLaws
import Derived.Handed
import Derived.Stop.LaidErr
import Derived.LaidLaws
import Derived.Lib.LaidTab
import Derived.Shelf.Vars
import Derived.Lib.LaidU8T
import Derived.PinnedBridge
import Derived.SliceStrings
import Derived.Deep.Fields
import Derived.Deep.SlicePairs
import Derived.ChangeSlices
namespace Go.Proofs.YtfafjbolmeimmaaGreatDoor.P
open Go.RowKit Go.Proofs.YtfafjbolmeimmaaGreatDoorW.PrintWords Go.Proofs.YtfafjbolmeimmaaGreatDoorW.PrintLast Go.Proofs.YtfafjbolmeimmaaGreatDoorW.PrintMore
attribute [local go_sem] zbm zbn max_two min_two za9 za8 zbk zbj
set_option linter.unusedVariables false
set_option linter.unusedSimpArgs false
def zaZ.l0 : Nat → List ByteArray → Int → Int → Option (Int)
 | 0, _, _, _ => none
 | k + 1, x0, x1, x5 => if x5 < (x0.length : Int) then (if 0 ≤ x5 then (if (wrap64 (x1 - ((rdOf ByteArray.empty x0 x5).size : Int))) < 0 then (some (-1)) else (zaZ.l0 k x0 (wrap64 (x1 - ((rdOf ByteArray.empty x0 x5).size : Int))) (wrap64 (x5 + 1)))) else (none)) else (some x1)
def zaZ.f (k : Nat) (l0 : List ByteArray) (a1 : Int) : Option (Int) := if (wrap64 (a1 - (l0.length : Int))) < 0 then (some (-1)) else (zaZ.l0 k l0 (wrap64 (a1 - (l0.length : Int))) 0)
set_option maxHeartbeats 8000000 in
set_option maxRecDepth 100000 in
theorem zaZ.calls (k : Nat) (A0 : Option Addr) (c0 : Nat) (l0 : List ByteArray) (a1 : Int) (r : Int) (w : World) (hr0 : Kd.C Kd.string w A0 l0.length l0) (hc0 : l0.length ≤ c0) (h : zaZ.f k l0 a1 = some r) :
  Calls Tryz.prog 18 #[.slice A0 l0.length c0, .int .i64 a1] w fun e w' => e = .returned (.int .i64 r) ∧ zas w w' := by
 have HR0 := zaa.mk hr0; have HC0 := zaa.mk hc0; clear hr0 hc0
 have H : (if (wrap64 (a1 - (l0.length : Int))) < 0 then (some (-1)) else (zaZ.l0 k l0 (wrap64 (a1 - (l0.length : Int))) 0)) = some r := h
 clear h
 by_cases c3 : (wrap64 (a1 - (l0.length : Int))) < 0
 ·rw [if_pos c3] at H
  have c3b0 : decide ((wrap64 (a1 - (l0.length : Int))) < 0) = true := decide_eq_true c3
  clear c3; obtain rfl := Option.some.inj H
  go_enter Tryz.func18, Tryz.ntmps18
  go_wp2
  go_ret
  exact ⟨yq3, yq11⟩
 rw [if_neg c3] at H
 have c3b0 : decide ((wrap64 (a1 - (l0.length : Int))) < 0) = false := decide_eq_false c3
 clear c3; have H' := zaa.mk H; clear H
 go_enter Tryz.func18, Tryz.ntmps18
 go_wp2
 go_loopg [1, 5] k (fun kq v1 v5 w' => ∃ (x1_1 : Int) (x5_1 : Int), v1 = .int .i64 x1_1 ∧ v5 = .int .i64 x5_1 ∧ zaa (zaZ.l0 kq l0 x1_1 x5_1 = some r) ∧ zaa (kq ≤ k) ∧ zas w w')
 case atStart => exact ⟨(wrap64 (a1 - (l0.length : Int))), (0), yq3, yq3, H', ⟨Nat.le_refl _⟩, yq11⟩
 case round =>
  clear H'
  try clear c3b0
  obtain ⟨x1_1, x5_1, rfl, rfl, HA, HK1, ⟨m1, rfl⟩⟩ := hrel
  cases gk with
  | zero => exact absurd HA.out (by simp [zaZ.l0])
  | succ k1 =>
   have H := HA.out; clear HA
   simp only [zaZ.l0] at H
   by_cases c4 : x5_1 < (l0.length : Int)
   ·rw [if_pos c4] at H
    have c4b0 : decide (x5_1 < (l0.length : Int)) = true := decide_eq_true c4
    clear c4
    by_cases c5 : 0 ≤ x5_1
    ·rw [if_pos c5] at H
     have c5b0 : decide (0 ≤ x5_1) = true := decide_eq_true c5
     clear c5
     by_cases c6 : (wrap64 (x1_1 - ((rdOf ByteArray.empty l0 x5_1).size : Int))) < 0
     ·rw [if_pos c6] at H
      have c6b0 : decide ((wrap64 (x1_1 - ((rdOf ByteArray.empty l0 x5_1).size : Int))) < 0) = true := decide_eq_true c6
      clear c6; obtain rfl := Option.some.inj H
      have p101 : 0 ≤ (x5_1 : Int) := of_decide_eq_true yq1
      have q101 : x5_1 < (l0.length : Int) := of_decide_eq_true yq1
      obtain ⟨ad101, e101, hx101_0⟩ := Kd.at_string HR0.out x5_1 p101 q101
      cases e101
      replace p101 := eq_true p101
      replace q101 := eq_true q101
      go_wp2
      go_ret
      exact ⟨yq3, yq11⟩
     rw [if_neg c6] at H
     have c6b0 : decide ((wrap64 (x1_1 - ((rdOf ByteArray.empty l0 x5_1).size : Int))) < 0) = false := decide_eq_false c6
     clear c6; have H' := zaa.mk H; clear H
     have p101 : 0 ≤ (x5_1 : Int) := of_decide_eq_true yq1
     have q101 : x5_1 < (l0.length : Int) := of_decide_eq_true yq1
     obtain ⟨ad101, e101, hx101_0⟩ := Kd.at_string HR0.out x5_1 p101 q101
     cases e101
     replace p101 := eq_true p101
     replace q101 := eq_true q101
     go_wp2
     go_roundg k1
     case measure => have := HK1.out; omega
     case rel => exact ⟨(wrap64 (x1_1 - ((rdOf ByteArray.empty l0 x5_1).size : Int))), (wrap64 (x5_1 + 1)), yq3, yq3, H', ⟨yq15 HK1.out⟩, yq11⟩
    rw [if_neg c5] at H
    exact absurd H yq21
   rw [if_neg c4] at H
   have c4b0 : decide (x5_1 < (l0.length : Int)) = false := decide_eq_false c4
   clear c4; obtain rfl := Option.some.inj H
   go_wp2
   go_ret
   exact ⟨yq3, yq11⟩
end Go.Proofs.YtfafjbolmeimmaaGreatDoor.P
namespace Go.Proofs.YtfafjbolmeimmaaGreatDoor.P
open Go.RowKit Go.Proofs.YtfafjbolmeimmaaGreatDoorW.PrintWords Go.Proofs.YtfafjbolmeimmaaGreatDoorW.PrintLast Go.Proofs.YtfafjbolmeimmaaGreatDoorW.PrintMore
set_option linter.unusedVariables false
set_option linter.unusedSimpArgs false
def CW (w : World) (f : FuncId) (args : Array Value) (v : Value) : Prop := ∀ w1, Below w.heap.size w w1 → Calls Tryz.prog f args w1 fun e w' => e = .returned v ∧ Below w1.heap.size w1 w'
theorem CW.go {w w1 : World} {f : FuncId} {args : Array Value} {v : Value} (h : CW w f args v) (hb : Below w.heap.size w w1) : Calls Tryz.prog f args w1 fun e w' => e = .returned v ∧ Below w1.heap.size w1 w' := h w1 hb
theorem drawn_bl {w w' : World} (h : zas w w') : Below w.heap.size w w' := by
 obtain ⟨n, rfl⟩ := h
 exact zab (Below.refl _ _) n
structure BX (w wc : World) (g : Nat) (t : TypeId) (vs : Array Value) : Prop where
 b : Below w.heap.size w wc
 k : wc.heap[g]? = some (.cells vs t (0, 0))
 g : w.heap.size ≤ g
theorem BX.step {w wc w' : World} {g : Nat} {t : TypeId} {vs : Array Value} (h : BX w wc g t vs) (hb : Below wc.heap.size wc w') : BX w w' g t vs := ⟨zam h.b hb, zbg h.k hb, h.g⟩
theorem BX.at {w wc : World} {g : Nat} {t : TypeId} {x0 x1 x2 x3 x4 x5 x6 x7 x8 x9 x10 x11 x12 x13 x14 : Value} (h : BX w wc g t #[x0, x1, x2, x3, x4, x5, x6, x7, x8, x9, x10, x11, x12, x13, x14]) : wc.cell? ⟨g, 0, none⟩ = some x0 ∧ wc.cell? ⟨g, 1, none⟩ = some x1 ∧ wc.cell? ⟨g, 2, none⟩ = some x2 ∧ wc.cell? ⟨g, 3, none⟩ = some x3 ∧ wc.cell? ⟨g, 4, none⟩ = some x4 ∧ wc.cell? ⟨g, 5, none⟩ = some x5 ∧ wc.cell? ⟨g, 6, none⟩ = some x6 ∧ wc.cell? ⟨g, 7, none⟩ = some x7 ∧ wc.cell? ⟨g, 8, none⟩ = some x8 ∧ wc.cell? ⟨g, 9, none⟩ = some x9 ∧ wc.cell? ⟨g, 10, none⟩ = some x10 ∧ wc.cell? ⟨g, 11, none⟩ = some x11 ∧ wc.cell? ⟨g, 12, none⟩ = some x12 ∧ wc.cell? ⟨g, 13, none⟩ = some x13 ∧ wc.cell? ⟨g, 14, none⟩ = some x14 :=
 ⟨(zal h.k 0).trans rfl, (zal h.k 1).trans rfl, (zal h.k 2).trans rfl, (zal h.k 3).trans rfl, (zal h.k 4).trans rfl, (zal h.k 5).trans rfl, (zal h.k 6).trans rfl, (zal h.k 7).trans rfl, (zal h.k 8).trans rfl, (zal h.k 9).trans rfl, (zal h.k 10).trans rfl, (zal h.k 11).trans rfl, (zal h.k 12).trans rfl, (zal h.k 13).trans rfl, (zal h.k 14).trans rfl⟩
theorem BX.row {w wc : World} {g : Nat} {t : TypeId} {zs : Array Value} (vs : Array Value) (h : BX w wc g t zs) : BX w (wc.setRow g vs) g t vs := ⟨below_setRow h.b h.g vs, setRow_heap wc g zs vs t (0, 0) h.k, h.g⟩
theorem BX.drew {w wc : World} {g : Nat} {t : TypeId} {vs : Array Value} (h : BX w wc g t vs) : BX w wc.drew g t vs := ⟨zac h.b, zar h.k, h.g⟩
end Go.Proofs.YtfafjbolmeimmaaGreatDoor.P
namespace Go.Proofs.YtfafjbolmeimmaaGreatDoorW.PrintLast
open Go.RowKit Go.Proofs.YtfafjbolmeimmaaGreatDoorW.PrintWords
set_option linter.unusedVariables false
section
variable {P : Program} {md : Region.Mode} {ops : Array Oper} {Q : Exit → Act → World → Prop} {S : World → Prop} {T : Bool × List (List Nat × List Nat)} {B : List Nat}
def upA (k n : Nat) : Array Bool := (List.replicate k true ++ List.replicate (n - k) false).toArray
theorem sn_ {id n : Nat} {a : Act} {w : World} (hm : P.follows .mixedOrders = true) (hn : ops.size = n) (hl : Array.replicate n false = upA 0 n) (hS : S w.drew)
  (h : S w.drew → wpAnyLast P .any ops Q S [] n (upA 0 n) a w.drew) : (Code.region id ops true).wp P Q a w := start_ _ hm hn hl hS h
theorem pn_ (b : Nat) {k n : Nat} {oi : Oper} {v : Value} {fuel : Nat} {a : Act} {w : World} (hi : ops[k]? = some oi) (hN : oi.dst = some (b + k)) (hT : zaa (rtab md ops = T)) (hc : anyT T (upA k n).toList (upA (k + 1) n).toList k = true)
  (hQ : ∀ c a w, Q (.panic c) (a.put oi.dst v) w → Q (.panic c) a w) (hy : Yields P ops oi v a) {a' : Act} (ha : a.put (some (b + k)) v = a')
  (h : wpAnyLast P md ops Q S [] fuel (upA (k + 1) n) a' w) : wpAnyLast P md ops Q S [] (fuel + 1) (upA k n) a w := pure_ _ hi hN (any_of hT.out hc) hQ hy ha h
theorem tn_ (b : Nat) {k n : Nat} {oi : Oper} {v : Value} {fuel : Nat} {a : Act} {w : World} (hi : ops[k]? = some oi) (hN : oi.dst = some (b + k)) (hT : zaa (rtab md ops = T)) (hB : zaa (waitsOk T.2 B = true)) (hc : takeW T B [] (upA k n).toList (upA (k + 1) n).toList k = true)
  (hQ : ∀ c a w, Q (.panic c) (a.put oi.dst v) w → Q (.panic c) a w) (hy : YieldsIf P ops S oi v a) (hS : S w) {a' : Act} (ha : a.put (some (b + k)) v = a')
  (h : wpAnyLast P md ops Q S [] fuel (upA (k + 1) n) a' w) : wpAnyLast P md ops Q S [] (fuel + 1) (upA k n) a w := take_ _ hi hN (take_ofW hT.out hB.out hc) hQ hy hS ha h
theorem on_ (b : Nat) {k n : Nat} {oi : Oper} {fuel : Nat} {a : Act} {w : World} (hi : ops[k]? = some oi) (hN : oi.dst = some (b + k)) (hT : zaa (rtab md ops = T)) (hc : (readyT T.2 (upA k n).toList == [k] && (upA k n).toList.set k true == (upA (k + 1) n).toList) = true)
  (h : ∀ K : Act → World → Prop, Shut (∀ a' w', S w' → (S w' → wpAnyLast P md ops Q S [] fuel (upA (k + 1) n) a' w') → K a' w') → if Region.wanted oi (yielded ops a.tmps) = true then Oper.wp P oi a w K Q else K (a.put (some (b + k)) undef) w) :
  wpAnyLast P md ops Q S [] (fuel + 1) (upA k n) a w := one_ _ hi hN (one_of hT.out hc) yq21 h
theorem pf_ (N : Tmp) {k n : Nat} {oi : Oper} {v : Value} {fuel : Nat} {a : Act} {w : World} (hi : ops[k]? = some oi) (hN : oi.dst = some N) (hT : zaa (rtab md ops = T)) (hc : anyT T (upA k n).toList (upA (k + 1) n).toList k = true)
  (hQ : ∀ c a w, Q (.panic c) (a.put oi.dst v) w → Q (.panic c) a w) (hy : Yields P ops oi v a) {a' : Act} (ha : a.put (some N) v = a')
  (h : wpAnyLast P md ops Q S [] fuel (upA (k + 1) n) a' w) : wpAnyLast P md ops Q S [] (fuel + 1) (upA k n) a w := pure_ _ hi hN (any_of hT.out hc) hQ hy ha h
theorem dn_ {k n : Nat} {a : Act} {w : World} {fuel : Nat} (hT : zaa (rtab md ops = T)) (hr : (readyT T.2 (upA k n).toList == []) = true) (h : Q .normal a w) : wpAnyLast P md ops Q S [] fuel (upA k n) a w := done_ (done_of hT.out hr) h
end
end Go.Proofs.YtfafjbolmeimmaaGreatDoorW.PrintLast
namespace Go.Proofs.YtfafjbolmeimmaaGreatDoor.P
open Go.ChangeShapes Go.WideShapes Go.ChangeAt Go.RowKit Go.Deep Go.Proofs.YtfafjbolmeimmaaGreatDoorW.PrintWords
set_option linter.unusedVariables false
theorem own : ownKnob Tryz.prog.godebug = none := by kernel_rfl
theorem laidOut : laidOutB Tryz.prog = true := by kernel_rfl
theorem handed_and_shaped {H : Type} {enc : TypeId × Value → H} {a : Assume} {C : Checked} {os : Os} {f : FuncId} {fn : Func} {s : ChangeSpec} {conds : List PathCond} {apart fresh handsOn again : Bool} {X : World → Array Value → Prop}
  (hX : ∀ (w w' : World) (args : Array Value), w.heap = w'.heap → X w args → X w' args)
  (own : ownKnob C.prog.godebug = none) (started : os.Started) (noInit : C.prog.inits.idxOf? f = none) (hfn : C.prog.funcs[f]? = some fn)
  (witness : ∃ (w : World) (tape : Tape) (i : Input), w.os = os ∧ (w.forCall tape i).Shaped C.prog ∧ i.vars = [] ∧ Input.okWide C.prog (w.forCall tape i) .any w.heap.size f i ∧
   ((s.pre enc C.prog fn conds apart (w.forCall tape i).memory i.args ∧ X (w.forCall tape i).memory i.args) ∧ sizedMet enc C.prog fn (OpenSpec.ofChange s) apart (w.forCall tape i).memory i.args) ∧ a.holds C.prog (lone (Frame.enter C.prog f i.args .normal) [] (w.forCall tape i)))
  (contract : ∀ (W : World) (base : Nat) (args : Array Value) (ds gs : List (DataW H)) (before : List MemPlace),
   (∀ (j : Nat) t v, fn.params[j]? = some t → args[j]? = some v → Value.okWide C.prog W .any base t v) →
   DataW.Whole enc C.prog fn.params.toList s.vars apart W args.toList ds gs before → W.ShapedOpen C.prog → X W args →
   Calls C.prog f args W fun e W' => ∃ v, e = .returned v ∧ s.post enc C.prog fn apart fresh handsOn again W args v W') :
  ReturnsInHanded a C os f .any (fun w args => (s.pre enc C.prog fn conds apart w args ∧ X w args) ∧ sizedMet enc C.prog fn (OpenSpec.ofChange s) apart w args) (s.post enc C.prog fn apart fresh handsOn again) := by
 refine returnsInHanded_of_calls own started noInit witness ?_
 intro w tape i _ hsh _ hok hpre _
 obtain ⟨_, _, _, fn2, hfn2, _, _, _, _, hval⟩ := hok
 obtain rfl : fn2 = fn := Option.some.inj (hfn2.symm.trans hfn)
 obtain ⟨⟨⟨ds, gs, before, hw, _⟩, hx⟩, _⟩ := hpre
 refine (contract (w.forCall tape i) w.heap.size i.args ds gs before hval (DataW.Whole.of_heap (w' := w.forCall tape i) yq30 hw) hsh (hX _ _ _ yq30 hx)).mono ?_
 rintro e W' ⟨v, rfl, hp⟩
 exact ChangeSpec.post_blind hp
theorem xU8 : U8Extra Tryz.prog Tryz.lays197_ren := ⟨yq10, yq10, yq10, yq10, yq10, yq10, yq10⟩
theorem tU8 : U8Types Tryz.prog Tryz.lays197_ren := ⟨yq10, yq10, yq10, yq10⟩
theorem accept_eq : (Rows.laid_unicode_utf8_acceptRanges : DataW Unit) = Lib.acceptData := by kernel_rfl
theorem tabs_of_reads {W : World} (h1 : Lib.VarReads Tryz.prog W "unicode/utf8.acceptRanges" Rows.laid_unicode_utf8_acceptRanges) (h2 : Lib.VarReads Tryz.prog W "unicode/utf8.first" Rows.laid_unicode_utf8_first) : Lib.Utf8Tabs 0 1 W :=
 utf8Tabs_of_readsT tU8 xU8 (Pinned.utf8First_eq ▸ h2) (accept_eq ▸ h1)
section
variable {H : Type} {enc : TypeId × Value → H} {w : World} {base : Nat} {spare : Nat → Bool} {held : Bool}
theorem open_texts {P : Program} {t e : TypeId} {fuel : Nat} {c : Value} {y : DataW H × List MemPlace} (ht : P.underlying t = some (.slice e)) (he : P.underlying e = some .string) (hc : P.cellsOf e = 1)
  (h : DataW.trod enc P w base spare held fuel t [c] = some y) : ∃ A cap l, c = .slice A l.length cap ∧ Kd.C Kd.string w A l.length l ∧ l.length ≤ cap ∧ l.length ≤ 9223372036854775807 ∧ ∀ s ∈ l, s.size ≤ 9223372036854775807 := by
 rcases open_strings ht he hc h with ⟨hcs, _⟩ | ⟨a, len, cap, ss, hcs, _, hl, hm, hz, _, hcell, hsz⟩
 ·simp only [List.cons.injEq, and_true] at hcs
  exact ⟨none, 0, [], hcs, Kd.C_nil _ _, Nat.le_refl _, yq21, yq21⟩
 simp only [List.cons.injEq, and_true] at hcs
 have hlen : len ≤ ss.length := by rw [hz]; split <;> omega
 have e1 : (ss.take len).length = len := by rw [List.length_take]; omega
 refine ⟨some a, cap, ss.take len, by rw [e1]; exact hcs, ?_, yq9, by unfold maxLen at hm; omega, fun s hs => hsz s (List.mem_of_mem_take hs)⟩
 refine Kd.C_of_reads (d := ByteArray.empty) ⟨rfl, by unfold maxLen at hm; omega, fun h0 => ⟨a, rfl, fun j hj => ?_⟩⟩
 rw [e1] at hj
 rw [hcell j yq9, List.getD_eq_getElem?_getD, List.getD_eq_getElem?_getD, List.getElem?_take_of_lt hj]
theorem open_nums {H : Type} {enc : TypeId × Value → H} {w : World} {base : Nat} {spare : Nat → Bool} {held : Bool} {P : Program} {t e : TypeId} {k : IntKind} {fuel : Nat} {c : Value} {y : DataW H × List MemPlace} (ht : P.underlying t = some (.slice e)) (he : P.underlying e = some (.int k)) (hc : P.cellsOf e = 1)
  (h : DataW.trod enc P w base spare held fuel t [c] = some y) : ∃ A cap l, c = .slice A l.length cap ∧ Kd.C (Kd.int k) w A l.length l ∧ l.length ≤ cap ∧ l.length ≤ 9223372036854775807 ∧ ∀ z ∈ l, (Lit.int k z).wf = true := by
 rcases open_ints ht he hc h with ⟨hcs, _⟩ | ⟨a, len, cap, ss, hcs, _, hl, hm, hz, _, hcell, hwf⟩
 ·simp only [List.cons.injEq, and_true] at hcs
  exact ⟨none, 0, [], hcs, Kd.C_nil _ _, Nat.le_refl _, yq21, yq21⟩
 simp only [List.cons.injEq, and_true] at hcs
 have hlen : len ≤ ss.length := by rw [hz]; split <;> omega
 have e1 : (ss.take len).length = len := by rw [List.length_take]; omega
 refine ⟨some a, cap, ss.take len, by rw [e1]; exact hcs, ?_, yq9, by unfold maxLen at hm; omega, fun z hz => hwf z (List.mem_of_mem_take hz)⟩
 refine Kd.C_of_reads (d := (0 : Int)) ⟨rfl, by unfold maxLen at hm; omega, fun h0 => ⟨a, rfl, fun j hj => ?_⟩⟩
 rw [e1] at hj
 rw [hcell j yq9, List.getD_eq_getElem?_getD, List.getD_eq_getElem?_getD, List.getElem?_take_of_lt hj]
theorem open_pls {P : Program} {t e : TypeId} {f0 f1 : Field} {fuel : Nat} {c : Value} {y : DataW H × List MemPlace} (ht : P.underlying t = some (.slice e)) (he : P.underlying e = some (.struct #[f0, f1])) (ce : P.cellsOf e = 2) (o0 : f0.offset = 0) (o1 : f1.offset = 1) (c0 : P.cellsOf f0.type = 1) (c1 : P.cellsOf f1.type = 1) (u0 : P.underlying f0.type = some .string) (u1 : P.underlying f1.type = some .string)
  (h : DataW.trod enc P w base spare held fuel t [c] = some y) : ∃ A cap l, c = .slice A l.length cap ∧ Kd.C k79 w A l.length l ∧ l.length ≤ cap ∧ l.length ≤ 9223372036854775807 ∧ ∀ x ∈ l, x.f0.size ≤ 9223372036854775807 ∧ x.f1.size ≤ 9223372036854775807 := by
 rcases Deep.open_slice_pairs ht he ce o0 o1 c0 c1 h with ⟨hcs, _⟩ | ⟨a, len, cap, m, n, V0, V1, D0, D1, P0, P1, hcs, _, hl, hm, hmm, _, hall⟩
 ·simp only [List.cons.injEq, and_true] at hcs
  exact ⟨none, 0, [], hcs, Kd.C_nil _ _, Nat.le_refl _, yq21, yq21⟩
 simp only [List.cons.injEq, and_true] at hcs
 have hlm : len ≤ m := by rw [hmm]; split <;> omega
 obtain ⟨q, hq⟩ := Deep.choose_lt (α := ByteArray × ByteArray) (p := fun i q => w.cell? (a.add (i * 2)) = some (.string q.1) ∧ w.cell? (a.add (i * 2 + 1)) = some (.string q.2) ∧ q.1.size ≤ maxLen ∧ q.2.size ≤ maxLen) (n := m) (fun i hi => by
  obtain ⟨h0, h1, g0, g1⟩ := hall i hi
  obtain ⟨s0, e0, _, z0⟩ := DataW.trod_string u0 g0
  obtain ⟨s1, e1, _, z1⟩ := DataW.trod_string u1 g1
  simp only [List.cons.injEq, and_true] at e0 e1
  exact ⟨(s0, s1), by rw [h0, e0], by rw [h1, e1], z0, z1⟩)
 have el : ((List.range len).map fun i => (⟨(q i).1, (q i).2⟩ : S79)).length = len := by simp
 refine ⟨some a, cap, (List.range len).map fun i => ⟨(q i).1, (q i).2⟩, by rw [el]; exact hcs, ?_, yq9, by unfold maxLen at hm; omega, ?_⟩
 ·refine ⟨rfl, by unfold maxLen at hm; omega, fun _ => ⟨a, rfl, fun j p hp => ?_⟩⟩
  have hj : j < len := by
   have := (List.getElem?_eq_some_iff.1 hp).1
   omega
  have ep : p = ⟨(q j).1, (q j).2⟩ := by
   rw [List.getElem?_map, List.getElem?_range hj] at hp
   exact (Option.some.inj hp).symm
  subst ep
  obtain ⟨h0, h1, _, _⟩ := hq j yq9
  refine ⟨[.string (q j).1, .string (q j).2], rfl, ⟨[_], [_], rfl, rfl, rfl⟩, fun i u hu => ?_⟩
  match i, hu with
  | 0, hu => obtain rfl := Option.some.inj hu; exact h0
  | 1, hu => obtain rfl := Option.some.inj hu; exact h1
 intro x hx
 obtain ⟨i, hi, rfl⟩ := List.mem_map.1 hx
 obtain ⟨_, _, z0, z1⟩ := hq i (by have := List.mem_range.1 hi; omega)
 unfold maxLen at z0 z1
 exact ⟨z0, z1⟩
end
theorem starE : "*" ++ "errors.errorString" = "*errors.errorString" := by decide
theorem rowE (u : TypeId) (h : Tryz.prog.typeName? 3 u = some "*errors.errorString") : u = 182 :=
 typeName_ptr_named (nm := "errors.errorString") (by rw [starE]; kernel_rfl) yq10 yq38 u (by rw [starE]; exact h)
theorem gt_of {W : World} (hL : laidMet Tryz.prog Rows.fnExactLocaleFaultRow.laid W) (hsh : W.ShapedOpen Tryz.prog) : GT W := by
 have h0 : laidMet Tryz.prog [("math/bits.deBruijn32tab", Rows.laid_math_bits_deBruijn32tab), ("math/bits.deBruijn64tab", Rows.laid_math_bits_deBruijn64tab), ("internal/strconv.uint64pow10", Rows.laid_internal_strconv_uint64pow10), ("unicode/utf8.acceptRanges", Rows.laid_unicode_utf8_acceptRanges), ("strconv.ErrRange", Rows.laid_strconv_ErrRange), ("strconv.ErrSyntax", Rows.laid_strconv_ErrSyntax), ("unicode/utf8.first", Rows.laid_unicode_utf8_first)] W := hL
 have h3 := h0.tail.tail
 have h5 := h3.tail.tail
 have h6 := h5.tail
 have e3 : (Rows.laid_internal_strconv_uint64pow10 : DataW Unit) = Lib.tabData .u64 Lib.pow10Tab := by kernel_rfl
 rw [e3] at h3
 refine ⟨?_, ?_, Lib.tabIs_of_head (g := 5) yq10 yq10 Tryz.underlying177 Tryz.underlying134 yq10 yq10 h3, ?_, tabs_of_reads (Lib.laidMet.reads h0 (.tail _ (.tail _ (.tail _ (.head _))))) (Lib.laidMet.reads h0 (.tail _ (.tail _ (.tail _ (.tail _ (.tail _ (.tail _ (.head _))))))))⟩
 ·obtain ⟨a, s, hv, _⟩ := laid_sentinel (g := 3) h6 yq10 yq10 Tryz.underlying148 rowE Tryz.underlying182 Tryz.underlying184 rfl rfl Tryz.underlying9 yq10 yq10
  exact ⟨_, _, hv⟩
 ·obtain ⟨a, s, hv, _⟩ := laid_sentinel (g := 4) h5 yq10 yq10 Tryz.underlying148 rowE Tryz.underlying182 Tryz.underlying184 rfl rfl Tryz.underlying9 yq10 yq10
  exact ⟨_, _, hv⟩
 exact cell_of_shapedOpen_int (t := 3) (zero := #[.int .i64 0]) hsh (of_decide_eq_true yq10) yq10 rfl yq10 yq10 Tryz.underlying3
end Go.Proofs.YtfafjbolmeimmaaGreatDoor.P
