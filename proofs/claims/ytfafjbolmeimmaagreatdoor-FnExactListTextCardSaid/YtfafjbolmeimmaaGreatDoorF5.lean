/- Parts of a proof: words of the print tool that this claim uses, or plain lists. -/
import Derived.Test.YtfafjbolmeimmaaGreatDoorAb
import Derived.Test.YtfafjbolmeimmaaGreatDoorF4
import Derived.Test.YtfafjbolmeimmaaGreatDoorTie
import Derived.Lay
import Derived.SevenTiedAt
import Derived.ProofKit
import Derived.OpenShut
import Derived.ShutString
import Derived.ChangeOld
import Derived.SizedLaws
import Derived.Handed
import Derived.Stop.LaidErr
import Derived.LaidLaws
import Derived.Lib.LaidTab
import Derived.Shelf.Vars
import Derived.Lib.LaidU8T
import Derived.PinnedBridge
import Derived.SliceStrings
import Derived.Deep.Fields
import Derived.Deep.SlicePairs
import Derived.ChangeSlices
namespace Go.Proofs.YtfafjbolmeimmaaGreatDoor.P
open Go.RowKit Go.Proofs.YtfafjbolmeimmaaGreatDoorW.PrintWords Go.Proofs.YtfafjbolmeimmaaGreatDoorW.PrintLast Go.Proofs.YtfafjbolmeimmaaGreatDoorW.PrintMore
attribute [local go_sem] zbw zbx max_two min_two zbe zbd zbu zbv
set_option linter.unusedVariables false
set_option linter.unusedSimpArgs false
def zbt.l0 : Nat → ByteArray → Int → Int → Option (Bool)
 | 0, _, _, _ => none
 | k + 1, x0, x6, x7 => if x7 < x6 then (if 0 ≤ x7 then (if x7 < (x0.size : Int) then (if (bt x0 x7) ≥ 97 then (if (bt x0 x7) ≤ 122 then (zbt.l0 k x0 x6 (wrap64 (x7 + 1))) else (if x7 > 0 then (if (bt x0 x7) ≥ 48 then (if (bt x0 x7) ≤ 57 then (zbt.l0 k x0 x6 (wrap64 (x7 + 1))) else (if (bt x0 x7) = 45 then (zbt.l0 k x0 x6 (wrap64 (x7 + 1))) else (some false))) else (if (bt x0 x7) = 45 then (zbt.l0 k x0 x6 (wrap64 (x7 + 1))) else (some false))) else (some false))) else (if x7 > 0 then (if (bt x0 x7) ≥ 48 then (if (bt x0 x7) ≤ 57 then (zbt.l0 k x0 x6 (wrap64 (x7 + 1))) else (if (bt x0 x7) = 45 then (zbt.l0 k x0 x6 (wrap64 (x7 + 1))) else (some false))) else (if (bt x0 x7) = 45 then (zbt.l0 k x0 x6 (wrap64 (x7 + 1))) else (some false))) else (some false))) else (none)) else (none)) else (if (x0.size : Int) ≥ 1 then (some (decide ((x0.size : Int) ≤ 20))) else (some false))
def zbt.f (k : Nat) (a0 : ByteArray) : Option (Bool) := zbt.l0 k a0 (a0.size : Int) 0
set_option maxHeartbeats 8000000 in
set_option maxRecDepth 100000 in
theorem zbt.calls (k : Nat) (a0 : ByteArray) (r : Bool) (w : World) (h : zbt.f k a0 = some r) :
  Calls Tryz.prog 41 #[.string a0] w fun e w' => e = .returned (.bool r) ∧ zas w w' := by
 have H : (zbt.l0 k a0 (a0.size : Int) 0) = some r := h
 clear h; have H' := zaa.mk H; clear H
 go_enter Tryz.func41, Tryz.ntmps41
 go_wp2
 go_loopg [7] k (fun kq v7 w' => ∃ (x7_1 : Int), v7 = .int .i64 x7_1 ∧ zaa (zbt.l0 kq a0 (a0.size : Int) x7_1 = some r) ∧ zaa (kq ≤ k) ∧ zas w w')
 case atStart => exact ⟨(0), yq4, H', ⟨Nat.le_refl _⟩, yq10⟩
 case round =>
  clear H'
  obtain ⟨x7_1, rfl, HA, HK1, ⟨m1, rfl⟩⟩ := hrel
  cases gk with
  | zero => exact absurd HA.out (by simp [zbt.l0])
  | succ k1 =>
   have H := HA.out; clear HA
   simp only [zbt.l0] at H
   by_cases c2 : x7_1 < (a0.size : Int)
   ·rw [if_pos c2] at H
    have c2b0 : decide (x7_1 < (a0.size : Int)) = true := decide_eq_true c2
    clear c2
    by_cases c3 : 0 ≤ x7_1
    ·rw [if_pos c3] at H
     have c3b0 : decide (0 ≤ x7_1) = true := decide_eq_true c3
     clear c3
     by_cases c4 : x7_1 < (a0.size : Int)
     ·rw [if_pos c4] at H
      have c4b0 : decide (x7_1 < (a0.size : Int)) = true := decide_eq_true c4
      clear c4
      by_cases c6 : (bt a0 x7_1) ≥ 97
      ·rw [if_pos c6] at H
       have c6b0 : decide (97 ≤ (bt a0 x7_1)) = true := decide_eq_true c6
       clear c6
       by_cases c7 : (bt a0 x7_1) ≤ 122
       ·rw [if_pos c7] at H
        have c7b0 : decide ((bt a0 x7_1) ≤ 122) = true := decide_eq_true c7
        clear c7; have H' := zaa.mk H; clear H
        have p5 : 0 ≤ (x7_1 : Int) := of_decide_eq_true yq1
        have q5 : x7_1 < (a0.size : Int) := of_decide_eq_true yq1
        have hx5 := bt_at a0 x7_1
        replace p5 := eq_true p5
        replace q5 := eq_true q5
        go_wp2
        go_roundg k1
        case measure => have := HK1.out; omega
        case rel => exact ⟨(wrap64 (x7_1 + 1)), yq4, H', ⟨yq24 HK1.out⟩, yq10⟩
       rw [if_neg c7] at H
       have c7b0 : decide ((bt a0 x7_1) ≤ 122) = false := decide_eq_false c7
       clear c7
       by_cases c8 : x7_1 > 0
       ·rw [if_pos c8] at H
        have c8b0 : decide (0 < x7_1) = true := decide_eq_true c8
        clear c8
        by_cases c9 : (bt a0 x7_1) ≥ 48
        ·rw [if_pos c9] at H
         have c9b0 : decide (48 ≤ (bt a0 x7_1)) = true := decide_eq_true c9
         clear c9
         by_cases c10 : (bt a0 x7_1) ≤ 57
         ·rw [if_pos c10] at H
          have c10b0 : decide ((bt a0 x7_1) ≤ 57) = true := decide_eq_true c10
          clear c10; have H' := zaa.mk H; clear H
          have p5 : 0 ≤ (x7_1 : Int) := of_decide_eq_true yq1
          have q5 : x7_1 < (a0.size : Int) := of_decide_eq_true yq1
          have hx5 := bt_at a0 x7_1
          replace p5 := eq_true p5
          replace q5 := eq_true q5
          go_wp2
          go_roundg k1
          case measure => have := HK1.out; omega
          case rel => exact ⟨(wrap64 (x7_1 + 1)), yq4, H', ⟨yq24 HK1.out⟩, yq10⟩
         rw [if_neg c10] at H
         have c10b0 : decide ((bt a0 x7_1) ≤ 57) = false := decide_eq_false c10
         clear c10
         by_cases c11 : (bt a0 x7_1) = 45
         ·rw [if_pos c11] at H
          have c11b0 : ((bt a0 x7_1) == 45) = true := beq_iff_eq.mpr c11
          have c11b1 : ((bt a0 x7_1) != 45) = false := bne_eq_false_iff_eq.mpr c11
          clear c11; have H' := zaa.mk H; clear H
          have p5 : 0 ≤ (x7_1 : Int) := of_decide_eq_true yq1
          have q5 : x7_1 < (a0.size : Int) := of_decide_eq_true yq1
          have hx5 := bt_at a0 x7_1
          replace p5 := eq_true p5
          replace q5 := eq_true q5
          go_wp2
          go_roundg k1
          case measure => have := HK1.out; omega
          case rel => exact ⟨(wrap64 (x7_1 + 1)), yq4, H', ⟨yq24 HK1.out⟩, yq10⟩
         rw [if_neg c11] at H
         have c11b0 : ((bt a0 x7_1) == 45) = false := beq_eq_false_iff_ne.mpr c11
         have c11b1 : ((bt a0 x7_1) != 45) = true := bne_iff_ne.mpr c11
         obtain rfl := Option.some.inj H
         have p5 : 0 ≤ (x7_1 : Int) := of_decide_eq_true yq1
         have q5 : x7_1 < (a0.size : Int) := of_decide_eq_true yq1
         have hx5 := bt_at a0 x7_1
         replace p5 := eq_true p5
         replace q5 := eq_true q5
         go_wp2
         go_ret
         exact ⟨yq4, yq10⟩
        rw [if_neg c9] at H
        have c9b0 : decide (48 ≤ (bt a0 x7_1)) = false := decide_eq_false c9
        clear c9
        by_cases c12 : (bt a0 x7_1) = 45
        ·rw [if_pos c12] at H
         have c12b0 : ((bt a0 x7_1) == 45) = true := beq_iff_eq.mpr c12
         have c12b1 : ((bt a0 x7_1) != 45) = false := bne_eq_false_iff_eq.mpr c12
         clear c12; have H' := zaa.mk H; clear H
         have p5 : 0 ≤ (x7_1 : Int) := of_decide_eq_true yq1
         have q5 : x7_1 < (a0.size : Int) := of_decide_eq_true yq1
         have hx5 := bt_at a0 x7_1
         replace p5 := eq_true p5
         replace q5 := eq_true q5
         go_wp2
         go_roundg k1
         case measure => have := HK1.out; omega
         case rel => exact ⟨(wrap64 (x7_1 + 1)), yq4, H', ⟨yq24 HK1.out⟩, yq10⟩
        rw [if_neg c12] at H
        have c12b0 : ((bt a0 x7_1) == 45) = false := beq_eq_false_iff_ne.mpr c12
        have c12b1 : ((bt a0 x7_1) != 45) = true := bne_iff_ne.mpr c12
        obtain rfl := Option.some.inj H
        have p5 : 0 ≤ (x7_1 : Int) := of_decide_eq_true yq1
        have q5 : x7_1 < (a0.size : Int) := of_decide_eq_true yq1
        have hx5 := bt_at a0 x7_1
        replace p5 := eq_true p5
        replace q5 := eq_true q5
        go_wp2
        go_ret
        exact ⟨yq4, yq10⟩
       rw [if_neg c8] at H
       have c8b0 : decide (0 < x7_1) = false := decide_eq_false c8
       clear c8; obtain rfl := Option.some.inj H
       have p5 : 0 ≤ (x7_1 : Int) := of_decide_eq_true yq1
       have q5 : x7_1 < (a0.size : Int) := of_decide_eq_true yq1
       have hx5 := bt_at a0 x7_1
       replace p5 := eq_true p5
       replace q5 := eq_true q5
       go_wp2
       go_ret
       exact ⟨yq4, yq10⟩
      rw [if_neg c6] at H
      have c6b0 : decide (97 ≤ (bt a0 x7_1)) = false := decide_eq_false c6
      clear c6
      by_cases c13 : x7_1 > 0
      ·rw [if_pos c13] at H
       have c13b0 : decide (0 < x7_1) = true := decide_eq_true c13
       clear c13
       by_cases c14 : (bt a0 x7_1) ≥ 48
       ·rw [if_pos c14] at H
        have c14b0 : decide (48 ≤ (bt a0 x7_1)) = true := decide_eq_true c14
        clear c14
        by_cases c15 : (bt a0 x7_1) ≤ 57
        ·rw [if_pos c15] at H
         have c15b0 : decide ((bt a0 x7_1) ≤ 57) = true := decide_eq_true c15
         clear c15; have H' := zaa.mk H; clear H
         have p5 : 0 ≤ (x7_1 : Int) := of_decide_eq_true yq1
         have q5 : x7_1 < (a0.size : Int) := of_decide_eq_true yq1
         have hx5 := bt_at a0 x7_1
         replace p5 := eq_true p5
         replace q5 := eq_true q5
         go_wp2
         go_roundg k1
         case measure => have := HK1.out; omega
         case rel => exact ⟨(wrap64 (x7_1 + 1)), yq4, H', ⟨yq24 HK1.out⟩, yq10⟩
        rw [if_neg c15] at H
        have c15b0 : decide ((bt a0 x7_1) ≤ 57) = false := decide_eq_false c15
        clear c15
        by_cases c16 : (bt a0 x7_1) = 45
        ·rw [if_pos c16] at H
         have c16b0 : ((bt a0 x7_1) == 45) = true := beq_iff_eq.mpr c16
         have c16b1 : ((bt a0 x7_1) != 45) = false := bne_eq_false_iff_eq.mpr c16
         clear c16; have H' := zaa.mk H; clear H
         have p5 : 0 ≤ (x7_1 : Int) := of_decide_eq_true yq1
         have q5 : x7_1 < (a0.size : Int) := of_decide_eq_true yq1
         have hx5 := bt_at a0 x7_1
         replace p5 := eq_true p5
         replace q5 := eq_true q5
         go_wp2
         go_roundg k1
         case measure => have := HK1.out; omega
         case rel => exact ⟨(wrap64 (x7_1 + 1)), yq4, H', ⟨yq24 HK1.out⟩, yq10⟩
        rw [if_neg c16] at H
        have c16b0 : ((bt a0 x7_1) == 45) = false := beq_eq_false_iff_ne.mpr c16
        have c16b1 : ((bt a0 x7_1) != 45) = true := bne_iff_ne.mpr c16
        obtain rfl := Option.some.inj H
        have p5 : 0 ≤ (x7_1 : Int) := of_decide_eq_true yq1
        have q5 : x7_1 < (a0.size : Int) := of_decide_eq_true yq1
        have hx5 := bt_at a0 x7_1
        replace p5 := eq_true p5
        replace q5 := eq_true q5
        go_wp2
        go_ret
        exact ⟨yq4, yq10⟩
       rw [if_neg c14] at H
       have c14b0 : decide (48 ≤ (bt a0 x7_1)) = false := decide_eq_false c14
       clear c14
       by_cases c17 : (bt a0 x7_1) = 45
       ·rw [if_pos c17] at H
        have c17b0 : ((bt a0 x7_1) == 45) = true := beq_iff_eq.mpr c17
        have c17b1 : ((bt a0 x7_1) != 45) = false := bne_eq_false_iff_eq.mpr c17
        clear c17; have H' := zaa.mk H; clear H
        have p5 : 0 ≤ (x7_1 : Int) := of_decide_eq_true yq1
        have q5 : x7_1 < (a0.size : Int) := of_decide_eq_true yq1
        have hx5 := bt_at a0 x7_1
        replace p5 := eq_true p5
        replace q5 := eq_true q5
        go_wp2
        go_roundg k1
        case measure => have := HK1.out; omega
        case rel => exact ⟨(wrap64 (x7_1 + 1)), yq4, H', ⟨yq24 HK1.out⟩, yq10⟩
       rw [if_neg c17] at H
       have c17b0 : ((bt a0 x7_1) == 45) = false := beq_eq_false_iff_ne.mpr c17
       have c17b1 : ((bt a0 x7_1) != 45) = true := bne_iff_ne.mpr c17
       obtain rfl := Option.some.inj H
       have p5 : 0 ≤ (x7_1 : Int) := of_decide_eq_true yq1
       have q5 : x7_1 < (a0.size : Int) := of_decide_eq_true yq1
       have hx5 := bt_at a0 x7_1
       replace p5 := eq_true p5
       replace q5 := eq_true q5
       go_wp2
       go_ret
       exact ⟨yq4, yq10⟩
      rw [if_neg c13] at H
      have c13b0 : decide (0 < x7_1) = false := decide_eq_false c13
      clear c13; obtain rfl := Option.some.inj H
      have p5 : 0 ≤ (x7_1 : Int) := of_decide_eq_true yq1
      have q5 : x7_1 < (a0.size : Int) := of_decide_eq_true yq1
      have hx5 := bt_at a0 x7_1
      replace p5 := eq_true p5
      replace q5 := eq_true q5
      go_wp2
      go_ret
      exact ⟨yq4, yq10⟩
     rw [if_neg c4] at H
     exact absurd H yq26
    rw [if_neg c3] at H
    exact absurd H yq26
   rw [if_neg c2] at H
   have c2b0 : decide (x7_1 < (a0.size : Int)) = false := decide_eq_false c2
   clear c2
   by_cases c18 : (a0.size : Int) ≥ 1
   ·rw [if_pos c18] at H
    have c18b0 : decide (1 ≤ (a0.size : Int)) = true := decide_eq_true c18
    have c18b1 : decide (1 ≤ a0.size) = true := decide_eq_true yq12
    clear c18; obtain rfl := Option.some.inj H
    go_wp2
    go_ret
    exact ⟨yq4, yq10⟩
   rw [if_neg c18] at H
   have c18b0 : decide (1 ≤ (a0.size : Int)) = false := decide_eq_false c18
   have c18b1 : decide (1 ≤ a0.size) = false := decide_eq_false yq12
   clear c18; obtain rfl := Option.some.inj H
   go_wp2
   go_ret
   exact ⟨yq4, yq10⟩
end Go.Proofs.YtfafjbolmeimmaaGreatDoor.P
namespace Go.Proofs.YtfafjbolmeimmaaGreatDoor.P
open Go.ChangeShapes Go.WideShapes Go.ChangeAt Go.RowKit Go.Deep Go.Proofs.YtfafjbolmeimmaaGreatDoorW.PrintWords
set_option linter.unusedVariables false
theorem own : ownKnob Tryz.prog.godebug = none := by kernel_rfl
theorem laidOut : laidOutB Tryz.prog = true := by kernel_rfl
theorem handed_and_shaped {H : Type} {enc : TypeId × Value → H} {a : Assume} {C : Checked} {os : Os} {f : FuncId} {fn : Func} {s : ChangeSpec} {conds : List PathCond} {apart fresh handsOn again : Bool} {X : World → Array Value → Prop}
  (hX : ∀ (w w' : World) (args : Array Value), w.heap = w'.heap → X w args → X w' args)
  (own : ownKnob C.prog.godebug = none) (started : os.Started) (noInit : C.prog.inits.idxOf? f = none) (hfn : C.prog.funcs[f]? = some fn)
  (witness : ∃ (w : World) (tape : Tape) (i : Input), w.os = os ∧ (w.forCall tape i).Shaped C.prog ∧ i.vars = [] ∧ Input.okWide C.prog (w.forCall tape i) .any w.heap.size f i ∧
   ((s.pre enc C.prog fn conds apart (w.forCall tape i).memory i.args ∧ X (w.forCall tape i).memory i.args) ∧ sizedMet enc C.prog fn (OpenSpec.ofChange s) apart (w.forCall tape i).memory i.args) ∧ a.holds C.prog (lone (Frame.enter C.prog f i.args .normal) [] (w.forCall tape i)))
  (contract : ∀ (W : World) (base : Nat) (args : Array Value) (ds gs : List (DataW H)) (before : List MemPlace),
   (∀ (j : Nat) t v, fn.params[j]? = some t → args[j]? = some v → Value.okWide C.prog W .any base t v) →
   DataW.Whole enc C.prog fn.params.toList s.vars apart W args.toList ds gs before → W.ShapedOpen C.prog → X W args →
   Calls C.prog f args W fun e W' => ∃ v, e = .returned v ∧ s.post enc C.prog fn apart fresh handsOn again W args v W') :
  ReturnsInHanded a C os f .any (fun w args => (s.pre enc C.prog fn conds apart w args ∧ X w args) ∧ sizedMet enc C.prog fn (OpenSpec.ofChange s) apart w args) (s.post enc C.prog fn apart fresh handsOn again) := by
 refine returnsInHanded_of_calls own started noInit witness ?_
 intro w tape i _ hsh _ hok hpre _
 obtain ⟨_, _, _, fn2, hfn2, _, _, _, _, hval⟩ := hok
 obtain rfl : fn2 = fn := Option.some.inj (hfn2.symm.trans hfn)
 obtain ⟨⟨⟨ds, gs, before, hw, _⟩, hx⟩, _⟩ := hpre
 refine (contract (w.forCall tape i) w.heap.size i.args ds gs before hval (DataW.Whole.of_heap (w' := w.forCall tape i) yq35 hw) hsh (hX _ _ _ yq35 hx)).mono ?_
 rintro e W' ⟨v, rfl, hp⟩
 exact ChangeSpec.post_blind hp
theorem xU8 : U8Extra Tryz.prog Tryz.lays197_ren := ⟨yq9, yq9, yq9, yq9, yq9, yq9, yq9⟩
theorem tU8 : U8Types Tryz.prog Tryz.lays197_ren := ⟨yq9, yq9, yq9, yq9⟩
theorem accept_eq : (Rows.laid_unicode_utf8_acceptRanges : DataW Unit) = Lib.acceptData := by kernel_rfl
theorem tabs_of_reads {W : World} (h1 : Lib.VarReads Tryz.prog W "unicode/utf8.acceptRanges" Rows.laid_unicode_utf8_acceptRanges) (h2 : Lib.VarReads Tryz.prog W "unicode/utf8.first" Rows.laid_unicode_utf8_first) : Lib.Utf8Tabs 0 1 W :=
 utf8Tabs_of_readsT tU8 xU8 (Pinned.utf8First_eq ▸ h2) (accept_eq ▸ h1)
section
variable {H : Type} {enc : TypeId × Value → H} {w : World} {base : Nat} {spare : Nat → Bool} {held : Bool}
theorem open_fields {P : Program} {r : Reach} {b0 : Nat} {t : TypeId} {fs : Array Field} {v : Value} {d : DataW H} {p : List MemPlace} (hs : P.underlying t = some (.struct fs)) (hone : oneCellFields P fs = true) (hC : P.cellsOf t = fs.size)
  (hv : Value.okWide P w r b0 t v) (h : DataW.Trod enc P w base spare held t v d p) :
  ∃ (cs : Array Value) (n : Nat), v = .agg cs ∧ cs.size = fs.size ∧ ∀ (j : Nat) (f : Field), fs[j]? = some f → ∃ c y, cs[j]? = some c ∧ DataW.trod enc P w base spare held n f.type [c] = some y := by
 obtain ⟨cs, rfl, hsz⟩ := okWide_struct hs hv
 obtain ⟨fuel, hf⟩ := h
 obtain ⟨xs, n, _, hx, _, hlen, hg⟩ := DataW.trod_struct hs hf
 refine ⟨cs, n, rfl, hsz.trans hC, fun j f hj => ?_⟩
 obtain ⟨o, k⟩ := hone_of hone j f hj
 have hjl : j < fs.size := (Array.getElem?_eq_some_iff.1 hj).1
 have h1 := hg j f hj
 rw [o, k] at h1
 have hjc : j < cs.toList.length := by rw [Array.length_toList]; omega
 have e1 : ((Value.agg cs).cells.toList.drop j).take 1 = [cs.toList[j]] := by
  show (cs.toList.drop j).take 1 = _
  rw [List.drop_eq_getElem_cons hjc]
  rfl
 rw [e1] at h1
 have hxl : j < xs.length := by omega
 exact ⟨cs.toList[j], xs[j], by rw [← Array.getElem?_toList, List.getElem?_eq_getElem hjc], h1.trans (List.getElem?_eq_getElem hxl)⟩
theorem open_texts {P : Program} {t e : TypeId} {fuel : Nat} {c : Value} {y : DataW H × List MemPlace} (ht : P.underlying t = some (.slice e)) (he : P.underlying e = some .string) (hc : P.cellsOf e = 1)
  (h : DataW.trod enc P w base spare held fuel t [c] = some y) : ∃ A cap l, c = .slice A l.length cap ∧ Kd.C Kd.string w A l.length l ∧ l.length ≤ cap ∧ l.length ≤ 9223372036854775807 ∧ ∀ s ∈ l, s.size ≤ 9223372036854775807 := by
 rcases open_strings ht he hc h with ⟨hcs, _⟩ | ⟨a, len, cap, ss, hcs, _, hl, hm, hz, _, hcell, hsz⟩
 ·simp only [List.cons.injEq, and_true] at hcs
  exact ⟨none, 0, [], hcs, Kd.C_nil _ _, Nat.le_refl _, yq26, yq26⟩
 simp only [List.cons.injEq, and_true] at hcs
 have hlen : len ≤ ss.length := by rw [hz]; split <;> omega
 have e1 : (ss.take len).length = len := by rw [List.length_take]; omega
 refine ⟨some a, cap, ss.take len, by rw [e1]; exact hcs, ?_, yq12, by unfold maxLen at hm; omega, fun s hs => hsz s (List.mem_of_mem_take hs)⟩
 refine Kd.C_of_reads (d := ByteArray.empty) ⟨rfl, by unfold maxLen at hm; omega, fun h0 => ⟨a, rfl, fun j hj => ?_⟩⟩
 rw [e1] at hj
 rw [hcell j yq12, List.getD_eq_getElem?_getD, List.getD_eq_getElem?_getD, List.getElem?_take_of_lt hj]
theorem open_nums {H : Type} {enc : TypeId × Value → H} {w : World} {base : Nat} {spare : Nat → Bool} {held : Bool} {P : Program} {t e : TypeId} {k : IntKind} {fuel : Nat} {c : Value} {y : DataW H × List MemPlace} (ht : P.underlying t = some (.slice e)) (he : P.underlying e = some (.int k)) (hc : P.cellsOf e = 1)
  (h : DataW.trod enc P w base spare held fuel t [c] = some y) : ∃ A cap l, c = .slice A l.length cap ∧ Kd.C (Kd.int k) w A l.length l ∧ l.length ≤ cap ∧ l.length ≤ 9223372036854775807 ∧ ∀ z ∈ l, (Lit.int k z).wf = true := by
 rcases open_ints ht he hc h with ⟨hcs, _⟩ | ⟨a, len, cap, ss, hcs, _, hl, hm, hz, _, hcell, hwf⟩
 ·simp only [List.cons.injEq, and_true] at hcs
  exact ⟨none, 0, [], hcs, Kd.C_nil _ _, Nat.le_refl _, yq26, yq26⟩
 simp only [List.cons.injEq, and_true] at hcs
 have hlen : len ≤ ss.length := by rw [hz]; split <;> omega
 have e1 : (ss.take len).length = len := by rw [List.length_take]; omega
 refine ⟨some a, cap, ss.take len, by rw [e1]; exact hcs, ?_, yq12, by unfold maxLen at hm; omega, fun z hz => hwf z (List.mem_of_mem_take hz)⟩
 refine Kd.C_of_reads (d := (0 : Int)) ⟨rfl, by unfold maxLen at hm; omega, fun h0 => ⟨a, rfl, fun j hj => ?_⟩⟩
 rw [e1] at hj
 rw [hcell j yq12, List.getD_eq_getElem?_getD, List.getD_eq_getElem?_getD, List.getElem?_take_of_lt hj]
theorem open_pls {P : Program} {t e : TypeId} {f0 f1 : Field} {fuel : Nat} {c : Value} {y : DataW H × List MemPlace} (ht : P.underlying t = some (.slice e)) (he : P.underlying e = some (.struct #[f0, f1])) (ce : P.cellsOf e = 2) (o0 : f0.offset = 0) (o1 : f1.offset = 1) (c0 : P.cellsOf f0.type = 1) (c1 : P.cellsOf f1.type = 1) (u0 : P.underlying f0.type = some .string) (u1 : P.underlying f1.type = some .string)
  (h : DataW.trod enc P w base spare held fuel t [c] = some y) : ∃ A cap l, c = .slice A l.length cap ∧ Kd.C k79 w A l.length l ∧ l.length ≤ cap ∧ l.length ≤ 9223372036854775807 ∧ ∀ x ∈ l, x.f0.size ≤ 9223372036854775807 ∧ x.f1.size ≤ 9223372036854775807 := by
 rcases Deep.open_slice_pairs ht he ce o0 o1 c0 c1 h with ⟨hcs, _⟩ | ⟨a, len, cap, m, n, V0, V1, D0, D1, P0, P1, hcs, _, hl, hm, hmm, _, hall⟩
 ·simp only [List.cons.injEq, and_true] at hcs
  exact ⟨none, 0, [], hcs, Kd.C_nil _ _, Nat.le_refl _, yq26, yq26⟩
 simp only [List.cons.injEq, and_true] at hcs
 have hlm : len ≤ m := by rw [hmm]; split <;> omega
 obtain ⟨q, hq⟩ := Deep.choose_lt (α := ByteArray × ByteArray) (p := fun i q => w.cell? (a.add (i * 2)) = some (.string q.1) ∧ w.cell? (a.add (i * 2 + 1)) = some (.string q.2) ∧ q.1.size ≤ maxLen ∧ q.2.size ≤ maxLen) (n := m) (fun i hi => by
  obtain ⟨h0, h1, g0, g1⟩ := hall i hi
  obtain ⟨s0, e0, _, z0⟩ := DataW.trod_string u0 g0
  obtain ⟨s1, e1, _, z1⟩ := DataW.trod_string u1 g1
  simp only [List.cons.injEq, and_true] at e0 e1
  exact ⟨(s0, s1), by rw [h0, e0], by rw [h1, e1], z0, z1⟩)
 have el : ((List.range len).map fun i => (⟨(q i).1, (q i).2⟩ : S79)).length = len := by simp
 refine ⟨some a, cap, (List.range len).map fun i => ⟨(q i).1, (q i).2⟩, by rw [el]; exact hcs, ?_, yq12, by unfold maxLen at hm; omega, ?_⟩
 ·refine ⟨rfl, by unfold maxLen at hm; omega, fun _ => ⟨a, rfl, fun j p hp => ?_⟩⟩
  have hj : j < len := by
   have := (List.getElem?_eq_some_iff.1 hp).1
   omega
  have ep : p = ⟨(q j).1, (q j).2⟩ := by
   rw [List.getElem?_map, List.getElem?_range hj] at hp
   exact (Option.some.inj hp).symm
  subst ep
  obtain ⟨h0, h1, _, _⟩ := hq j yq12
  refine ⟨[.string (q j).1, .string (q j).2], rfl, ⟨[_], [_], rfl, rfl, rfl⟩, fun i u hu => ?_⟩
  match i, hu with
  | 0, hu => obtain rfl := Option.some.inj hu; exact h0
  | 1, hu => obtain rfl := Option.some.inj hu; exact h1
 intro x hx
 obtain ⟨i, hi, rfl⟩ := List.mem_map.1 hx
 obtain ⟨_, _, z0, z1⟩ := hq i (by have := List.mem_range.1 hi; omega)
 unfold maxLen at z0 z1
 exact ⟨z0, z1⟩
end
theorem starE : "*" ++ "errors.errorString" = "*errors.errorString" := by decide
theorem rowE (u : TypeId) (h : Tryz.prog.typeName? 3 u = some "*errors.errorString") : u = 182 :=
 typeName_ptr_named (nm := "errors.errorString") (by rw [starE]; kernel_rfl) yq9 yq43 u (by rw [starE]; exact h)
theorem gt_of {W : World} (hL : laidMet Tryz.prog Rows.fnExactLocaleFaultRow.laid W) (hsh : W.ShapedOpen Tryz.prog) : GT W := by
 have h0 : laidMet Tryz.prog [("math/bits.deBruijn32tab", Rows.laid_math_bits_deBruijn32tab), ("math/bits.deBruijn64tab", Rows.laid_math_bits_deBruijn64tab), ("internal/strconv.uint64pow10", Rows.laid_internal_strconv_uint64pow10), ("unicode/utf8.acceptRanges", Rows.laid_unicode_utf8_acceptRanges), ("strconv.ErrRange", Rows.laid_strconv_ErrRange), ("strconv.ErrSyntax", Rows.laid_strconv_ErrSyntax), ("unicode/utf8.first", Rows.laid_unicode_utf8_first)] W := hL
 have h3 := h0.tail.tail
 have h5 := h3.tail.tail
 have h6 := h5.tail
 have e3 : (Rows.laid_internal_strconv_uint64pow10 : DataW Unit) = Lib.tabData .u64 Lib.pow10Tab := by kernel_rfl
 rw [e3] at h3
 refine ⟨?_, ?_, Lib.tabIs_of_head (g := 5) yq9 yq9 Tryz.underlying177 Tryz.underlying134 yq9 yq9 h3, ?_, tabs_of_reads (Lib.laidMet.reads h0 (.tail _ (.tail _ (.tail _ (.head _))))) (Lib.laidMet.reads h0 (.tail _ (.tail _ (.tail _ (.tail _ (.tail _ (.tail _ (.head _))))))))⟩
 ·obtain ⟨a, s, hv, _⟩ := laid_sentinel (g := 3) h6 yq9 yq9 Tryz.underlying148 rowE Tryz.underlying182 Tryz.underlying184 rfl rfl Tryz.underlying9 yq9 yq9
  exact ⟨_, _, hv⟩
 ·obtain ⟨a, s, hv, _⟩ := laid_sentinel (g := 4) h5 yq9 yq9 Tryz.underlying148 rowE Tryz.underlying182 Tryz.underlying184 rfl rfl Tryz.underlying9 yq9 yq9
  exact ⟨_, _, hv⟩
 exact cell_of_shapedOpen_int (t := 3) (zero := #[.int .i64 0]) hsh (of_decide_eq_true yq9) yq9 rfl yq9 yq9 Tryz.underlying3
end Go.Proofs.YtfafjbolmeimmaaGreatDoor.P
