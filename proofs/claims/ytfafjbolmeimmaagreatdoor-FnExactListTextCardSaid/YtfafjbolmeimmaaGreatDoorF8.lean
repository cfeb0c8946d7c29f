/- Parts of a proof: words of the print tool that this claim uses, or plain lists. -/
import Derived.Test.YtfafjbolmeimmaaGreatDoorAb
import Derived.Test.YtfafjbolmeimmaaGreatDoorF4
import Derived.Laws.CopyOwn
import Derived.Deep.CutBlock
import Derived.Test.YtfafjbolmeimmaaGreatDoorF1
namespace Go.Proofs.YtfafjbolmeimmaaGreatDoor.P
open Go.RowKit Go.Proofs.YtfafjbolmeimmaaGreatDoorW.PrintWords Go.Proofs.YtfafjbolmeimmaaGreatDoorW.PrintLast Go.Proofs.YtfafjbolmeimmaaGreatDoorW.PrintMore
set_option linter.unusedVariables false
set_option linter.unusedSimpArgs false
def CW (w : World) (f : FuncId) (args : Array Value) (v : Value) : Prop := ∀ w1, Below w.heap.size w w1 → Calls Tryz.prog f args w1 fun e w' => e = .returned v ∧ Below w1.heap.size w1 w'
theorem CW.go {w w1 : World} {f : FuncId} {args : Array Value} {v : Value} (h : CW w f args v) (hb : Below w.heap.size w w1) : Calls Tryz.prog f args w1 fun e w' => e = .returned v ∧ Below w1.heap.size w1 w' := h w1 hb
theorem drawn_bl {w w' : World} (h : zas w w') : Below w.heap.size w w' := by
 obtain ⟨n, rfl⟩ := h
 exact zab (Below.refl _ _) n
structure BX (w wc : World) (g : Nat) (t : TypeId) (vs : Array Value) : Prop where
 b : Below w.heap.size w wc
 k : wc.heap[g]? = some (.cells vs t (0, 0))
 g : w.heap.size ≤ g
theorem BX.step {w wc w' : World} {g : Nat} {t : TypeId} {vs : Array Value} (h : BX w wc g t vs) (hb : Below wc.heap.size wc w') : BX w w' g t vs := ⟨zao h.b hb, zaP h.k hb, h.g⟩
theorem BX.at {w wc : World} {g : Nat} {t : TypeId} {x0 x1 x2 x3 x4 x5 x6 x7 x8 x9 x10 x11 x12 x13 x14 : Value} (h : BX w wc g t #[x0, x1, x2, x3, x4, x5, x6, x7, x8, x9, x10, x11, x12, x13, x14]) : wc.cell? ⟨g, 0, none⟩ = some x0 ∧ wc.cell? ⟨g, 1, none⟩ = some x1 ∧ wc.cell? ⟨g, 2, none⟩ = some x2 ∧ wc.cell? ⟨g, 3, none⟩ = some x3 ∧ wc.cell? ⟨g, 4, none⟩ = some x4 ∧ wc.cell? ⟨g, 5, none⟩ = some x5 ∧ wc.cell? ⟨g, 6, none⟩ = some x6 ∧ wc.cell? ⟨g, 7, none⟩ = some x7 ∧ wc.cell? ⟨g, 8, none⟩ = some x8 ∧ wc.cell? ⟨g, 9, none⟩ = some x9 ∧ wc.cell? ⟨g, 10, none⟩ = some x10 ∧ wc.cell? ⟨g, 11, none⟩ = some x11 ∧ wc.cell? ⟨g, 12, none⟩ = some x12 ∧ wc.cell? ⟨g, 13, none⟩ = some x13 ∧ wc.cell? ⟨g, 14, none⟩ = some x14 :=
 ⟨(zad h.k 0).trans rfl, (zad h.k 1).trans rfl, (zad h.k 2).trans rfl, (zad h.k 3).trans rfl, (zad h.k 4).trans rfl, (zad h.k 5).trans rfl, (zad h.k 6).trans rfl, (zad h.k 7).trans rfl, (zad h.k 8).trans rfl, (zad h.k 9).trans rfl, (zad h.k 10).trans rfl, (zad h.k 11).trans rfl, (zad h.k 12).trans rfl, (zad h.k 13).trans rfl, (zad h.k 14).trans rfl⟩
theorem BX.row {w wc : World} {g : Nat} {t : TypeId} {zs : Array Value} (vs : Array Value) (h : BX w wc g t zs) : BX w (wc.setRow g vs) g t vs := ⟨below_setRow h.b h.g vs, setRow_heap wc g zs vs t (0, 0) h.k, h.g⟩
theorem BX.far {w wc : World} {g g' : Nat} {t : TypeId} {vs : Array Value} (h : BX w wc g t vs) (hne : g ≠ g') (hge : w.heap.size ≤ g') (us : Array Value) : BX w (wc.setRow g' us) g t vs := ⟨below_setRow h.b hge us, (setRow_other wc g' g us hne).trans h.k, h.g⟩
theorem BX.drew {w wc : World} {g : Nat} {t : TypeId} {vs : Array Value} (h : BX w wc g t vs) : BX w wc.drew g t vs := ⟨zae h.b, zal h.k, h.g⟩
end Go.Proofs.YtfafjbolmeimmaaGreatDoor.P
namespace Go.Proofs.YtfafjbolmeimmaaGreatDoor.P
open Go.RowKit Go.Proofs.YtfafjbolmeimmaaGreatDoorW.PrintWords Go.Proofs.YtfafjbolmeimmaaGreatDoorW.PrintLast Go.Proofs.YtfafjbolmeimmaaGreatDoorW.PrintMore
attribute [local go_sem] zbw zbx max_two min_two zbe zbd zbu zbv
set_option linter.unusedVariables false
set_option linter.unusedSimpArgs false
def spec_l01IsPoint.f (a0 : Int) : Option (Bool) := if a0 ≥ 0 then (if a0 ≤ 1114111 then (if a0 < 55296 then (some true) else (some (decide (a0 > 57343)))) else (some false)) else (some false)
set_option maxHeartbeats 8000000 in
set_option maxRecDepth 100000 in
theorem spec_l01IsPoint.calls (a0 : Int) (r : Bool) (w : World) (h : spec_l01IsPoint.f a0 = some r) :
  Calls Tryz.prog 118 #[.int .i64 a0] w fun e w' => e = .returned (.bool r) ∧ zas w w' := by
 have H : (if a0 ≥ 0 then (if a0 ≤ 1114111 then (if a0 < 55296 then (some true) else (some (decide (a0 > 57343)))) else (some false)) else (some false)) = some r := h
 clear h
 by_cases c2 : a0 ≥ 0
 ·rw [if_pos c2] at H
  have c2b0 : decide (0 ≤ a0) = true := decide_eq_true c2
  clear c2
  by_cases c3 : a0 ≤ 1114111
  ·rw [if_pos c3] at H
   have c3b0 : decide (a0 ≤ 1114111) = true := decide_eq_true c3
   clear c3
   by_cases c4 : a0 < 55296
   ·rw [if_pos c4] at H
    have c4b0 : decide (a0 < 55296) = true := decide_eq_true c4
    clear c4; obtain rfl := Option.some.inj H
    go_enter Tryz.func118, Tryz.ntmps118
    go_wp2
    go_ret
    exact ⟨yq4, yq10⟩
   rw [if_neg c4] at H
   have c4b0 : decide (a0 < 55296) = false := decide_eq_false c4
   clear c4; obtain rfl := Option.some.inj H
   go_enter Tryz.func118, Tryz.ntmps118
   go_wp2
   go_ret
   exact ⟨yq4, yq10⟩
  rw [if_neg c3] at H
  have c3b0 : decide (a0 ≤ 1114111) = false := decide_eq_false c3
  clear c3; obtain rfl := Option.some.inj H
  go_enter Tryz.func118, Tryz.ntmps118
  go_wp2
  go_ret
  exact ⟨yq4, yq10⟩
 rw [if_neg c2] at H
 have c2b0 : decide (0 ≤ a0) = false := decide_eq_false c2
 clear c2; obtain rfl := Option.some.inj H
 go_enter Tryz.func118, Tryz.ntmps118
 go_wp2
 go_ret
 exact ⟨yq4, yq10⟩
end Go.Proofs.YtfafjbolmeimmaaGreatDoor.P
namespace Go.Proofs.YtfafjbolmeimmaaGreatDoor.P
open Go.RowKit Go.Proofs.YtfafjbolmeimmaaGreatDoorW.PrintWords Go.Proofs.YtfafjbolmeimmaaGreatDoorW.PrintLast Go.Proofs.YtfafjbolmeimmaaGreatDoorW.PrintMore
attribute [local go_sem] zbw zbx max_two min_two zbe zbd zbu zbv
set_option linter.unusedVariables false
set_option linter.unusedSimpArgs false
def impl_block.f (a0 : Int) : Option (Int × Int) := if a0 ≥ 512 then (if a0 < 1280 then (some (Go.bits .andNot .i64 a0 255, Go.bits .and .i64 a0 255)) else (some (0, 0))) else (some (0, 0))
set_option maxHeartbeats 8000000 in
set_option maxRecDepth 100000 in
theorem impl_block.calls (a0 : Int) (r1 : Int) (r2 : Int) (w : World) (h : impl_block.f a0 = some (r1, r2)) :
  Calls Tryz.prog 126 #[.int .i64 a0] w fun e w' => e = .returned (.tuple #[.int .i64 r1, .int .i64 r2]) ∧ zas w w' := by
 have H : (if a0 ≥ 512 then (if a0 < 1280 then (some (Go.bits .andNot .i64 a0 255, Go.bits .and .i64 a0 255)) else (some (0, 0))) else (some (0, 0))) = some (r1, r2) := h
 clear h
 by_cases c2 : a0 ≥ 512
 ·rw [if_pos c2] at H
  have c2b0 : decide (512 ≤ a0) = true := decide_eq_true c2
  clear c2
  by_cases c3 : a0 < 1280
  ·rw [if_pos c3] at H
   have c3b0 : decide (a0 < 1280) = true := decide_eq_true c3
   clear c3
   simp only [Option.some.injEq, Prod.mk.injEq] at H
   obtain ⟨rfl, rfl⟩ := H
   go_enter Tryz.func126, Tryz.ntmps126
   go_wp2
   go_ret2
   exact ⟨yq4, yq10⟩
  rw [if_neg c3] at H
  have c3b0 : decide (a0 < 1280) = false := decide_eq_false c3
  clear c3
  simp only [Option.some.injEq, Prod.mk.injEq] at H
  obtain ⟨rfl, rfl⟩ := H
  go_enter Tryz.func126, Tryz.ntmps126
  go_wp2
  go_ret2
  exact ⟨yq4, yq10⟩
 rw [if_neg c2] at H
 have c2b0 : decide (512 ≤ a0) = false := decide_eq_false c2
 clear c2
 simp only [Option.some.injEq, Prod.mk.injEq] at H
 obtain ⟨rfl, rfl⟩ := H
 go_enter Tryz.func126, Tryz.ntmps126
 go_wp2
 go_ret2
 exact ⟨yq4, yq10⟩
end Go.Proofs.YtfafjbolmeimmaaGreatDoor.P
namespace Go.Proofs.YtfafjbolmeimmaaGreatDoor.P
open Go.RowKit Go.Proofs.YtfafjbolmeimmaaGreatDoorW.PrintWords
def utf8_DecodeRuneInString.f (a0 : ByteArray) : Option (Int × Int) := some (((Lib.decodeGo a0).1 : Int), ((Lib.decodeGo a0).2 : Int))
theorem utf8_DecodeRuneInString.calls (a0 : ByteArray) (r1 : Int) (r2 : Int) (w : World) (hG : GT w) (h : utf8_DecodeRuneInString.f a0 = some (r1, r2)) :
  Calls Tryz.prog 102 #[.string a0] w fun e w' => e = .returned (.tuple #[.int .i32 r1, .int .i64 r2]) ∧ Below w.heap.size w w' := by
 simp only [utf8_DecodeRuneInString.f, Option.some.injEq, Prod.mk.injEq] at h
 obtain ⟨rfl, rfl⟩ := h
 exact Tryz.utf8_DecodeRuneInString a0 w hG.tabs
def utf8_ValidString.f (a0 : ByteArray) : Option Bool := if a0.size ≤ 9223372036854775807 then some (Lib.validD a0.data.toList) else none
theorem utf8_ValidString.calls (a0 : ByteArray) (r : Bool) (w : World) (hG : GT w) (h : utf8_ValidString.f a0 = some r) :
  Calls Tryz.prog 77 #[.string a0] w fun e w' => e = .returned (.bool r) ∧ Below w.heap.size w w' := by
 unfold utf8_ValidString.f at h
 split at h
 ·cases h
  exact Tryz.utf8_ValidString a0 w (by assumption) hG.tabs
 cases h
def strings_Cut.f (a0 a1 : ByteArray) : Option (ByteArray × ByteArray × Bool) := if a0.size < 4294967281 then some (⟨(Lib.cut a0.data.toList a1.data.toList).1.toArray⟩, ⟨(Lib.cut a0.data.toList a1.data.toList).2.1.toArray⟩, (Lib.cut a0.data.toList a1.data.toList).2.2) else none
theorem strings_Cut.calls (a0 a1 : ByteArray) (r1 r2 : ByteArray) (r3 : Bool) (w : World) (hG : GT w) (h : strings_Cut.f a0 a1 = some (r1, r2, r3)) :
  Calls Tryz.prog 88 #[.string a0, .string a1] w fun e w' => e = .returned (.tuple #[.string r1, .string r2, .bool r3]) ∧ zas w w' := by
 unfold strings_Cut.f at h
 split at h
 ·rename_i hs
  simp only [Option.some.injEq, Prod.mk.injEq] at h
  obtain ⟨rfl, rfl, rfl⟩ := h
  obtain ⟨m, hm⟩ := hG.maxLen
  exact (Tryz.strings_Cut a0 a1 m w hs hm).mono fun _ _ h => ⟨h.1, ⟨h.2⟩⟩
 cases h
end Go.Proofs.YtfafjbolmeimmaaGreatDoor.P
namespace Go.Proofs.YtfafjbolmeimmaaGreatDoor.P
open Go.RowKit Go.Proofs.YtfafjbolmeimmaaGreatDoorW.PrintWords Go.Proofs.YtfafjbolmeimmaaGreatDoorW.PrintLast Go.Proofs.YtfafjbolmeimmaaGreatDoorW.PrintMore
attribute [local go_sem] zbw zbx max_two min_two zbe zbd zbu zbv
set_option linter.unusedVariables false
set_option linter.unusedSimpArgs false
def zah (w0 W : World) (g : Nat) (f0 : ByteArray) (f1 : Int) (f2 : Bool) : Prop := W.heap[g]? = some (.cells #[.string f0, .int .i64 f1, .bool f2] 119 (0, 0)) ∧ w0.heap.size ≤ g
theorem zah.grown {w0 W : World} {g : Nat} {f0 : ByteArray} {f1 : Int} {f2 : Bool} {W1 : World} {row : Option Nat} (h : zah w0 W g f0 f1 f2) (hw : W.grownBy W1 row) (hne : some g ≠ row) : zah w0 W1 g f0 f1 f2 := by
 obtain ⟨hb, hg⟩ := h
 exact ⟨blk_grown hb hw hne, hg⟩
theorem zah.below {w0 W : World} {g : Nat} {f0 : ByteArray} {f1 : Int} {f2 : Bool} {W1 : World} (h : zah w0 W g f0 f1 f2) (hw : Below W.heap.size W W1) : zah w0 W1 g f0 f1 f2 := h.grown (grown_of_below hw none) yq26
theorem zah.alloc {w0 W : World} {g : Nat} {f0 : ByteArray} {f1 : Int} {f2 : Bool} (h : zah w0 W g f0 f1 f2) (o : Obj) : zah w0 (W.alloc o) g f0 f1 f2 := h.below (zaf (Below.refl _ _) o)
theorem zah.drewN {w0 W : World} {g : Nat} {f0 : ByteArray} {f1 : Int} {f2 : Bool} (h : zah w0 W g f0 f1 f2) (m : Nat) : zah w0 (W.drewN m) g f0 f1 f2 := h
theorem zah.drew {w0 W : World} {g : Nat} {f0 : ByteArray} {f1 : Int} {f2 : Bool} (h : zah w0 W g f0 f1 f2) : zah w0 W.drew g f0 f1 f2 := h
theorem zah.lt {w0 W : World} {g : Nat} {f0 : ByteArray} {f1 : Int} {f2 : Bool} (h : zah w0 W g f0 f1 f2) : g < W.heap.size := by
 obtain ⟨hb, hg⟩ := h
 exact blk_lt hb
theorem zah.ge {w0 W : World} {g : Nat} {f0 : ByteArray} {f1 : Int} {f2 : Bool} (h : zah w0 W g f0 f1 f2) : w0.heap.size ≤ g := by
 obtain ⟨hb, hg⟩ := h
 exact hg
theorem zah.far {w0 W : World} {g : Nat} {f0 : ByteArray} {f1 : Int} {f2 : Bool} {p : Addr} (h : zah w0 W g f0 f1 f2) (hne : g ≠ p.block) (u : Value) : zah w0 (W.setCell p u) g f0 f1 f2 := by
 obtain ⟨hb, hg⟩ := h
 exact ⟨za5 hb hne u, hg⟩
theorem cellS119_0 {W : World} {g : Nat} {f0 : ByteArray} {f1 : Int} {f2 : Bool} (h : W.heap[g]? = some (.cells #[.string f0, .int .i64 f1, .bool f2] 119 (0, 0))) : W.cell? ⟨g, 0, none⟩ = some (.string f0) := (zad h 0).trans rfl
theorem zah.set_0 {w0 W : World} {g : Nat} {f0 : ByteArray} {f1 : Int} {f2 : Bool} (h : zah w0 W g f0 f1 f2) (x : ByteArray) : zah w0 (W.setCell ⟨g, 0, none⟩ (.string x)) g x f1 f2 := by
 obtain ⟨hb, hg⟩ := h
 exact ⟨by simpa using blk_set hb 0 (.string x), hg⟩
theorem cellS119_1 {W : World} {g : Nat} {f0 : ByteArray} {f1 : Int} {f2 : Bool} (h : W.heap[g]? = some (.cells #[.string f0, .int .i64 f1, .bool f2] 119 (0, 0))) : W.cell? ⟨g, 1, none⟩ = some (.int .i64 f1) := (zad h 1).trans rfl
theorem zah.set_1 {w0 W : World} {g : Nat} {f0 : ByteArray} {f1 : Int} {f2 : Bool} (h : zah w0 W g f0 f1 f2) (x : Int) : zah w0 (W.setCell ⟨g, 1, none⟩ (.int .i64 x)) g f0 x f2 := by
 obtain ⟨hb, hg⟩ := h
 exact ⟨by simpa using blk_set hb 1 (.int .i64 x), hg⟩
theorem cellS119_2 {W : World} {g : Nat} {f0 : ByteArray} {f1 : Int} {f2 : Bool} (h : W.heap[g]? = some (.cells #[.string f0, .int .i64 f1, .bool f2] 119 (0, 0))) : W.cell? ⟨g, 2, none⟩ = some (.bool f2) := (zad h 2).trans rfl
theorem zah.set_2 {w0 W : World} {g : Nat} {f0 : ByteArray} {f1 : Int} {f2 : Bool} (h : zah w0 W g f0 f1 f2) (x : Bool) : zah w0 (W.setCell ⟨g, 2, none⟩ (.bool x)) g f0 f1 x := by
 obtain ⟨hb, hg⟩ := h
 exact ⟨by simpa using blk_set hb 2 (.bool x), hg⟩
def spec_l04Reader_is.f (s0_0 : ByteArray) (s0_1 : Int) (s0_2 : Bool) (a1 : Int) : Option (Bool × ByteArray × Int × Bool) := if s0_2 = true then (some (false, s0_0, s0_1, s0_2)) else (if s0_1 < (s0_0.size : Int) then (if 0 ≤ s0_1 then (some (((bt s0_0 s0_1) == a1), s0_0, s0_1, s0_2)) else (none)) else (some (false, s0_0, s0_1, s0_2)))
set_option maxHeartbeats 8000000 in
set_option maxRecDepth 100000 in
theorem spec_l04Reader_is.calls (g : Nat) (s0_0 : ByteArray) (s0_1 : Int) (s0_2 : Bool) (a1 : Int) (r1 : Bool) (r2 : ByteArray) (r3 : Int) (r4 : Bool) (w0 w : World) (hI : zah w0 w g s0_0 s0_1 s0_2) (hB : Below w0.heap.size w0 w) (h : spec_l04Reader_is.f s0_0 s0_1 s0_2 a1 = some (r1, r2, r3, r4)) :
  Calls Tryz.prog 121 #[.pointer (some ⟨g, 0, none⟩), .int .u8 a1] w fun e w' => e = .returned (.bool r1) ∧ zah w0 w' g r2 r3 r4 ∧ Below w0.heap.size w0 w' ∧ KeepBut w w' g none := by
 have HI0 := zaa.mk hI
 have HK := zaa.mk (KeepBut.refl w g none)
 have HL := zaa.mk hB.size; clear hI; have HW0 := zaa.mk hB.size; have HB := zaa.mk hB; clear hB
 have H : (if s0_2 = true then (some (false, s0_0, s0_1, s0_2)) else (if s0_1 < (s0_0.size : Int) then (if 0 ≤ s0_1 then (some (((bt s0_0 s0_1) == a1), s0_0, s0_1, s0_2)) else (none)) else (some (false, s0_0, s0_1, s0_2)))) = some (r1, r2, r3, r4) := h
 clear h
 by_cases c3 : s0_2 = true
 ·subst c3
  replace H : (some (false, s0_0, s0_1, true)) = some (r1, r2, r3, r4) := by rw [if_pos rfl] at H; exact H
  simp only [Option.some.injEq, Prod.mk.injEq] at H
  obtain ⟨rfl, rfl, rfl, rfl⟩ := H
  obtain ⟨HGz4, hgz4⟩ := HI0.out
  have hcz4_0 := cellS119_0 HGz4
  have hcz4_1 := cellS119_1 HGz4
  have hcz4_2 := cellS119_2 HGz4
  have hfz4_0 := zac HGz4 0
  have hfz4_1 := zac HGz4 1
  have hfz4_2 := zac HGz4 2
  clear HGz4 hgz4
  go_enter Tryz.func121, Tryz.ntmps121
  go_wp2
  repeat (go_quiet (fail); try go_wp2)
  go_ret
  exact ⟨yq6, yq13 HI0.out, yq15 HB.out HI0.out, yq7 HK.out⟩
 replace c3 := Bool.eq_false_iff.mpr c3
 subst c3
 replace H : (if s0_1 < (s0_0.size : Int) then (if 0 ≤ s0_1 then (some (((bt s0_0 s0_1) == a1), s0_0, s0_1, false)) else (none)) else (some (false, s0_0, s0_1, false))) = some (r1, r2, r3, r4) := by rw [if_neg (show ¬ (false = true) by decide)] at H; exact H
 by_cases c5 : s0_1 < (s0_0.size : Int)
 ·rw [if_pos c5] at H
  have c5b0 : decide (s0_1 < (s0_0.size : Int)) = true := decide_eq_true c5
  clear c5
  by_cases c6 : 0 ≤ s0_1
  ·rw [if_pos c6] at H
   have c6b0 : decide (0 ≤ s0_1) = true := decide_eq_true c6
   clear c6
   simp only [Option.some.injEq, Prod.mk.injEq] at H
   obtain ⟨rfl, rfl, rfl, rfl⟩ := H
   obtain ⟨HGz8, hgz8⟩ := HI0.out
   have hcz8_0 := cellS119_0 HGz8
   have hcz8_1 := cellS119_1 HGz8
   have hcz8_2 := cellS119_2 HGz8
   have hfz8_0 := zac HGz8 0
   have hfz8_1 := zac HGz8 1
   have hfz8_2 := zac HGz8 2
   clear HGz8 hgz8
   have p7 : 0 ≤ (s0_1 : Int) := of_decide_eq_true yq1
   have q7 : s0_1 < (s0_0.size : Int) := of_decide_eq_true yq1
   have hx7 := bt_at s0_0 s0_1
   replace p7 := eq_true p7
   replace q7 := eq_true q7
   go_enter Tryz.func121, Tryz.ntmps121
   go_wp2
   repeat (go_quiet (fail); try go_wp2)
   go_ret
   exact ⟨yq6, yq13 HI0.out, yq15 HB.out HI0.out, yq7 HK.out⟩
  rw [if_neg c6] at H
  exact absurd H yq26
 rw [if_neg c5] at H
 have c5b0 : decide (s0_1 < (s0_0.size : Int)) = false := decide_eq_false c5
 clear c5
 simp only [Option.some.injEq, Prod.mk.injEq] at H
 obtain ⟨rfl, rfl, rfl, rfl⟩ := H
 obtain ⟨HGz9, hgz9⟩ := HI0.out
 have hcz9_0 := cellS119_0 HGz9
 have hcz9_1 := cellS119_1 HGz9
 have hcz9_2 := cellS119_2 HGz9
 have hfz9_0 := zac HGz9 0
 have hfz9_1 := zac HGz9 1
 have hfz9_2 := zac HGz9 2
 clear HGz9 hgz9
 go_enter Tryz.func121, Tryz.ntmps121
 go_wp2
 repeat (go_quiet (fail); try go_wp2)
 go_ret
 exact ⟨yq6, yq13 HI0.out, yq15 HB.out HI0.out, yq7 HK.out⟩
def zaw.f (s0_0 : ByteArray) (s0_1 : Int) (s0_2 : Bool) (a1 : Int) : Option (Bool × ByteArray × Int × Bool) := (spec_l04Reader_is.f s0_0 s0_1 s0_2 a1).bind fun bt181 => (if bt181.1 = true then (some (true, bt181.2.1, wrap64 (bt181.2.2.1 + 1), bt181.2.2.2)) else (some (false, bt181.2.1, bt181.2.2.1, bt181.2.2.2)))
set_option maxHeartbeats 8000000 in
set_option maxRecDepth 100000 in
theorem zaw.calls (g : Nat) (s0_0 : ByteArray) (s0_1 : Int) (s0_2 : Bool) (a1 : Int) (r1 : Bool) (r2 : ByteArray) (r3 : Int) (r4 : Bool) (w0 w : World) (hI : zah w0 w g s0_0 s0_1 s0_2) (hB : Below w0.heap.size w0 w) (h : zaw.f s0_0 s0_1 s0_2 a1 = some (r1, r2, r3, r4)) :
  Calls Tryz.prog 100 #[.pointer (some ⟨g, 0, none⟩), .int .u8 a1] w fun e w' => e = .returned (.bool r1) ∧ zah w0 w' g r2 r3 r4 ∧ Below w0.heap.size w0 w' ∧ KeepBut w w' g none := by
 have HI0 := zaa.mk hI
 have HK := zaa.mk (KeepBut.refl w g none)
 have HL := zaa.mk hB.size; clear hI; have HW0 := zaa.mk hB.size; have HB := zaa.mk hB; clear hB
 have H : ((spec_l04Reader_is.f s0_0 s0_1 s0_2 a1).bind fun bt181 => (if bt181.1 = true then (some (true, bt181.2.1, wrap64 (bt181.2.2.1 + 1), bt181.2.2.2)) else (some (false, bt181.2.1, bt181.2.2.1, bt181.2.2.2)))) = some (r1, r2, r3, r4) := h
 clear h; replace H := Option.bind_eq_some_iff.mp H
 obtain ⟨⟨t181, t182, t183, t184⟩, A30, H⟩ := H
 replace H : (if t181 = true then (some (true, t182, wrap64 (t183 + 1), t184)) else (some (false, t182, t183, t184))) = some (r1, r2, r3, r4) := H
 have A3 := zaa.mk A30; clear A30
 by_cases c4 : t181 = true
 ·subst c4
  replace H : (some (true, t182, wrap64 (t183 + 1), t184)) = some (r1, r2, r3, r4) := by rw [if_pos rfl] at H; exact H
  simp only [Option.some.injEq, Prod.mk.injEq] at H
  obtain ⟨rfl, rfl, rfl, rfl⟩ := H
  go_enter Tryz.func100, Tryz.ntmps100
  go_wp2_with (first | ((with_reducible refine zaz (f := 121) rfl ?_); refine zbh (some 7) rfl rfl Tryz.func121 yq9 rfl #[.pointer (some ⟨g, 0, none⟩), .int .u8 a1] rfl yq2 ?_; (with_reducible refine (spec_l04Reader_is.calls g s0_0 s0_1 s0_2 a1 true t182 t183 t184 w0 _ ?side1 ?side2 A3.out).mono ?_); (case side1 => repeat (first | (with_reducible first | exact HI0.out | apply zah.alloc | apply zah.drewN | apply zah.drew | apply zah.set_0 | apply zah.set_1 | apply zah.set_2) | exact HI0.out)); (case side2 => repeat (first | (with_reducible first | exact HB.out | apply zaf | apply zab | apply zae | refine zai ?_ (zah.ge HI0.out)) | exact HB.out)); rintro e w5 ⟨rfl, hi, hb, hk⟩; refine ⟨_, rfl, ?_⟩; have n0_ := zaa.mk (KeepBut.trans (yq7 HK.out) hk (.inl rfl)); have n1_ := zaa.mk (hb); have n2_ := zaa.mk (hi); clear HK HB HI0; have HK := n0_; have HB := n1_; have HI0 := n2_; clear n0_ n1_ n2_; (try clear hb); (try clear hb2); (try clear hk); (try clear hi); obtain ⟨HGz6, hgz6⟩ := HI0.out; have hcz6_0 := cellS119_0 HGz6; have hcz6_1 := cellS119_1 HGz6; have hcz6_2 := cellS119_2 HGz6; have hfz6_0 := zac HGz6 0; have hfz6_1 := zac HGz6 1; have hfz6_2 := zac HGz6 2; clear HGz6 hgz6))
  go_ret
  exact ⟨yq6, yq13 HI0.out, yq15 HB.out HI0.out, yq7 HK.out⟩
 replace c4 := Bool.eq_false_iff.mpr c4
 subst c4
 replace H : (some (false, t182, t183, t184)) = some (r1, r2, r3, r4) := by rw [if_neg (show ¬ (false = true) by decide)] at H; exact H
 simp only [Option.some.injEq, Prod.mk.injEq] at H
 obtain ⟨rfl, rfl, rfl, rfl⟩ := H
 go_enter Tryz.func100, Tryz.ntmps100
 go_wp2_with (first | ((with_reducible refine zaz (f := 121) rfl ?_); refine zbh (some 7) rfl rfl Tryz.func121 yq9 rfl #[.pointer (some ⟨g, 0, none⟩), .int .u8 a1] rfl yq2 ?_; (with_reducible refine (spec_l04Reader_is.calls g s0_0 s0_1 s0_2 a1 false t182 t183 t184 w0 _ ?side1 ?side2 A3.out).mono ?_); (case side1 => repeat (first | (with_reducible first | exact HI0.out | apply zah.alloc | apply zah.drewN | apply zah.drew | apply zah.set_0 | apply zah.set_1 | apply zah.set_2) | exact HI0.out)); (case side2 => repeat (first | (with_reducible first | exact HB.out | apply zaf | apply zab | apply zae | refine zai ?_ (zah.ge HI0.out)) | exact HB.out)); rintro e w7 ⟨rfl, hi, hb, hk⟩; refine ⟨_, rfl, ?_⟩; have n0_ := zaa.mk (KeepBut.trans (yq7 HK.out) hk (.inl rfl)); have n1_ := zaa.mk (hb); have n2_ := zaa.mk (hi); clear HK HB HI0; have HK := n0_; have HB := n1_; have HI0 := n2_; clear n0_ n1_ n2_; (try clear hb); (try clear hb2); (try clear hk); (try clear hi)))
 go_ret
 exact ⟨yq6, yq13 HI0.out, yq15 HB.out HI0.out, yq7 HK.out⟩
end Go.Proofs.YtfafjbolmeimmaaGreatDoor.P
