/- Written by a program of this session: plain Lean functions for Go functions, and for each the proof that the call comes to what the function says. -/
import Derived.Test.YtfafjbolmeimmaaDoorF0
import Derived.Test.YtfafjbolmeimmaaDoorF11
import Derived.Test.YtfafjbolmeimmaaDoorF13
import Derived.Test.YtfafjbolmeimmaaDoorF16
import Derived.Test.YtfafjbolmeimmaaDoorF17
namespace Go.Proofs.YtfafjbolmeimmaaDoor.P
open Go.RowKit Go.Proofs.YtfafjbolmeimmaaDoorW.PrintWords Go.Proofs.YtfafjbolmeimmaaDoorW.PrintLast Go.Proofs.YtfafjbolmeimmaaDoorW.PrintMore
attribute [local go_sem] max2_int min2_int max_two min_two max_three min_three max_four min_four
set_option linter.unusedVariables false
set_option linter.unusedSimpArgs false
def zaI.j0 : Nat → Bool → Int → ByteArray → Int → Option (Int)
 | 0, _, _, _, _ => none
 | k + 1, x26, x584000, x584001, x584002 => if x26 = true then (some 1) else (if x584001.toList = ([] : List UInt8) then (some 0) else ((impl_piece.f k x584000 x584001).bind fun bt585 => (if bt585.2.2.2 = true then (some 0) else (some 1))))
def zaI.f (k : Nat) (a0_0 : Int) (a0_1 : ByteArray) (a0_2 : Int) : Option (Int) := (impl_isForm.f a0_0).bind fun t584 => (if t584 = true then (if a0_2 < 0 then (zaI.j0 k true a0_0 a0_1 a0_2) else (if a0_2 > 1000000000000 then (zaI.j0 k true a0_0 a0_1 a0_2) else (zaI.j0 k (decide ((a0_1.size : Int) > 3)) a0_0 a0_1 a0_2))) else (zaI.j0 k true a0_0 a0_1 a0_2))
set_option maxHeartbeats 8000000 in
set_option maxRecDepth 100000 in
theorem zaI.calls (k : Nat) (a0_0 : Int) (a0_1 : ByteArray) (a0_2 : Int) (r : Int) (w : World) (hG : GT w) (h : zaI.f k a0_0 a0_1 a0_2 = some r) :
  Calls Tryd.prog 10 #[.agg #[.int .i64 a0_0, .string a0_1, .int .i64 a0_2]] w fun e w' => e = .returned (.int .i64 r) ∧ Below w.heap.size w w' := by
 have hu30 := Tryd.underlying30
 have HG := zab.mk hG; clear hG
 have HB := zab.mk (Below.refl w.heap.size w)
 have H : ((impl_isForm.f a0_0).bind fun t584 => (if t584 = true then (if a0_2 < 0 then (zaI.j0 k true a0_0 a0_1 a0_2) else (if a0_2 > 1000000000000 then (zaI.j0 k true a0_0 a0_1 a0_2) else (zaI.j0 k (decide ((a0_1.size : Int) > 3)) a0_0 a0_1 a0_2))) else (zaI.j0 k true a0_0 a0_1 a0_2))) = some r := h
 clear h; have HC2 := zab.mk H; clear H
 go_enter Tryd.func10, Tryd.ntmps10
 go_upto_region 1 with (first | ((with_reducible refine zbb (N := 1) rfl ?_); (try (refine gate_guard (by rfl) ?_; dsimp only)); refine zbs ?hg (N := 1) ?hd (cs := #[.int .i64 a0_0, .string a0_1, .int .i64 a0_2]) (t := 30) ?hr ?_; (case hd => rfl); (case hg => rfl); (case hr => first | (go_simp; done) | (go_simp; rfl)); intro gb583 hg w3 hbox hb; have n0_ := zab.mk (zau HB.out hb); have n1_ := zab.mk (hbox); have n2_ := zab.mk ((by rw [hg]; exact (zav HB.out) : w.heap.size ≤ gb583)); have n3_ := zab.mk ((by rw [hg]; exact (zav HB.out) : w.heap.size ≤ gb583)); clear HB; have HB := n0_; have BK583 := n1_; have GW583 := n2_; have GE583 := n3_; clear n0_ n1_ n2_ n3_ hb hbox hg))
 (try simp only [Act.put, List.setIfInBounds_toArray, List.set_cons_zero, List.set_cons_succ])
 go_cut [26] (fun v26 wc => ∃ (kq : Nat) (x26_1 : Bool), v26 = .bool x26_1 ∧ zab (zaI.j0 kq x26_1 a0_0 a0_1 a0_2 = some r) ∧ zab (kq ≤ k) ∧ zab (wc.heap[gb583]? = some (.cells #[.int .i64 a0_0, .string a0_1, .int .i64 a0_2] 30 (0, 0))) ∧ zab (Below w.heap.size w wc))
 case first =>
  have H := HC2.out; clear HC2; replace H := Option.bind_eq_some_iff.mp H
  obtain ⟨t584, A40, H⟩ := H
  replace H : (if t584 = true then (if a0_2 < 0 then (zaI.j0 k true a0_0 a0_1 a0_2) else (if a0_2 > 1000000000000 then (zaI.j0 k true a0_0 a0_1 a0_2) else (zaI.j0 k (decide ((a0_1.size : Int) > 3)) a0_0 a0_1 a0_2))) else (zaI.j0 k true a0_0 a0_1 a0_2)) = some r := H
  have A4 := zab.mk A40; clear A40
  by_cases c5 : t584 = true
  ·subst c5
   replace H : (if a0_2 < 0 then (zaI.j0 k true a0_0 a0_1 a0_2) else (if a0_2 > 1000000000000 then (zaI.j0 k true a0_0 a0_1 a0_2) else (zaI.j0 k (decide ((a0_1.size : Int) > 3)) a0_0 a0_1 a0_2))) = some r := by rw [if_pos rfl] at H; exact H
   by_cases c6 : a0_2 < 0
   ·rw [if_pos c6] at H
    have c6b0 : decide (a0_2 < 0) = true := decide_eq_true c6
    clear c6
    (first | rw [c6b0] | rw [c6b1] | (simp only [zaR, zaS]; rw [c6b0]) | skip)
    have H' := zab.mk H; clear H
    have hcz7_0 : w3.cell? ⟨gb583, 0, none⟩ = some (.int .i64 a0_0) := (zal BK583.out 0).trans rfl
    have hcz7_1 : w3.cell? ⟨gb583, 1, none⟩ = some (.string a0_1) := (zal BK583.out 1).trans rfl
    have hcz7_2 : w3.cell? ⟨gb583, 2, none⟩ = some (.int .i64 a0_2) := (zal BK583.out 2).trans rfl
    have hfz7_0 := zam BK583.out 0
    have hfz7_1 := zam BK583.out 1
    have hfz7_2 := zam BK583.out 2
    go_wp2_with (first | ((with_reducible refine zan (f := 25) rfl ?_); refine zaN (some 9) rfl rfl Tryd.func25 (by kernel_rfl) rfl #[.int .i64 a0_0] rfl (by (try simp only [List.map_toArray, List.map_cons, List.map_nil]); first | done | rfl | (simp only [List.length_drop, List.length_take]; rfl)) ?_; (with_reducible refine (impl_isForm.calls a0_0 true _ A4.out).mono ?_); rintro e w' ⟨rfl, ⟨nd, rfl⟩⟩; refine ⟨_, rfl, ?_⟩))
    go_meet
    case rel => exact ⟨_, (true), rfl, H', ⟨by first | omega | exact Nat.le_refl _⟩, ⟨by (with_reducible repeat (first | refine zai ?_ _ | refine zak ?_ | refine zah ?_ _)); exact BK583.out⟩, ⟨by repeat (first | (with_reducible first | exact HB.out | apply zad | apply zaa | apply zac | refine zae ?_ GE583.out) | exact HB.out)⟩⟩
   rw [if_neg c6] at H
   have c6b0 : decide (a0_2 < 0) = false := decide_eq_false c6
   clear c6
   (first | rw [c6b0] | rw [c6b1] | (simp only [zaR, zaS]; rw [c6b0]) | skip)
   by_cases c8 : a0_2 > 1000000000000
   ·rw [if_pos c8] at H
    have c8b0 : decide (1000000000000 < a0_2) = true := decide_eq_true c8
    clear c8; have H' := zab.mk H; clear H
    have hcz9_0 : w3.cell? ⟨gb583, 0, none⟩ = some (.int .i64 a0_0) := (zal BK583.out 0).trans rfl
    have hcz9_1 : w3.cell? ⟨gb583, 1, none⟩ = some (.string a0_1) := (zal BK583.out 1).trans rfl
    have hcz9_2 : w3.cell? ⟨gb583, 2, none⟩ = some (.int .i64 a0_2) := (zal BK583.out 2).trans rfl
    have hfz9_0 := zam BK583.out 0
    have hfz9_1 := zam BK583.out 1
    have hfz9_2 := zam BK583.out 2
    go_wp2_with (first | ((with_reducible refine zan (f := 25) rfl ?_); refine zaN (some 9) rfl rfl Tryd.func25 (by kernel_rfl) rfl #[.int .i64 a0_0] rfl (by (try simp only [List.map_toArray, List.map_cons, List.map_nil]); first | done | rfl | (simp only [List.length_drop, List.length_take]; rfl)) ?_; (with_reducible refine (impl_isForm.calls a0_0 true _ A4.out).mono ?_); rintro e w' ⟨rfl, ⟨nd, rfl⟩⟩; refine ⟨_, rfl, ?_⟩))
    go_meet
    case rel => exact ⟨_, (true), rfl, H', ⟨by first | omega | exact Nat.le_refl _⟩, ⟨by (with_reducible repeat (first | refine zai ?_ _ | refine zak ?_ | refine zah ?_ _)); exact BK583.out⟩, ⟨by repeat (first | (with_reducible first | exact HB.out | apply zad | apply zaa | apply zac | refine zae ?_ GE583.out) | exact HB.out)⟩⟩
   rw [if_neg c8] at H
   have c8b0 : decide (1000000000000 < a0_2) = false := decide_eq_false c8
   clear c8; have H' := zab.mk H; clear H
   have hcz10_0 : w3.cell? ⟨gb583, 0, none⟩ = some (.int .i64 a0_0) := (zal BK583.out 0).trans rfl
   have hcz10_1 : w3.cell? ⟨gb583, 1, none⟩ = some (.string a0_1) := (zal BK583.out 1).trans rfl
   have hcz10_2 : w3.cell? ⟨gb583, 2, none⟩ = some (.int .i64 a0_2) := (zal BK583.out 2).trans rfl
   have hfz10_0 := zam BK583.out 0
   have hfz10_1 := zam BK583.out 1
   have hfz10_2 := zam BK583.out 2
   go_wp2_with (first | ((with_reducible refine zan (f := 25) rfl ?_); refine zaN (some 9) rfl rfl Tryd.func25 (by kernel_rfl) rfl #[.int .i64 a0_0] rfl (by (try simp only [List.map_toArray, List.map_cons, List.map_nil]); first | done | rfl | (simp only [List.length_drop, List.length_take]; rfl)) ?_; (with_reducible refine (impl_isForm.calls a0_0 true _ A4.out).mono ?_); rintro e w' ⟨rfl, ⟨nd, rfl⟩⟩; refine ⟨_, rfl, ?_⟩))
   go_meet
   case rel => exact ⟨_, (decide ((a0_1.size : Int) > 3)), rfl, H', ⟨by first | omega | exact Nat.le_refl _⟩, ⟨by (with_reducible repeat (first | refine zai ?_ _ | refine zak ?_ | refine zah ?_ _)); exact BK583.out⟩, ⟨by repeat (first | (with_reducible first | exact HB.out | apply zad | apply zaa | apply zac | refine zae ?_ GE583.out) | exact HB.out)⟩⟩
  replace c5 := Bool.eq_false_iff.mpr c5
  subst c5
  replace H : (zaI.j0 k true a0_0 a0_1 a0_2) = some r := by rw [if_neg (show ¬ (false = true) by decide)] at H; exact H
  have H' := zab.mk H; clear H
  have hcz11_0 : w3.cell? ⟨gb583, 0, none⟩ = some (.int .i64 a0_0) := (zal BK583.out 0).trans rfl
  have hcz11_1 : w3.cell? ⟨gb583, 1, none⟩ = some (.string a0_1) := (zal BK583.out 1).trans rfl
  have hcz11_2 : w3.cell? ⟨gb583, 2, none⟩ = some (.int .i64 a0_2) := (zal BK583.out 2).trans rfl
  have hfz11_0 := zam BK583.out 0
  have hfz11_1 := zam BK583.out 1
  have hfz11_2 := zam BK583.out 2
  go_wp2_with (first | ((with_reducible refine zan (f := 25) rfl ?_); refine zaN (some 9) rfl rfl Tryd.func25 (by kernel_rfl) rfl #[.int .i64 a0_0] rfl (by (try simp only [List.map_toArray, List.map_cons, List.map_nil]); first | done | rfl | (simp only [List.length_drop, List.length_take]; rfl)) ?_; (with_reducible refine (impl_isForm.calls a0_0 false _ A4.out).mono ?_); rintro e w' ⟨rfl, ⟨nd, rfl⟩⟩; refine ⟨_, rfl, ?_⟩))
  go_meet
  case rel => exact ⟨_, (true), rfl, H', ⟨by first | omega | exact Nat.le_refl _⟩, ⟨by (with_reducible repeat (first | refine zai ?_ _ | refine zak ?_ | refine zah ?_ _)); exact BK583.out⟩, ⟨by repeat (first | (with_reducible first | exact HB.out | apply zad | apply zaa | apply zac | refine zae ?_ GE583.out) | exact HB.out)⟩⟩
 case rest =>
  clear HC2
  obtain ⟨kq, x26_1, rfl, HA, HJ1, BK583, HB⟩ := hcut
  cases kq with
  | zero => exact absurd HA.out (by simp [zaI.j0])
  | succ kj1 =>
   have H := HA.out; clear HA
   simp only [zaI.j0] at H
   by_cases c12 : x26_1 = true
   ·subst c12
    replace H : (some 1) = some r := by rw [if_pos rfl] at H; exact H
    obtain rfl := Option.some.inj H
    go_wp2
    go_ret
    exact ⟨by first | rfl | (simp [zar, zas] <;> rfl) | (simp [*, zar, zas] <;> rfl), by repeat (first | (with_reducible first | exact HB.out | apply zad | apply zaa | apply zac | refine zae ?_ GE583.out) | exact HB.out)⟩
   replace c12 := Bool.eq_false_iff.mpr c12
   subst c12
   replace H : (if a0_1.toList = ([] : List UInt8) then (some 0) else ((impl_piece.f kj1 a0_0 a0_1).bind fun bt585 => (if bt585.2.2.2 = true then (some 0) else (some 1)))) = some r := by rw [if_neg (show ¬ (false = true) by decide)] at H; exact H
   by_cases c13 : a0_1.toList = ([] : List UInt8)
   ·rw [if_pos c13] at H
    have c13b0 : (a0_1.toList == ([] : List UInt8)) = true := beq_iff_eq.mpr c13
    have c13b1 : (a0_1.toList != ([] : List UInt8)) = false := bne_eq_false_iff_eq.mpr c13
    clear c13; obtain rfl := Option.some.inj H
    have hcz14_0 : wc.cell? ⟨gb583, 0, none⟩ = some (.int .i64 a0_0) := (zal BK583.out 0).trans rfl
    have hcz14_1 : wc.cell? ⟨gb583, 1, none⟩ = some (.string a0_1) := (zal BK583.out 1).trans rfl
    have hcz14_2 : wc.cell? ⟨gb583, 2, none⟩ = some (.int .i64 a0_2) := (zal BK583.out 2).trans rfl
    have hfz14_0 := zam BK583.out 0
    have hfz14_1 := zam BK583.out 1
    have hfz14_2 := zam BK583.out 2
    go_wp2
    go_ret
    exact ⟨by first | rfl | (simp [zar, zas] <;> rfl) | (simp [*, zar, zas] <;> rfl), by repeat (first | (with_reducible first | exact HB.out | apply zad | apply zaa | apply zac | refine zae ?_ GE583.out) | exact HB.out)⟩
   rw [if_neg c13] at H
   have c13b0 : (a0_1.toList == ([] : List UInt8)) = false := beq_eq_false_iff_ne.mpr c13
   have c13b1 : (a0_1.toList != ([] : List UInt8)) = true := bne_iff_ne.mpr c13
   replace H := Option.bind_eq_some_iff.mp H
   obtain ⟨⟨t585, t586, t587, t588⟩, A150, H⟩ := H
   replace H : (if t588 = true then (some 0) else (some 1)) = some r := H
   have A15 := zab.mk A150; clear A150
   by_cases c16 : t588 = true
   ·subst c16
    replace H : (some 0) = some r := by rw [if_pos rfl] at H; exact H
    obtain rfl := Option.some.inj H
    have hcz17_0 : wc.cell? ⟨gb583, 0, none⟩ = some (.int .i64 a0_0) := (zal BK583.out 0).trans rfl
    have hcz17_1 : wc.cell? ⟨gb583, 1, none⟩ = some (.string a0_1) := (zal BK583.out 1).trans rfl
    have hcz17_2 : wc.cell? ⟨gb583, 2, none⟩ = some (.int .i64 a0_2) := (zal BK583.out 2).trans rfl
    have hfz17_0 := zam BK583.out 0
    have hfz17_1 := zam BK583.out 1
    have hfz17_2 := zam BK583.out 2
    go_wp2_with (first | ((with_reducible refine zan (f := 28) rfl ?_); refine zaN (some 35) rfl rfl Tryd.func28 (by kernel_rfl) rfl #[.int .i64 a0_0, .string a0_1] rfl (by (try simp only [List.map_toArray, List.map_cons, List.map_nil]); first | done | rfl | (simp only [List.length_drop, List.length_take]; rfl)) ?_; (with_reducible refine (impl_piece.calls kj1 a0_0 a0_1 t585 t586 t587 true _ ?side1 A15.out).mono ?_); (case side1 => exact GT_below HG.out HB.out); rintro e w18 ⟨rfl, hb⟩; refine ⟨_, rfl, ?_⟩; have n0_ := zab.mk (zaL (g := gb583) (o := .cells #[.int .i64 a0_0, .string a0_1, .int .i64 a0_2] 30 (0, 0)) BK583.out hb); have n1_ := zab.mk (zau HB.out hb); clear BK583 HB; have BK583 := n0_; have HB := n1_; clear n0_ n1_; (try clear hb); (try clear hb2); (try clear hk); (try clear hi)))
    go_ret
    exact ⟨by first | rfl | (simp [zar, zas] <;> rfl) | (simp [*, zar, zas] <;> rfl), by repeat (first | (with_reducible first | exact HB.out | apply zad | apply zaa | apply zac | refine zae ?_ GE583.out) | exact HB.out)⟩
   replace c16 := Bool.eq_false_iff.mpr c16
   subst c16
   replace H : (some 1) = some r := by rw [if_neg (show ¬ (false = true) by decide)] at H; exact H
   obtain rfl := Option.some.inj H
   have hcz19_0 : wc.cell? ⟨gb583, 0, none⟩ = some (.int .i64 a0_0) := (zal BK583.out 0).trans rfl
   have hcz19_1 : wc.cell? ⟨gb583, 1, none⟩ = some (.string a0_1) := (zal BK583.out 1).trans rfl
   have hcz19_2 : wc.cell? ⟨gb583, 2, none⟩ = some (.int .i64 a0_2) := (zal BK583.out 2).trans rfl
   have hfz19_0 := zam BK583.out 0
   have hfz19_1 := zam BK583.out 1
   have hfz19_2 := zam BK583.out 2
   go_wp2_with (first | ((with_reducible refine zan (f := 28) rfl ?_); refine zaN (some 35) rfl rfl Tryd.func28 (by kernel_rfl) rfl #[.int .i64 a0_0, .string a0_1] rfl (by (try simp only [List.map_toArray, List.map_cons, List.map_nil]); first | done | rfl | (simp only [List.length_drop, List.length_take]; rfl)) ?_; (with_reducible refine (impl_piece.calls kj1 a0_0 a0_1 t585 t586 t587 false _ ?side1 A15.out).mono ?_); (case side1 => exact GT_below HG.out HB.out); rintro e w20 ⟨rfl, hb⟩; refine ⟨_, rfl, ?_⟩; have n0_ := zab.mk (zaL (g := gb583) (o := .cells #[.int .i64 a0_0, .string a0_1, .int .i64 a0_2] 30 (0, 0)) BK583.out hb); have n1_ := zab.mk (zau HB.out hb); clear BK583 HB; have BK583 := n0_; have HB := n1_; clear n0_ n1_; (try clear hb); (try clear hb2); (try clear hk); (try clear hi)))
   go_ret
   exact ⟨by first | rfl | (simp [zar, zas] <;> rfl) | (simp [*, zar, zas] <;> rfl), by repeat (first | (with_reducible first | exact HB.out | apply zad | apply zaa | apply zac | refine zae ?_ GE583.out) | exact HB.out)⟩
def zaO.l0 : Nat → ByteArray → ByteArray → List Int → ByteArray → Int → Int → Int → ByteArray → Int → Option (Int × Int × ByteArray × Int × ByteArray × List Int)
 | 0, _, _, _, _, _, _, _, _, _ => none
 | k + 1, x1, x7, x8, x9, x24, x25, x590000, x590001, x590002 => if x25 < x24 then (if 0 ≤ x25 then (if x25 < (x8.length : Int) then (zaO.l0 k x1 x7 (x8.set (x25 : Int).toNat (wrap64 ((rd x8 x25) + x590002))) x9 x24 (wrap64 (x25 + 1)) x590000 x590001 x590002) else (none)) else (none)) else (some (0, x590000, x9, wrap64 (x590002 + (wrap64 ((x1.size : Int) - (x9.size : Int)))), x7, x8))
def zaO.f (k : Nat) (a0_0 : Int) (a0_1 : ByteArray) (a0_2 : Int) (a1 : ByteArray) (a2 : Bool) : Option (Int × Int × ByteArray × Int × ByteArray × List Int) := (zaQ.f k a0_0 a1 a2).bind fun bt591 => ((zbw.f bt591.1).bind fun t596 => (if t596 = true then (some (2, 0, (⟨#[]⟩ : ByteArray), 0, (⟨#[]⟩ : ByteArray), ([] : List Int))) else (zaO.l0 k a1 bt591.1 bt591.2.1 bt591.2.2 (bt591.2.1.length : Int) 0 a0_0 a0_1 a0_2)))
def zaO.T7 : Bool × List (List Nat × List Nat) := (true, [([], []), ([], []), ([0, 1], [0, 1]), ([2], [2]), ([], []), ([4], [4]), ([3, 5], [3, 5]), ([0, 1, 0, 1, 2, 3, 4, 5, 6], [0, 1]), ([7, 6, 0, 1, 2, 3, 4, 5, 6], [6, 7])])
def zaO.B7 : List Nat := [0, 0, 3, 7, 0, 16, 63, 127, 255]
theorem zaO.tab7 : rtab .any (opsOf Tryd.f27 7) = zaO.T7 := by kernel_rfl
theorem zaO.bits7 : waitsOk zaO.T7.2 zaO.B7 = true := by kernel_rfl
set_option maxHeartbeats 8000000 in
set_option maxRecDepth 100000 in
theorem zaO.calls (k : Nat) (a0_0 : Int) (a0_1 : ByteArray) (a0_2 : Int) (a1 : ByteArray) (a2 : Bool) (r1 : Int) (r2 : Int) (r3 : ByteArray) (r4 : Int) (r5 : ByteArray) (r6 : List Int) (w : World) (hG : GT w) (h : zaO.f k a0_0 a0_1 a0_2 a1 a2 = some (r1, r2, r3, r4, r5, r6)) :
  Calls Tryd.prog 27 #[.agg #[.int .i64 a0_0, .string a0_1, .int .i64 a0_2], .string a1, .bool a2] w fun e w' => ∃ v5_ : Value, e = .returned (.agg #[.int .i64 r1, .int .i64 r2, .string r3, .int .i64 r4, .string r5, v5_]) ∧ Kd.R (Kd.int .i64) 2 w' w.heap.size (fun _ => True) v5_ r6 ∧ Below w.heap.size w w' := by
 have hu30 := Tryd.underlying30
 have hu33 := Tryd.underlying33
 have HG := zab.mk hG; clear hG
 have HB := zab.mk (Below.refl w.heap.size w)
 have H : ((zaQ.f k a0_0 a1 a2).bind fun bt591 => ((zbw.f bt591.1).bind fun t596 => (if t596 = true then (some (2, 0, (⟨#[]⟩ : ByteArray), 0, (⟨#[]⟩ : ByteArray), ([] : List Int))) else (zaO.l0 k a1 bt591.1 bt591.2.1 bt591.2.2 (bt591.2.1.length : Int) 0 a0_0 a0_1 a0_2)))) = some (r1, r2, r3, r4, r5, r6) := h
 clear h; replace H := Option.bind_eq_some_iff.mp H
 obtain ⟨⟨t591, t592, t593⟩, A40, H⟩ := H
 replace H : ((zbw.f t591).bind fun t596 => (if t596 = true then (some (2, 0, (⟨#[]⟩ : ByteArray), 0, (⟨#[]⟩ : ByteArray), ([] : List Int))) else (zaO.l0 k a1 t591 t592 t593 (t592.length : Int) 0 a0_0 a0_1 a0_2))) = some (r1, r2, r3, r4, r5, r6) := H
 have A4 := zab.mk A40; clear A40; replace H := Option.bind_eq_some_iff.mp H
 obtain ⟨t596, A50, H⟩ := H
 replace H : (if t596 = true then (some (2, 0, (⟨#[]⟩ : ByteArray), 0, (⟨#[]⟩ : ByteArray), ([] : List Int))) else (zaO.l0 k a1 t591 t592 t593 (t592.length : Int) 0 a0_0 a0_1 a0_2)) = some (r1, r2, r3, r4, r5, r6) := H
 have A5 := zab.mk A50; clear A50
 by_cases c6 : t596 = true
 ·subst c6
  replace H : (some (2, 0, (⟨#[]⟩ : ByteArray), 0, (⟨#[]⟩ : ByteArray), ([] : List Int))) = some (r1, r2, r3, r4, r5, r6) := by rw [if_pos rfl] at H; exact H
  simp only [Option.some.injEq, Prod.mk.injEq] at H
  obtain ⟨rfl, rfl, rfl, rfl, rfl, rfl⟩ := H
  go_enter Tryd.func27, Tryd.ntmps27
  go_wp2_with (first | ((with_reducible refine zbb (N := 3) rfl ?_); refine zbs ?hg (N := 3) ?hd (cs := #[.int .i64 a0_0, .string a0_1, .int .i64 a0_2]) (t := 30) ?hr ?_; (case hd => rfl); (case hg => rfl); (case hr => first | (go_simp; done) | (go_simp; rfl)); intro gb589 hg w7 hbox hb; have n0_ := zab.mk (zau HB.out hb); have n1_ := zab.mk (hbox); have n2_ := zab.mk ((by rw [hg]; exact (zav HB.out) : w.heap.size ≤ gb589)); have n3_ := zab.mk ((by rw [hg]; exact (zav HB.out) : w.heap.size ≤ gb589)); clear HB; have HB := n0_; have BK589 := n1_; have GW589 := n2_; have GE589 := n3_; clear n0_ n1_ n2_ n3_ hb hbox hg) | ((with_reducible refine zbb (N := 6) rfl ?_); refine zbs ?hg (N := 6) ?hd (cs := #[.int .i64 0, .int .i64 0, .string (⟨#[]⟩ : ByteArray), .int .i64 0, .string (⟨#[]⟩ : ByteArray), .slice none 0 0]) (t := 33) ?hr ?_; (case hd => rfl); (case hg => rfl); (case hr => first | (go_simp; done) | (go_simp; rfl)); intro gb590 hg w8 hbox hb; have n0_ := zab.mk (zaL (g := gb589) (o := .cells #[.int .i64 a0_0, .string a0_1, .int .i64 a0_2] 30 (0, 0)) BK589.out hb); have n1_ := zab.mk (zau HB.out hb); have n2_ := zab.mk (hbox); have n3_ := zab.mk ((by rw [hg]; exact (zav HB.out) : w.heap.size ≤ gb590)); have n4_ := zab.mk ((by rw [hg]; exact (zav HB.out) : w.heap.size ≤ gb590)); have n5_ := zab.mk ((by rw [hg]; exact Nat.ne_of_lt (blk_lt (g := gb589) (o := .cells #[.int .i64 a0_0, .string a0_1, .int .i64 a0_2] 30 (0, 0)) BK589.out) : gb589 ≠ gb590)); have n6_ := zab.mk ((by rw [hg]; exact Nat.ne_of_gt (blk_lt (g := gb589) (o := .cells #[.int .i64 a0_0, .string a0_1, .int .i64 a0_2] 30 (0, 0)) BK589.out) : gb590 ≠ gb589)); clear BK589 HB; have BK589 := n0_; have HB := n1_; have BK590 := n2_; have GW590 := n3_; have GE590 := n4_; have NB589_590 := n5_; have NB590_589 := n6_; clear n0_ n1_ n2_ n3_ n4_ n5_ n6_ hb hbox hg; have hnb9 := NB589_590.out; have hnc9 := NB590_589.out; have hcz10_0 : w8.cell? ⟨gb589, 0, none⟩ = some (.int .i64 a0_0) := (zal BK589.out 0).trans rfl; have hcz10_1 : w8.cell? ⟨gb589, 1, none⟩ = some (.string a0_1) := (zal BK589.out 1).trans rfl; have hcz10_2 : w8.cell? ⟨gb589, 2, none⟩ = some (.int .i64 a0_2) := (zal BK589.out 2).trans rfl; have hfz10_0 := zam BK589.out 0; have hfz10_1 := zam BK589.out 1; have hfz10_2 := zam BK589.out 2) | ((with_reducible refine zan (f := 26) rfl ?_); refine zaN (some 16) rfl rfl Tryd.func26 (by kernel_rfl) rfl #[.int .i64 a0_0, .string a1, .bool a2] rfl (by (try simp only [List.map_toArray, List.map_cons, List.map_nil]); first | done | rfl | (simp only [List.length_drop, List.length_take]; rfl)) ?_; (with_reducible refine (zaQ.calls k a0_0 a1 a2 t591 t592 t593 _ ?side1 A4.out).mono ?_); (case side1 => exact GT_below HG.out HB.out); rintro e w11 ⟨v594, rfl, ho0, hb⟩; refine ⟨_, rfl, ?_⟩; have n0_ := zab.mk (Kd.zbm ho0 (zav HB.out)); have n1_ := zab.mk (zaL (g := gb589) (o := .cells #[.int .i64 a0_0, .string a0_1, .int .i64 a0_2] 30 (0, 0)) BK589.out hb); have n2_ := zab.mk (zaL (g := gb590) (o := .cells #[.int .i64 0, .int .i64 0, .string (⟨#[]⟩ : ByteArray), .int .i64 0, .string (⟨#[]⟩ : ByteArray), .slice none 0 0] 33 (0, 0)) BK590.out hb); have n3_ := zab.mk (zau HB.out hb); clear BK589 BK590 HB; have HO595 := n0_; have BK589 := n1_; have BK590 := n2_; have HB := n3_; clear n0_ n1_ n2_ n3_; (try clear hb); (try clear hb2); (try clear hk); (try clear hi); (try clear ho0)) | ((with_reducible refine zan (f := 24) rfl ?_); refine zaN (some 21) rfl rfl Tryd.func24 (by kernel_rfl) rfl #[.string t591] rfl (by (try simp only [List.map_toArray, List.map_cons, List.map_nil]); first | done | rfl | (simp only [List.length_drop, List.length_take]; rfl)) ?_; (with_reducible refine (zbw.calls t591 true _ A5.out).mono ?_); rintro e w' ⟨rfl, ⟨nd, rfl⟩⟩; refine ⟨_, rfl, ?_⟩; (try (rw [drewN_self w11]; generalize hq_ : World.drewN w11 _ = w11; have n0_ : zab (Kd.R (Kd.int .i64) 2 w11 w.heap.size (fun _ => True) v594 t592) := ⟨by rw [← hq_]; exact (by (with_reducible repeat (first | apply Kd.R_alloc | apply Kd.zat | apply Kd.zaw)); exact HO595.out)⟩; have n1_ : zab (w11.heap[gb589]? = some (.cells #[.int .i64 a0_0, .string a0_1, .int .i64 a0_2] 30 (0, 0))) := ⟨by rw [← hq_]; exact (by (with_reducible repeat (first | refine zai ?_ _ | refine zak ?_ | refine zah ?_ _)); exact BK589.out)⟩; have n2_ : zab (w11.heap[gb590]? = some (.cells #[.int .i64 0, .int .i64 0, .string (⟨#[]⟩ : ByteArray), .int .i64 0, .string (⟨#[]⟩ : ByteArray), .slice none 0 0] 33 (0, 0))) := ⟨by rw [← hq_]; exact (by (with_reducible repeat (first | refine zai ?_ _ | refine zak ?_ | refine zah ?_ _)); exact BK590.out)⟩; have n3_ : zab (Below w.heap.size w w11) := ⟨by rw [← hq_]; exact (by repeat (first | (with_reducible first | exact HB.out | apply zad | apply zaa | apply zac | refine zae ?_ GE589.out | refine zae ?_ GE590.out) | exact HB.out))⟩; clear HO595 BK589 BK590 HB hq_; have HO595 := n0_; have BK589 := n1_; have BK590 := n2_; have HB := n3_; clear n0_ n1_ n2_ n3_)); have hcz12_0 : w11.cell? ⟨gb590, 0, none⟩ = some (.int .i64 0) := (zal BK590.out 0).trans rfl; have hcz12_1 : w11.cell? ⟨gb590, 1, none⟩ = some (.int .i64 0) := (zal BK590.out 1).trans rfl; have hcz12_2 : w11.cell? ⟨gb590, 2, none⟩ = some (.string (⟨#[]⟩ : ByteArray)) := (zal BK590.out 2).trans rfl; have hcz12_3 : w11.cell? ⟨gb590, 3, none⟩ = some (.int .i64 0) := (zal BK590.out 3).trans rfl; have hcz12_4 : w11.cell? ⟨gb590, 4, none⟩ = some (.string (⟨#[]⟩ : ByteArray)) := (zal BK590.out 4).trans rfl; have hcz12_5 : w11.cell? ⟨gb590, 5, none⟩ = some (.slice none 0 0) := (zal BK590.out 5).trans rfl; have hfz12_0 := zam BK590.out 0; have hfz12_1 := zam BK590.out 1; have hfz12_2 := zam BK590.out 2; have hfz12_3 := zam BK590.out 3; have hfz12_4 := zam BK590.out 4; have hfz12_5 := zam BK590.out 5))
  refine bodyPost_ret (results_cell_row rfl _ _ gb590 33 #[.int .i64 2, .int .i64 0, .string (⟨#[]⟩ : ByteArray), .int .i64 0, .string (⟨#[]⟩ : ByteArray), .slice none 0 0] (0, 0) _ rfl (by (with_reducible repeat (first | refine zai ?_ _ | refine zak ?_ | refine zah ?_ _)); refine zaG (cs := #[.int .i64 2, .int .i64 0, .string (⟨#[]⟩ : ByteArray), .int .i64 0, .string (⟨#[]⟩ : ByteArray), .slice none 0 0]) ?_ 5 _ rfl; (with_reducible repeat (first | refine zai ?_ _ | refine zak ?_ | refine zah ?_ _)); refine zaG (cs := #[.int .i64 2, .int .i64 0, .string (⟨#[]⟩ : ByteArray), .int .i64 0, .string (⟨#[]⟩ : ByteArray), .slice none 0 0]) ?_ 4 _ rfl; (with_reducible repeat (first | refine zai ?_ _ | refine zak ?_ | refine zah ?_ _)); refine zaG (cs := #[.int .i64 2, .int .i64 0, .string (⟨#[]⟩ : ByteArray), .int .i64 0, .string (⟨#[]⟩ : ByteArray), .slice none 0 0]) ?_ 3 _ rfl; (with_reducible repeat (first | refine zai ?_ _ | refine zak ?_ | refine zah ?_ _)); refine zaG (cs := #[.int .i64 2, .int .i64 0, .string (⟨#[]⟩ : ByteArray), .int .i64 0, .string (⟨#[]⟩ : ByteArray), .slice none 0 0]) ?_ 2 _ rfl; (with_reducible repeat (first | refine zai ?_ _ | refine zak ?_ | refine zah ?_ _)); refine zaG (cs := #[.int .i64 2, .int .i64 0, .string (⟨#[]⟩ : ByteArray), .int .i64 0, .string (⟨#[]⟩ : ByteArray), .slice none 0 0]) ?_ 1 _ rfl; (with_reducible repeat (first | refine zai ?_ _ | refine zak ?_ | refine zah ?_ _)); refine zaG (cs := #[.int .i64 0, .int .i64 0, .string (⟨#[]⟩ : ByteArray), .int .i64 0, .string (⟨#[]⟩ : ByteArray), .slice none 0 0]) ?_ 0 _ rfl; (with_reducible repeat (first | refine zai ?_ _ | refine zak ?_ | refine zah ?_ _)); exact BK590.out) Tryd.underlying33 rfl (by kernel_rfl)) rfl ?_
  exact ⟨_, by first | rfl | (simp [zar, zas] <;> rfl) | (simp [*, zar, zas] <;> rfl), by first | exact Kd.R_nil _ _ _ _ _ | exact Kd.N_nil _ _ _ _ _ | exact Kd.V_nil _ _ _ _ _ | exact Kd.Q_nil _ _ _ _ _ | exact Kd.S_nil _ _ _ _ _, by repeat (first | (with_reducible first | exact HB.out | apply zad | apply zaa | apply zac | refine zae ?_ GE589.out | refine zae ?_ GE590.out) | exact HB.out)⟩
 replace c6 := Bool.eq_false_iff.mpr c6
 subst c6
 replace H : (zaO.l0 k a1 t591 t592 t593 (t592.length : Int) 0 a0_0 a0_1 a0_2) = some (r1, r2, r3, r4, r5, r6) := by rw [if_neg (show ¬ (false = true) by decide)] at H; exact H
 have H' := zab.mk H; clear H
 go_enter Tryd.func27, Tryd.ntmps27
 go_wp2_with (first | ((with_reducible refine zbb (N := 3) rfl ?_); refine zbs ?hg (N := 3) ?hd (cs := #[.int .i64 a0_0, .string a0_1, .int .i64 a0_2]) (t := 30) ?hr ?_; (case hd => rfl); (case hg => rfl); (case hr => first | (go_simp; done) | (go_simp; rfl)); intro gb589 hg w13 hbox hb; have n0_ := zab.mk (zau HB.out hb); have n1_ := zab.mk (hbox); have n2_ := zab.mk ((by rw [hg]; exact (zav HB.out) : w.heap.size ≤ gb589)); have n3_ := zab.mk ((by rw [hg]; exact (zav HB.out) : w.heap.size ≤ gb589)); clear HB; have HB := n0_; have BK589 := n1_; have GW589 := n2_; have GE589 := n3_; clear n0_ n1_ n2_ n3_ hb hbox hg) | ((with_reducible refine zbb (N := 6) rfl ?_); refine zbs ?hg (N := 6) ?hd (cs := #[.int .i64 0, .int .i64 0, .string (⟨#[]⟩ : ByteArray), .int .i64 0, .string (⟨#[]⟩ : ByteArray), .slice none 0 0]) (t := 33) ?hr ?_; (case hd => rfl); (case hg => rfl); (case hr => first | (go_simp; done) | (go_simp; rfl)); intro gb590 hg w14 hbox hb; have n0_ := zab.mk (zaL (g := gb589) (o := .cells #[.int .i64 a0_0, .string a0_1, .int .i64 a0_2] 30 (0, 0)) BK589.out hb); have n1_ := zab.mk (zau HB.out hb); have n2_ := zab.mk (hbox); have n3_ := zab.mk ((by rw [hg]; exact (zav HB.out) : w.heap.size ≤ gb590)); have n4_ := zab.mk ((by rw [hg]; exact (zav HB.out) : w.heap.size ≤ gb590)); have n5_ := zab.mk ((by rw [hg]; exact Nat.ne_of_lt (blk_lt (g := gb589) (o := .cells #[.int .i64 a0_0, .string a0_1, .int .i64 a0_2] 30 (0, 0)) BK589.out) : gb589 ≠ gb590)); have n6_ := zab.mk ((by rw [hg]; exact Nat.ne_of_gt (blk_lt (g := gb589) (o := .cells #[.int .i64 a0_0, .string a0_1, .int .i64 a0_2] 30 (0, 0)) BK589.out) : gb590 ≠ gb589)); clear BK589 HB; have BK589 := n0_; have HB := n1_; have BK590 := n2_; have GW590 := n3_; have GE590 := n4_; have NB589_590 := n5_; have NB590_589 := n6_; clear n0_ n1_ n2_ n3_ n4_ n5_ n6_ hb hbox hg; have hnb15 := NB589_590.out; have hnc15 := NB590_589.out; have hcz16_0 : w14.cell? ⟨gb589, 0, none⟩ = some (.int .i64 a0_0) := (zal BK589.out 0).trans rfl; have hcz16_1 : w14.cell? ⟨gb589, 1, none⟩ = some (.string a0_1) := (zal BK589.out 1).trans rfl; have hcz16_2 : w14.cell? ⟨gb589, 2, none⟩ = some (.int .i64 a0_2) := (zal BK589.out 2).trans rfl; have hfz16_0 := zam BK589.out 0; have hfz16_1 := zam BK589.out 1; have hfz16_2 := zam BK589.out 2) | ((with_reducible refine zan (f := 26) rfl ?_); refine zaN (some 16) rfl rfl Tryd.func26 (by kernel_rfl) rfl #[.int .i64 a0_0, .string a1, .bool a2] rfl (by (try simp only [List.map_toArray, List.map_cons, List.map_nil]); first | done | rfl | (simp only [List.length_drop, List.length_take]; rfl)) ?_; (with_reducible refine (zaQ.calls k a0_0 a1 a2 t591 t592 t593 _ ?side1 A4.out).mono ?_); (case side1 => exact GT_below HG.out HB.out); rintro e w17 ⟨v594, rfl, ho0, hb⟩; refine ⟨_, rfl, ?_⟩; have n0_ := zab.mk (Kd.zbm ho0 (zav HB.out)); have n1_ := zab.mk (zaL (g := gb589) (o := .cells #[.int .i64 a0_0, .string a0_1, .int .i64 a0_2] 30 (0, 0)) BK589.out hb); have n2_ := zab.mk (zaL (g := gb590) (o := .cells #[.int .i64 0, .int .i64 0, .string (⟨#[]⟩ : ByteArray), .int .i64 0, .string (⟨#[]⟩ : ByteArray), .slice none 0 0] 33 (0, 0)) BK590.out hb); have n3_ := zab.mk (zau HB.out hb); clear BK589 BK590 HB; have HO595 := n0_; have BK589 := n1_; have BK590 := n2_; have HB := n3_; clear n0_ n1_ n2_ n3_; (try clear hb); (try clear hb2); (try clear hk); (try clear hi); (try clear ho0)) | ((with_reducible refine zan (f := 24) rfl ?_); refine zaN (some 21) rfl rfl Tryd.func24 (by kernel_rfl) rfl #[.string t591] rfl (by (try simp only [List.map_toArray, List.map_cons, List.map_nil]); first | done | rfl | (simp only [List.length_drop, List.length_take]; rfl)) ?_; (with_reducible refine (zbw.calls t591 false _ A5.out).mono ?_); rintro e w' ⟨rfl, ⟨nd, rfl⟩⟩; refine ⟨_, rfl, ?_⟩; obtain ⟨Ao18, co18, eo18⟩ := Kd.zbr HO595.out; subst eo18))
 go_loopg [25] k (fun kq v25 w' => ∃ (x8_1 : List Int) (x25_1 : Int), v25 = .int .i64 x25_1 ∧ zab (zaO.l0 kq a1 t591 x8_1 t593 (t592.length : Int) x25_1 a0_0 a0_1 a0_2 = some (r1, r2, r3, r4, r5, r6)) ∧ zab (kq ≤ k) ∧ zab (Kd.R (Kd.int .i64) 2 w' w.heap.size (fun _ => True) (.slice Ao18 t592.length co18) x8_1) ∧ zab (w'.heap[gb589]? = some (.cells #[.int .i64 a0_0, .string a0_1, .int .i64 a0_2] 30 (0, 0))) ∧ zab (w'.heap[gb590]? = some (.cells #[.int .i64 0, .int .i64 0, .string (⟨#[]⟩ : ByteArray), .int .i64 0, .string (⟨#[]⟩ : ByteArray), (.slice none 0 0)] 33 (0, 0))) ∧ zab (Below w.heap.size w w'))
 case atStart => exact ⟨(t592), (0), rfl, H', ⟨Nat.le_refl _⟩, ⟨by (with_reducible repeat (first | apply Kd.R_alloc | apply Kd.zat | apply Kd.zaw)); exact HO595.out⟩, ⟨by (with_reducible repeat (first | refine zai ?_ _ | refine zak ?_ | refine zah ?_ _)); exact BK589.out⟩, ⟨by (with_reducible repeat (first | refine zai ?_ _ | refine zak ?_ | refine zah ?_ _)); exact BK590.out⟩, ⟨by repeat (first | (with_reducible first | exact HB.out | apply zad | apply zaa | apply zac | refine zae ?_ GE589.out | refine zae ?_ GE590.out) | exact HB.out)⟩⟩
 case round =>
  clear H'
  try clear c6
  try clear hcz16_0
  try clear hcz16_1
  try clear hcz16_2
  try clear hfz16_0
  try clear hfz16_1
  try clear hfz16_2
  obtain ⟨x8_1, x25_1, rfl, HA, HK1, HO_8, BK589, BK590, HB⟩ := hrel
  have hl8_1 := (Kd.zbl HO_8.out).1
  rw [hl8_1] at HO_8
  (try simp only [hl8_1])
  (try simp only [hl8_1] at BK589)
  (try simp only [hl8_1] at BK590)
  cases gk with
  | zero => exact absurd HA.out (by simp [zaO.l0])
  | succ k1 =>
   have H := HA.out; clear HA
   simp only [zaO.l0] at H
   by_cases c19 : x25_1 < (t592.length : Int)
   ·rw [if_pos c19] at H
    have c19b0 : decide (x25_1 < (t592.length : Int)) = true := decide_eq_true c19
    clear c19
    by_cases c20 : 0 ≤ x25_1
    ·rw [if_pos c20] at H
     have c20b0 : decide (0 ≤ x25_1) = true := decide_eq_true c20
     clear c20
     by_cases c21 : x25_1 < (x8_1.length : Int)
     ·rw [if_pos c21] at H
      have c21b0 : decide (x25_1 < (x8_1.length : Int)) = true := decide_eq_true c21
      clear c21
      obtain ⟨y598, hy598⟩ : ∃ y_ : List Int, y_ = (x8_1.set (x25_1 : Int).toNat (wrap64 ((rd x8_1 x25_1) + a0_2))) := ⟨_, rfl⟩
      replace H : (zaO.l0 k1 a1 t591 y598 t593 (t592.length : Int) (wrap64 (x25_1 + 1)) a0_0 a0_1 a0_2) = some (r1, r2, r3, r4, r5, r6) := by first | (rw [hy598]; with_reducible exact H) | (have H2_ := (Option.bind_some _ _).symm.trans H; rw [hy598]; with_reducible exact H2_) | (have H2_ := (Option.bind_some _ _).symm.trans H; with_reducible exact H2_) | with_reducible exact H | (rw [hy598]; exact H) | exact H
      have Ny598 := zab.mk hy598; clear hy598; have H' := zab.mk H; clear H
      try go_wp2
      have n0_ := zab.mk (Kd.zaw HO_8.out)
      have n1_ := zab.mk (zak BK589.out)
      have n2_ := zab.mk (zak BK590.out)
      have n3_ := zab.mk (zac HB.out)
      clear HO_8 BK589 BK590 HB
      have HO_8 := n0_
      have BK589 := n1_
      have BK590 := n2_
      have HB := n3_
      clear n0_ n1_ n2_ n3_
      have p597 : 0 ≤ (x25_1 : Int) := of_decide_eq_true (by first | (with_reducible assumption) | assumption)
      have q597 : x25_1 < (x8_1.length : Int) := of_decide_eq_true (by first | (with_reducible assumption) | assumption)
      obtain ⟨ad597, e597, hx597_0⟩ := Kd.at_int (Kd.zbl HO_8.out).2.2 x25_1 p597 q597
      cases e597
      replace p597 := eq_true p597
      replace q597 := eq_true q597
      have p22 : 0 ≤ (x25_1 : Int) := of_decide_eq_true (by first | (with_reducible assumption) | assumption)
      have q22 : (x25_1 : Int) < ((x8_1.length : Int) : Int) := of_decide_eq_true (by first | (with_reducible assumption) | assumption)
      obtain ⟨go22, co22, eo22, gb22, gl22, cl22, HG22⟩ := Kd.R_form HO_8.out (by omega)
      (first | cases eo22 | (injection eo22 with ea_ en_ ec_; (first | subst ea_ | (injection ea_ with ea_; subst ea_)); subst ec_; clear en_))
      have GB22 := zab.mk gb22; have GG22 := zab.mk HG22; clear gb22 gl22 HG22
      (first | simp only [add_plain] at hx597_0 | skip)
      obtain ⟨hx22_0, hf22_0⟩ := Kd.R_celln 0 HO_8.out (x25_1 : Int) p22 q22
      replace p22 := eq_true p22
      replace q22 := eq_true q22
      have HP24 := Kd.R_putn HO_8.out (x25_1 : Int) (wrap64 ((rd x8_1 x25_1) + a0_2))
      rw [← Ny598.out] at HP24
      have HQ24 := zab.mk HP24; clear HP24
      refine start_ (n := 9) (S := fun w' => w'.cell? ⟨gb589, 0, none⟩ = some (.int .i64 a0_0) ∧ w'.cell? ⟨gb589, 1, none⟩ = some (.string a0_1) ∧ w'.cell? ⟨gb589, 2, none⟩ = some (.int .i64 a0_2) ∧ w'.cell? ⟨go22, (x25_1).toNat, none⟩ = some (.int .i64 (rd x8_1 x25_1))) (ds := [8]) #[false, false, false, false, false, false, false, false, false] (by kernel_rfl) rfl rfl ⟨(zal BK589.out 0).trans rfl, (zal BK589.out 1).trans rfl, (zal BK589.out 2).trans rfl, hx597_0⟩ (fun hHeld => ?_); refine with_tabW zaO.tab7 zaO.bits7 (fun HT_ HW_ => ?_)
      generalize wr.drew = w23 at HO_8 BK589 BK590 HB GG22 HQ24 hf22_0 hx22_0 hx597_0 hHeld ⊢
      refine zbf (i := 0) (N := some 28) (v := ?_) (a' := ?_) #[true, false, false, false, false, false, false, false, false] rfl rfl (zaZ HT_.out (by kernel_rfl)) (fun _ _ _ h => h) (Or.inl ⟨by rfl, ?_⟩) ?_ ?_
      rotate_left
      ·intro w'
       go_simp
       with_reducible rfl
      rotate_left
      ·simp only [Act.put, List.setIfInBounds_toArray, List.set_cons_zero, List.set_cons_succ, zaR, zaS]
       rfl
      refine zbf (i := 1) (N := some 29) (v := ?_) (a' := ?_) #[true, true, false, false, false, false, false, false, false] rfl rfl (zaZ HT_.out (by kernel_rfl)) (fun _ _ _ h => h) (Or.inl ⟨by rfl, ?_⟩) ?_ ?_
      rotate_left
      ·intro w'
       go_simp
       with_reducible rfl
      rotate_left
      ·simp only [Act.put, List.setIfInBounds_toArray, List.set_cons_zero, List.set_cons_succ, zaR, zaS]
       rfl
      refine zbf (i := 2) (N := some 30) (v := ?_) (a' := ?_) #[true, true, true, false, false, false, false, false, false] rfl rfl (zaZ HT_.out (by kernel_rfl)) (fun _ _ _ h => h) (Or.inl ⟨by rfl, ?_⟩) ?_ ?_
      rotate_left
      ·intro w'
       go_simp
       with_reducible rfl
      rotate_left
      ·simp only [Act.put, List.setIfInBounds_toArray, List.set_cons_zero, List.set_cons_succ, zaR, zaS]
       rfl
      refine zbf (i := 4) (N := some 32) (v := ?_) (a' := ?_) #[true, true, true, false, true, false, false, false, false] rfl rfl (zaZ HT_.out (by kernel_rfl)) (fun _ _ _ h => h) (Or.inl ⟨by rfl, ?_⟩) ?_ ?_
      rotate_left
      ·intro w'
       go_simp
       with_reducible rfl
      rotate_left
      ·simp only [Act.put, List.setIfInBounds_toArray, List.set_cons_zero, List.set_cons_succ, zaR, zaS]
       rfl
      refine take_ (i := 3) (N := some 31) (v := ?_) (a' := ?_) #[true, true, true, true, true, false, false, false, false] rfl rfl (take_ofW HT_.out HW_.out (by kernel_rfl)) (fun _ _ _ h => h) (Or.inl ⟨by rfl, ?_⟩) hHeld ?_ ?_
      rotate_left
      ·rintro w' ⟨s0, s1, s2, s3⟩
       go_simp
       with_reducible rfl
      rotate_left
      ·simp only [Act.put, List.setIfInBounds_toArray, List.set_cons_zero, List.set_cons_succ, zaR, zaS]
       rfl
      refine take_ (i := 5) (N := some 33) (v := ?_) (a' := ?_) #[true, true, true, true, true, true, false, false, false] rfl rfl (take_ofW HT_.out HW_.out (by kernel_rfl)) (fun _ _ _ h => h) (Or.inl ⟨by rfl, ?_⟩) hHeld ?_ ?_
      rotate_left
      ·rintro w' ⟨s0, s1, s2, s3⟩
       go_simp
       with_reducible rfl
      rotate_left
      ·simp only [Act.put, List.setIfInBounds_toArray, List.set_cons_zero, List.set_cons_succ, zaR, zaS]
       rfl
      refine zbf (i := 6) (N := some 34) (v := ?_) (a' := ?_) #[true, true, true, true, true, true, true, false, false] rfl rfl (zaZ HT_.out (by kernel_rfl)) (fun _ _ _ h => h) (Or.inl ⟨by rfl, ?_⟩) ?_ ?_
      rotate_left
      ·intro w'
       go_simp
       with_reducible rfl
      rotate_left
      ·simp only [Act.put, List.setIfInBounds_toArray, List.set_cons_zero, List.set_cons_succ, zaR, zaS]
       rfl
      refine zbf (i := 7) (N := some 35) (v := ?_) (a' := ?_) #[true, true, true, true, true, true, true, true, false] rfl rfl (zaZ HT_.out (by kernel_rfl)) (fun _ _ _ h => h) (Or.inl ⟨by rfl, ?_⟩) ?_ ?_
      rotate_left
      ·intro w'
       go_simp
       with_reducible rfl
      rotate_left
      ·simp only [Act.put, List.setIfInBounds_toArray, List.set_cons_zero, List.set_cons_succ, zaR, zaS]
       rfl
      refine last_ (i := 8) (N := none) #[true, true, true, true, true, true, true, true, true] rfl rfl (one_of HT_.out (by kernel_rfl)) (by decide) (fun K hK => ?_)
      refine skip_ (w1 := ?_) (by rfl) rfl ?_ ?_
      rotate_left
      ·go_simp
       rfl
      refine hK.out _ _ ?_
      clear hK K
      refine done_ (done_of HT_.out (by kernel_rfl)) ?_
      try go_wp2
      (try simp only [← hl8_1])
      go_roundg k1
      case measure => have := HK1.out; omega
      case rel => exact ⟨(y598), (wrap64 (x25_1 + 1)), rfl, H', ⟨by have := HK1.out; omega⟩, ⟨by (try simp only [hl8_1]); (with_reducible repeat (first | apply Kd.R_alloc | apply Kd.zat | apply Kd.zaw)); exact HQ24.out⟩, ⟨by (try simp only [hl8_1]); (with_reducible repeat (first | refine zai ?_ _ | refine zak ?_ | refine zah ?_ _)); refine za6 ?_ (by have h_ := Kd.R_ne HO_8.out BK589.out (by decide); intro e_; exact h_ (by rw [e_]; rfl)) _; (with_reducible repeat (first | refine zai ?_ _ | refine zak ?_ | refine zah ?_ _)); exact BK589.out⟩, ⟨by (try simp only [hl8_1]); (with_reducible repeat (first | refine zai ?_ _ | refine zak ?_ | refine zah ?_ _)); refine za6 ?_ (by have h_ := Kd.R_ne HO_8.out BK590.out (by decide); intro e_; exact h_ (by rw [e_]; rfl)) _; (with_reducible repeat (first | refine zai ?_ _ | refine zak ?_ | refine zah ?_ _)); exact BK590.out⟩, ⟨by repeat (first | (with_reducible first | exact HB.out | apply zad | apply zaa | apply zac | refine zae ?_ GB22.out | refine zae ?_ GE589.out | refine zae ?_ GE590.out) | exact HB.out)⟩⟩
     rw [if_neg c21] at H
     exact absurd H (by simp)
    rw [if_neg c20] at H
    exact absurd H (by simp)
   rw [if_neg c19] at H
   have c19b0 : decide (x25_1 < (t592.length : Int)) = false := decide_eq_false c19
   try rw [hl8_1] at c19b0
   clear c19
   simp only [Option.some.injEq, Prod.mk.injEq] at H
   obtain ⟨rfl, rfl, rfl, rfl, rfl, rfl⟩ := H
   have hnb25 := NB589_590.out
   have hnc25 := NB590_589.out
   have hcz26_0 : wr.cell? ⟨gb589, 0, none⟩ = some (.int .i64 a0_0) := (zal BK589.out 0).trans rfl
   have hcz26_1 : wr.cell? ⟨gb589, 1, none⟩ = some (.string a0_1) := (zal BK589.out 1).trans rfl
   have hcz26_2 : wr.cell? ⟨gb589, 2, none⟩ = some (.int .i64 a0_2) := (zal BK589.out 2).trans rfl
   have hfz26_0 := zam BK589.out 0
   have hfz26_1 := zam BK589.out 1
   have hfz26_2 := zam BK589.out 2
   have hcz27_0 : wr.cell? ⟨gb590, 0, none⟩ = some (.int .i64 0) := (zal BK590.out 0).trans rfl
   have hcz27_1 : wr.cell? ⟨gb590, 1, none⟩ = some (.int .i64 0) := (zal BK590.out 1).trans rfl
   have hcz27_2 : wr.cell? ⟨gb590, 2, none⟩ = some (.string (⟨#[]⟩ : ByteArray)) := (zal BK590.out 2).trans rfl
   have hcz27_3 : wr.cell? ⟨gb590, 3, none⟩ = some (.int .i64 0) := (zal BK590.out 3).trans rfl
   have hcz27_4 : wr.cell? ⟨gb590, 4, none⟩ = some (.string (⟨#[]⟩ : ByteArray)) := (zal BK590.out 4).trans rfl
   have hcz27_5 : wr.cell? ⟨gb590, 5, none⟩ = some (.slice none 0 0) := (zal BK590.out 5).trans rfl
   have hfz27_0 := zam BK590.out 0
   have hfz27_1 := zam BK590.out 1
   have hfz27_2 := zam BK590.out 2
   have hfz27_3 := zam BK590.out 3
   have hfz27_4 := zam BK590.out 4
   have hfz27_5 := zam BK590.out 5
   go_wp2
   refine bodyPost_ret (results_cell_row rfl _ _ gb590 33 #[.int .i64 0, .int .i64 a0_0, .string t593, .int .i64 (wrap64 (a0_2 + (wrap64 ((a1.size : Int) - (t593.size : Int))))), .string t591, .slice Ao18 x8_1.length co18] (0, 0) _ rfl (by (with_reducible repeat (first | refine zai ?_ _ | refine zak ?_ | refine zah ?_ _)); refine zaG (cs := #[.int .i64 0, .int .i64 a0_0, .string t593, .int .i64 (wrap64 (a0_2 + (wrap64 ((a1.size : Int) - (t593.size : Int))))), .string t591, .slice none 0 0]) ?_ 5 _ rfl; (with_reducible repeat (first | refine zai ?_ _ | refine zak ?_ | refine zah ?_ _)); refine zaG (cs := #[.int .i64 0, .int .i64 a0_0, .string t593, .int .i64 (wrap64 (a0_2 + (wrap64 ((a1.size : Int) - (t593.size : Int))))), .string (⟨#[]⟩ : ByteArray), .slice none 0 0]) ?_ 4 _ rfl; (with_reducible repeat (first | refine zai ?_ _ | refine zak ?_ | refine zah ?_ _)); refine zaG (cs := #[.int .i64 0, .int .i64 a0_0, .string t593, .int .i64 0, .string (⟨#[]⟩ : ByteArray), .slice none 0 0]) ?_ 3 _ rfl; (with_reducible repeat (first | refine zai ?_ _ | refine zak ?_ | refine zah ?_ _)); refine zaG (cs := #[.int .i64 0, .int .i64 a0_0, .string (⟨#[]⟩ : ByteArray), .int .i64 0, .string (⟨#[]⟩ : ByteArray), .slice none 0 0]) ?_ 2 _ rfl; (with_reducible repeat (first | refine zai ?_ _ | refine zak ?_ | refine zah ?_ _)); refine zaG (cs := #[.int .i64 0, .int .i64 0, .string (⟨#[]⟩ : ByteArray), .int .i64 0, .string (⟨#[]⟩ : ByteArray), .slice none 0 0]) ?_ 1 _ rfl; (with_reducible repeat (first | refine zai ?_ _ | refine zak ?_ | refine zah ?_ _)); refine zaG (cs := #[.int .i64 0, .int .i64 0, .string (⟨#[]⟩ : ByteArray), .int .i64 0, .string (⟨#[]⟩ : ByteArray), .slice none 0 0]) ?_ 0 _ rfl; (with_reducible repeat (first | refine zai ?_ _ | refine zak ?_ | refine zah ?_ _)); refine za6 ?_ NB590_589.out _; (with_reducible repeat (first | refine zai ?_ _ | refine zak ?_ | refine zah ?_ _)); refine za6 ?_ NB590_589.out _; (with_reducible repeat (first | refine zai ?_ _ | refine zak ?_ | refine zah ?_ _)); exact BK590.out) Tryd.underlying33 rfl (by kernel_rfl)) rfl ?_
   exact ⟨_, by first | rfl | (simp [zar, zas] <;> rfl) | (simp [*, zar, zas] <;> rfl), by (with_reducible repeat (first | apply Kd.R_alloc | apply Kd.zat | apply Kd.zaw)); exact Kd.za7 (Kd.za0 (p := ⟨gb590, 5, none⟩) (Kd.za0 (p := ⟨gb590, 4, none⟩) (Kd.za0 (p := ⟨gb590, 3, none⟩) (Kd.za0 (p := ⟨gb590, 2, none⟩) (Kd.za0 (p := ⟨gb590, 1, none⟩) (Kd.za0 (p := ⟨gb590, 0, none⟩) (Kd.za0 (p := ⟨gb589, 1, none⟩) (Kd.za0 (p := ⟨gb589, 2, none⟩) (Kd.zbF (Kd.zbF HO_8.out BK589.out (by decide)) BK590.out (by decide)) (fun _ hk => hk.1.2) (.int .i64 (wrap64 (a0_2 + (wrap64 ((a1.size : Int) - (t593.size : Int))))))) (fun _ hk => hk.1.2) (.string t593)) (fun _ hk => hk.2) (.int .i64 0)) (fun _ hk => hk.2) (.int .i64 a0_0)) (fun _ hk => hk.2) (.string t593)) (fun _ hk => hk.2) (.int .i64 (wrap64 (a0_2 + (wrap64 ((a1.size : Int) - (t593.size : Int))))))) (fun _ hk => hk.2) (.string t591)) (fun _ hk => hk.2) (.slice Ao18 x8_1.length co18)) (fun _ hk => trivial), by repeat (first | (with_reducible first | exact HB.out | apply zad | apply zaa | apply zac | refine zae ?_ GE589.out | refine zae ?_ GE590.out) | exact HB.out)⟩
def impl_FeedDecoder.f (k : Nat) (a0_0 : Int) (a0_1 : ByteArray) (a0_2 : Int) (a1 : ByteArray) : Option (Int × Int × ByteArray × Int × ByteArray × List Int) := (zbw.f a1).bind fun t601 => (if t601 = true then (some (2, 0, (⟨#[]⟩ : ByteArray), 0, (⟨#[]⟩ : ByteArray), ([] : List Int))) else ((zaI.f k a0_0 a0_1 a0_2).bind fun t602 => (if t602 = 0 then (if a0_1.size + a1.size ≤ 9223372036854775807 then ((zaO.f k a0_0 a0_1 a0_2 (a0_1 ++ a1) true).bind fun bt603 => (some (bt603.1, bt603.2.1, bt603.2.2.1, bt603.2.2.2.1, bt603.2.2.2.2.1, bt603.2.2.2.2.2))) else (none)) else (some (1, 0, (⟨#[]⟩ : ByteArray), 0, (⟨#[]⟩ : ByteArray), ([] : List Int))))))
set_option maxHeartbeats 8000000 in
set_option maxRecDepth 100000 in
theorem impl_FeedDecoder.calls (k : Nat) (a0_0 : Int) (a0_1 : ByteArray) (a0_2 : Int) (a1 : ByteArray) (r1 : Int) (r2 : Int) (r3 : ByteArray) (r4 : Int) (r5 : ByteArray) (r6 : List Int) (w : World) (hG : GT w) (h : impl_FeedDecoder.f k a0_0 a0_1 a0_2 a1 = some (r1, r2, r3, r4, r5, r6)) :
  Calls Tryd.prog 9 #[.agg #[.int .i64 a0_0, .string a0_1, .int .i64 a0_2], .string a1] w fun e w' => ∃ v5_ : Value, e = .returned (.agg #[.int .i64 r1, .int .i64 r2, .string r3, .int .i64 r4, .string r5, v5_]) ∧ Kd.R (Kd.int .i64) 2 w' w.heap.size (fun _ => True) v5_ r6 ∧ Below w.heap.size w w' := by
 have hu30 := Tryd.underlying30
 have hu33 := Tryd.underlying33
 have HG := zab.mk hG; clear hG
 have HB := zab.mk (Below.refl w.heap.size w)
 have H : ((zbw.f a1).bind fun t601 => (if t601 = true then (some (2, 0, (⟨#[]⟩ : ByteArray), 0, (⟨#[]⟩ : ByteArray), ([] : List Int))) else ((zaI.f k a0_0 a0_1 a0_2).bind fun t602 => (if t602 = 0 then (if a0_1.size + a1.size ≤ 9223372036854775807 then ((zaO.f k a0_0 a0_1 a0_2 (a0_1 ++ a1) true).bind fun bt603 => (some (bt603.1, bt603.2.1, bt603.2.2.1, bt603.2.2.2.1, bt603.2.2.2.2.1, bt603.2.2.2.2.2))) else (none)) else (some (1, 0, (⟨#[]⟩ : ByteArray), 0, (⟨#[]⟩ : ByteArray), ([] : List Int))))))) = some (r1, r2, r3, r4, r5, r6) := h
 clear h; replace H := Option.bind_eq_some_iff.mp H
 obtain ⟨t601, A30, H⟩ := H
 replace H : (if t601 = true then (some (2, 0, (⟨#[]⟩ : ByteArray), 0, (⟨#[]⟩ : ByteArray), ([] : List Int))) else ((zaI.f k a0_0 a0_1 a0_2).bind fun t602 => (if t602 = 0 then (if a0_1.size + a1.size ≤ 9223372036854775807 then ((zaO.f k a0_0 a0_1 a0_2 (a0_1 ++ a1) true).bind fun bt603 => (some (bt603.1, bt603.2.1, bt603.2.2.1, bt603.2.2.2.1, bt603.2.2.2.2.1, bt603.2.2.2.2.2))) else (none)) else (some (1, 0, (⟨#[]⟩ : ByteArray), 0, (⟨#[]⟩ : ByteArray), ([] : List Int)))))) = some (r1, r2, r3, r4, r5, r6) := H
 have A3 := zab.mk A30; clear A30
 by_cases c4 : t601 = true
 ·subst c4
  replace H : (some (2, 0, (⟨#[]⟩ : ByteArray), 0, (⟨#[]⟩ : ByteArray), ([] : List Int))) = some (r1, r2, r3, r4, r5, r6) := by rw [if_pos rfl] at H; exact H
  simp only [Option.some.injEq, Prod.mk.injEq] at H
  obtain ⟨rfl, rfl, rfl, rfl, rfl, rfl⟩ := H
  go_enter Tryd.func9, Tryd.ntmps9
  go_wp2_with (first | ((with_reducible refine zbb (N := 2) rfl ?_); refine zbs ?hg (N := 2) ?hd (cs := #[.int .i64 a0_0, .string a0_1, .int .i64 a0_2]) (t := 30) ?hr ?_; (case hd => rfl); (case hg => rfl); (case hr => first | (go_simp; done) | (go_simp; rfl)); intro gb599 hg w5 hbox hb; have n0_ := zab.mk (zau HB.out hb); have n1_ := zab.mk (hbox); have n2_ := zab.mk ((by rw [hg]; exact (zav HB.out) : w.heap.size ≤ gb599)); have n3_ := zab.mk ((by rw [hg]; exact (zav HB.out) : w.heap.size ≤ gb599)); clear HB; have HB := n0_; have BK599 := n1_; have GW599 := n2_; have GE599 := n3_; clear n0_ n1_ n2_ n3_ hb hbox hg) | ((with_reducible refine zbb (N := 4) rfl ?_); refine zbs ?hg (N := 4) ?hd (cs := #[.int .i64 0, .int .i64 0, .string (⟨#[]⟩ : ByteArray), .int .i64 0, .string (⟨#[]⟩ : ByteArray), .slice none 0 0]) (t := 33) ?hr ?_; (case hd => rfl); (case hg => rfl); (case hr => first | (go_simp; done) | (go_simp; rfl)); intro gb600 hg w6 hbox hb; have n0_ := zab.mk (zaL (g := gb599) (o := .cells #[.int .i64 a0_0, .string a0_1, .int .i64 a0_2] 30 (0, 0)) BK599.out hb); have n1_ := zab.mk (zau HB.out hb); have n2_ := zab.mk (hbox); have n3_ := zab.mk ((by rw [hg]; exact (zav HB.out) : w.heap.size ≤ gb600)); have n4_ := zab.mk ((by rw [hg]; exact (zav HB.out) : w.heap.size ≤ gb600)); have n5_ := zab.mk ((by rw [hg]; exact Nat.ne_of_lt (blk_lt (g := gb599) (o := .cells #[.int .i64 a0_0, .string a0_1, .int .i64 a0_2] 30 (0, 0)) BK599.out) : gb599 ≠ gb600)); have n6_ := zab.mk ((by rw [hg]; exact Nat.ne_of_gt (blk_lt (g := gb599) (o := .cells #[.int .i64 a0_0, .string a0_1, .int .i64 a0_2] 30 (0, 0)) BK599.out) : gb600 ≠ gb599)); clear BK599 HB; have BK599 := n0_; have HB := n1_; have BK600 := n2_; have GW600 := n3_; have GE600 := n4_; have NB599_600 := n5_; have NB600_599 := n6_; clear n0_ n1_ n2_ n3_ n4_ n5_ n6_ hb hbox hg) | ((with_reducible refine zan (f := 24) rfl ?_); refine zaN (some 6) rfl rfl Tryd.func24 (by kernel_rfl) rfl #[.string a1] rfl (by (try simp only [List.map_toArray, List.map_cons, List.map_nil]); first | done | rfl | (simp only [List.length_drop, List.length_take]; rfl)) ?_; (with_reducible refine (zbw.calls a1 true _ A3.out).mono ?_); rintro e w' ⟨rfl, ⟨nd, rfl⟩⟩; refine ⟨_, rfl, ?_⟩; (try (rw [drewN_self w6]; generalize hq_ : World.drewN w6 _ = w6; have n0_ : zab (w6.heap[gb599]? = some (.cells #[.int .i64 a0_0, .string a0_1, .int .i64 a0_2] 30 (0, 0))) := ⟨by rw [← hq_]; exact (by (with_reducible repeat (first | refine zai ?_ _ | refine zak ?_ | refine zah ?_ _)); exact BK599.out)⟩; have n1_ : zab (w6.heap[gb600]? = some (.cells #[.int .i64 0, .int .i64 0, .string (⟨#[]⟩ : ByteArray), .int .i64 0, .string (⟨#[]⟩ : ByteArray), .slice none 0 0] 33 (0, 0))) := ⟨by rw [← hq_]; exact (by (with_reducible repeat (first | refine zai ?_ _ | refine zak ?_ | refine zah ?_ _)); exact BK600.out)⟩; have n2_ : zab (Below w.heap.size w w6) := ⟨by rw [← hq_]; exact (by repeat (first | (with_reducible first | exact HB.out | apply zad | apply zaa | apply zac | refine zae ?_ GE599.out | refine zae ?_ GE600.out) | exact HB.out))⟩; clear BK599 BK600 HB hq_; have BK599 := n0_; have BK600 := n1_; have HB := n2_; clear n0_ n1_ n2_)); have hnb7 := NB600_599.out; have hnc7 := NB599_600.out; have hcz8_0 : w6.cell? ⟨gb600, 0, none⟩ = some (.int .i64 0) := (zal BK600.out 0).trans rfl; have hcz8_1 : w6.cell? ⟨gb600, 1, none⟩ = some (.int .i64 0) := (zal BK600.out 1).trans rfl; have hcz8_2 : w6.cell? ⟨gb600, 2, none⟩ = some (.string (⟨#[]⟩ : ByteArray)) := (zal BK600.out 2).trans rfl; have hcz8_3 : w6.cell? ⟨gb600, 3, none⟩ = some (.int .i64 0) := (zal BK600.out 3).trans rfl; have hcz8_4 : w6.cell? ⟨gb600, 4, none⟩ = some (.string (⟨#[]⟩ : ByteArray)) := (zal BK600.out 4).trans rfl; have hcz8_5 : w6.cell? ⟨gb600, 5, none⟩ = some (.slice none 0 0) := (zal BK600.out 5).trans rfl; have hfz8_0 := zam BK600.out 0; have hfz8_1 := zam BK600.out 1; have hfz8_2 := zam BK600.out 2; have hfz8_3 := zam BK600.out 3; have hfz8_4 := zam BK600.out 4; have hfz8_5 := zam BK600.out 5))
  refine bodyPost_ret (results_cell_row rfl _ _ gb600 33 #[.int .i64 2, .int .i64 0, .string (⟨#[]⟩ : ByteArray), .int .i64 0, .string (⟨#[]⟩ : ByteArray), .slice none 0 0] (0, 0) _ rfl (by (with_reducible repeat (first | refine zai ?_ _ | refine zak ?_ | refine zah ?_ _)); refine zaG (cs := #[.int .i64 2, .int .i64 0, .string (⟨#[]⟩ : ByteArray), .int .i64 0, .string (⟨#[]⟩ : ByteArray), .slice none 0 0]) ?_ 5 _ rfl; (with_reducible repeat (first | refine zai ?_ _ | refine zak ?_ | refine zah ?_ _)); refine zaG (cs := #[.int .i64 2, .int .i64 0, .string (⟨#[]⟩ : ByteArray), .int .i64 0, .string (⟨#[]⟩ : ByteArray), .slice none 0 0]) ?_ 4 _ rfl; (with_reducible repeat (first | refine zai ?_ _ | refine zak ?_ | refine zah ?_ _)); refine zaG (cs := #[.int .i64 2, .int .i64 0, .string (⟨#[]⟩ : ByteArray), .int .i64 0, .string (⟨#[]⟩ : ByteArray), .slice none 0 0]) ?_ 3 _ rfl; (with_reducible repeat (first | refine zai ?_ _ | refine zak ?_ | refine zah ?_ _)); refine zaG (cs := #[.int .i64 2, .int .i64 0, .string (⟨#[]⟩ : ByteArray), .int .i64 0, .string (⟨#[]⟩ : ByteArray), .slice none 0 0]) ?_ 2 _ rfl; (with_reducible repeat (first | refine zai ?_ _ | refine zak ?_ | refine zah ?_ _)); refine zaG (cs := #[.int .i64 2, .int .i64 0, .string (⟨#[]⟩ : ByteArray), .int .i64 0, .string (⟨#[]⟩ : ByteArray), .slice none 0 0]) ?_ 1 _ rfl; (with_reducible repeat (first | refine zai ?_ _ | refine zak ?_ | refine zah ?_ _)); refine zaG (cs := #[.int .i64 0, .int .i64 0, .string (⟨#[]⟩ : ByteArray), .int .i64 0, .string (⟨#[]⟩ : ByteArray), .slice none 0 0]) ?_ 0 _ rfl; (with_reducible repeat (first | refine zai ?_ _ | refine zak ?_ | refine zah ?_ _)); exact BK600.out) Tryd.underlying33 rfl (by kernel_rfl)) rfl ?_
  exact ⟨_, by first | rfl | (simp [zar, zas] <;> rfl) | (simp [*, zar, zas] <;> rfl), by first | exact Kd.R_nil _ _ _ _ _ | exact Kd.N_nil _ _ _ _ _ | exact Kd.V_nil _ _ _ _ _ | exact Kd.Q_nil _ _ _ _ _ | exact Kd.S_nil _ _ _ _ _, by repeat (first | (with_reducible first | exact HB.out | apply zad | apply zaa | apply zac | refine zae ?_ GE599.out | refine zae ?_ GE600.out) | exact HB.out)⟩
 replace c4 := Bool.eq_false_iff.mpr c4
 subst c4
 replace H : ((zaI.f k a0_0 a0_1 a0_2).bind fun t602 => (if t602 = 0 then (if a0_1.size + a1.size ≤ 9223372036854775807 then ((zaO.f k a0_0 a0_1 a0_2 (a0_1 ++ a1) true).bind fun bt603 => (some (bt603.1, bt603.2.1, bt603.2.2.1, bt603.2.2.2.1, bt603.2.2.2.2.1, bt603.2.2.2.2.2))) else (none)) else (some (1, 0, (⟨#[]⟩ : ByteArray), 0, (⟨#[]⟩ : ByteArray), ([] : List Int))))) = some (r1, r2, r3, r4, r5, r6) := by rw [if_neg (show ¬ (false = true) by decide)] at H; exact H
 replace H := Option.bind_eq_some_iff.mp H
 obtain ⟨t602, A90, H⟩ := H
 replace H : (if t602 = 0 then (if a0_1.size + a1.size ≤ 9223372036854775807 then ((zaO.f k a0_0 a0_1 a0_2 (a0_1 ++ a1) true).bind fun bt603 => (some (bt603.1, bt603.2.1, bt603.2.2.1, bt603.2.2.2.1, bt603.2.2.2.2.1, bt603.2.2.2.2.2))) else (none)) else (some (1, 0, (⟨#[]⟩ : ByteArray), 0, (⟨#[]⟩ : ByteArray), ([] : List Int)))) = some (r1, r2, r3, r4, r5, r6) := H
 have A9 := zab.mk A90; clear A90
 by_cases c10 : t602 = 0
 ·rw [if_pos c10] at H
  have c10b0 : (t602 == 0) = true := beq_iff_eq.mpr c10
  have c10b1 : (t602 != 0) = false := bne_eq_false_iff_eq.mpr c10
  clear c10
  by_cases c11 : a0_1.size + a1.size ≤ 9223372036854775807
  ·rw [if_pos c11] at H
   have c11b0 := eq_true c11
   have c11b1 : decide (a0_1.size + a1.size ≤ 9223372036854775807) = true := decide_eq_true c11
   try have c11b2 : (9223372036854775807 < a0_1.size + a1.size) = False := eq_false (Nat.not_lt.2 c11)
   replace H := Option.bind_eq_some_iff.mp H
   obtain ⟨⟨t603, t604, t605, t606, t607, t608⟩, A120, H⟩ := H
   replace H : (some (t603, t604, t605, t606, t607, t608)) = some (r1, r2, r3, r4, r5, r6) := H
   have A12 := zab.mk A120; clear A120
   simp only [Option.some.injEq, Prod.mk.injEq] at H
   obtain ⟨rfl, rfl, rfl, rfl, rfl, rfl⟩ := H
   go_enter Tryd.func9, Tryd.ntmps9
   go_wp2_with (first | ((with_reducible refine zbb (N := 2) rfl ?_); refine zbs ?hg (N := 2) ?hd (cs := #[.int .i64 a0_0, .string a0_1, .int .i64 a0_2]) (t := 30) ?hr ?_; (case hd => rfl); (case hg => rfl); (case hr => first | (go_simp; done) | (go_simp; rfl)); intro gb599 hg w13 hbox hb; have n0_ := zab.mk (zau HB.out hb); have n1_ := zab.mk (hbox); have n2_ := zab.mk ((by rw [hg]; exact (zav HB.out) : w.heap.size ≤ gb599)); have n3_ := zab.mk ((by rw [hg]; exact (zav HB.out) : w.heap.size ≤ gb599)); clear HB; have HB := n0_; have BK599 := n1_; have GW599 := n2_; have GE599 := n3_; clear n0_ n1_ n2_ n3_ hb hbox hg) | ((with_reducible refine zbb (N := 4) rfl ?_); refine zbs ?hg (N := 4) ?hd (cs := #[.int .i64 0, .int .i64 0, .string (⟨#[]⟩ : ByteArray), .int .i64 0, .string (⟨#[]⟩ : ByteArray), .slice none 0 0]) (t := 33) ?hr ?_; (case hd => rfl); (case hg => rfl); (case hr => first | (go_simp; done) | (go_simp; rfl)); intro gb600 hg w14 hbox hb; have n0_ := zab.mk (zaL (g := gb599) (o := .cells #[.int .i64 a0_0, .string a0_1, .int .i64 a0_2] 30 (0, 0)) BK599.out hb); have n1_ := zab.mk (zau HB.out hb); have n2_ := zab.mk (hbox); have n3_ := zab.mk ((by rw [hg]; exact (zav HB.out) : w.heap.size ≤ gb600)); have n4_ := zab.mk ((by rw [hg]; exact (zav HB.out) : w.heap.size ≤ gb600)); have n5_ := zab.mk ((by rw [hg]; exact Nat.ne_of_lt (blk_lt (g := gb599) (o := .cells #[.int .i64 a0_0, .string a0_1, .int .i64 a0_2] 30 (0, 0)) BK599.out) : gb599 ≠ gb600)); have n6_ := zab.mk ((by rw [hg]; exact Nat.ne_of_gt (blk_lt (g := gb599) (o := .cells #[.int .i64 a0_0, .string a0_1, .int .i64 a0_2] 30 (0, 0)) BK599.out) : gb600 ≠ gb599)); clear BK599 HB; have BK599 := n0_; have HB := n1_; have BK600 := n2_; have GW600 := n3_; have GE600 := n4_; have NB599_600 := n5_; have NB600_599 := n6_; clear n0_ n1_ n2_ n3_ n4_ n5_ n6_ hb hbox hg) | ((with_reducible refine zan (f := 24) rfl ?_); refine zaN (some 6) rfl rfl Tryd.func24 (by kernel_rfl) rfl #[.string a1] rfl (by (try simp only [List.map_toArray, List.map_cons, List.map_nil]); first | done | rfl | (simp only [List.length_drop, List.length_take]; rfl)) ?_; (with_reducible refine (zbw.calls a1 false _ A3.out).mono ?_); rintro e w' ⟨rfl, ⟨nd, rfl⟩⟩; refine ⟨_, rfl, ?_⟩; (try (rw [drewN_self w14]; generalize hq_ : World.drewN w14 _ = w14; have n0_ : zab (w14.heap[gb599]? = some (.cells #[.int .i64 a0_0, .string a0_1, .int .i64 a0_2] 30 (0, 0))) := ⟨by rw [← hq_]; exact (by (with_reducible repeat (first | refine zai ?_ _ | refine zak ?_ | refine zah ?_ _)); exact BK599.out)⟩; have n1_ : zab (w14.heap[gb600]? = some (.cells #[.int .i64 0, .int .i64 0, .string (⟨#[]⟩ : ByteArray), .int .i64 0, .string (⟨#[]⟩ : ByteArray), .slice none 0 0] 33 (0, 0))) := ⟨by rw [← hq_]; exact (by (with_reducible repeat (first | refine zai ?_ _ | refine zak ?_ | refine zah ?_ _)); exact BK600.out)⟩; have n2_ : zab (Below w.heap.size w w14) := ⟨by rw [← hq_]; exact (by repeat (first | (with_reducible first | exact HB.out | apply zad | apply zaa | apply zac | refine zae ?_ GE599.out | refine zae ?_ GE600.out) | exact HB.out))⟩; clear BK599 BK600 HB hq_; have BK599 := n0_; have BK600 := n1_; have HB := n2_; clear n0_ n1_ n2_)); have hnb15 := NB599_600.out; have hnc15 := NB600_599.out; have hcz16_0 : w14.cell? ⟨gb599, 0, none⟩ = some (.int .i64 a0_0) := (zal BK599.out 0).trans rfl; have hcz16_1 : w14.cell? ⟨gb599, 1, none⟩ = some (.string a0_1) := (zal BK599.out 1).trans rfl; have hcz16_2 : w14.cell? ⟨gb599, 2, none⟩ = some (.int .i64 a0_2) := (zal BK599.out 2).trans rfl; have hfz16_0 := zam BK599.out 0; have hfz16_1 := zam BK599.out 1; have hfz16_2 := zam BK599.out 2) | ((with_reducible refine zan (f := 10) rfl ?_); refine zaN (some 9) rfl rfl Tryd.func10 (by kernel_rfl) rfl #[.agg #[.int .i64 a0_0, .string a0_1, .int .i64 a0_2]] rfl (by (try simp only [List.map_toArray, List.map_cons, List.map_nil]); first | done | rfl | (simp only [List.length_drop, List.length_take]; rfl)) ?_; (with_reducible refine (zaI.calls k a0_0 a0_1 a0_2 t602 _ ?side1 A9.out).mono ?_); (case side1 => exact GT_below HG.out HB.out); rintro e w17 ⟨rfl, hb⟩; refine ⟨_, rfl, ?_⟩; have n0_ := zab.mk (zaL (g := gb599) (o := .cells #[.int .i64 a0_0, .string a0_1, .int .i64 a0_2] 30 (0, 0)) BK599.out hb); have n1_ := zab.mk (zaL (g := gb600) (o := .cells #[.int .i64 0, .int .i64 0, .string (⟨#[]⟩ : ByteArray), .int .i64 0, .string (⟨#[]⟩ : ByteArray), .slice none 0 0] 33 (0, 0)) BK600.out hb); have n2_ := zab.mk (zau HB.out hb); clear BK599 BK600 HB; have BK599 := n0_; have BK600 := n1_; have HB := n2_; clear n0_ n1_ n2_; (try clear hb); (try clear hb2); (try clear hk); (try clear hi); have hcz18_0 : w17.cell? ⟨gb599, 0, none⟩ = some (.int .i64 a0_0) := (zal BK599.out 0).trans rfl; have hcz18_1 : w17.cell? ⟨gb599, 1, none⟩ = some (.string a0_1) := (zal BK599.out 1).trans rfl; have hcz18_2 : w17.cell? ⟨gb599, 2, none⟩ = some (.int .i64 a0_2) := (zal BK599.out 2).trans rfl; have hfz18_0 := zam BK599.out 0; have hfz18_1 := zam BK599.out 1; have hfz18_2 := zam BK599.out 2) | ((with_reducible refine zan (f := 27) rfl ?_); refine zaN (some 17) rfl rfl Tryd.func27 (by kernel_rfl) rfl #[.agg #[.int .i64 a0_0, .string a0_1, .int .i64 a0_2], .string (a0_1 ++ a1), .bool true] rfl (by (try simp only [List.map_toArray, List.map_cons, List.map_nil]); first | done | rfl | (simp only [List.length_drop, List.length_take]; rfl)) ?_; (with_reducible refine (zaO.calls k a0_0 a0_1 a0_2 (a0_1 ++ a1) true t603 t604 t605 t606 t607 t608 _ ?side1 A12.out).mono ?_); (case side1 => exact GT_below HG.out HB.out); rintro e w19 ⟨v609, rfl, ho0, hb⟩; refine ⟨_, rfl, ?_⟩; have n0_ := zab.mk (Kd.zbm ho0 (zav HB.out)); have n1_ := zab.mk (zaL (g := gb599) (o := .cells #[.int .i64 a0_0, .string a0_1, .int .i64 a0_2] 30 (0, 0)) BK599.out hb); have n2_ := zab.mk (zaL (g := gb600) (o := .cells #[.int .i64 0, .int .i64 0, .string (⟨#[]⟩ : ByteArray), .int .i64 0, .string (⟨#[]⟩ : ByteArray), .slice none 0 0] 33 (0, 0)) BK600.out hb); have n3_ := zab.mk (zau HB.out hb); clear BK599 BK600 HB; have HO610 := n0_; have BK599 := n1_; have BK600 := n2_; have HB := n3_; clear n0_ n1_ n2_ n3_; (try clear hb); (try clear hb2); (try clear hk); (try clear hi); (try clear ho0); have hcz20_0 : w19.cell? ⟨gb600, 0, none⟩ = some (.int .i64 0) := (zal BK600.out 0).trans rfl; have hcz20_1 : w19.cell? ⟨gb600, 1, none⟩ = some (.int .i64 0) := (zal BK600.out 1).trans rfl; have hcz20_2 : w19.cell? ⟨gb600, 2, none⟩ = some (.string (⟨#[]⟩ : ByteArray)) := (zal BK600.out 2).trans rfl; have hcz20_3 : w19.cell? ⟨gb600, 3, none⟩ = some (.int .i64 0) := (zal BK600.out 3).trans rfl; have hcz20_4 : w19.cell? ⟨gb600, 4, none⟩ = some (.string (⟨#[]⟩ : ByteArray)) := (zal BK600.out 4).trans rfl; have hcz20_5 : w19.cell? ⟨gb600, 5, none⟩ = some (.slice none 0 0) := (zal BK600.out 5).trans rfl; have hfz20_0 := zam BK600.out 0; have hfz20_1 := zam BK600.out 1; have hfz20_2 := zam BK600.out 2; have hfz20_3 := zam BK600.out 3; have hfz20_4 := zam BK600.out 4; have hfz20_5 := zam BK600.out 5; obtain ⟨Ao21, co21, eo21⟩ := Kd.zbr HO610.out; subst eo21))
   refine bodyPost_ret (results_cell_row rfl _ _ gb600 33 #[.int .i64 t603, .int .i64 t604, .string t605, .int .i64 t606, .string t607, .slice Ao21 t608.length co21] (0, 0) _ rfl (by (with_reducible repeat (first | refine zai ?_ _ | refine zak ?_ | refine zah ?_ _)); refine zaG (cs := #[.int .i64 t603, .int .i64 t604, .string t605, .int .i64 t606, .string t607, .slice none 0 0]) ?_ 5 _ rfl; (with_reducible repeat (first | refine zai ?_ _ | refine zak ?_ | refine zah ?_ _)); refine zaG (cs := #[.int .i64 t603, .int .i64 t604, .string t605, .int .i64 t606, .string (⟨#[]⟩ : ByteArray), .slice none 0 0]) ?_ 4 _ rfl; (with_reducible repeat (first | refine zai ?_ _ | refine zak ?_ | refine zah ?_ _)); refine zaG (cs := #[.int .i64 t603, .int .i64 t604, .string t605, .int .i64 0, .string (⟨#[]⟩ : ByteArray), .slice none 0 0]) ?_ 3 _ rfl; (with_reducible repeat (first | refine zai ?_ _ | refine zak ?_ | refine zah ?_ _)); refine zaG (cs := #[.int .i64 t603, .int .i64 t604, .string (⟨#[]⟩ : ByteArray), .int .i64 0, .string (⟨#[]⟩ : ByteArray), .slice none 0 0]) ?_ 2 _ rfl; (with_reducible repeat (first | refine zai ?_ _ | refine zak ?_ | refine zah ?_ _)); refine zaG (cs := #[.int .i64 t603, .int .i64 0, .string (⟨#[]⟩ : ByteArray), .int .i64 0, .string (⟨#[]⟩ : ByteArray), .slice none 0 0]) ?_ 1 _ rfl; (with_reducible repeat (first | refine zai ?_ _ | refine zak ?_ | refine zah ?_ _)); refine zaG (cs := #[.int .i64 0, .int .i64 0, .string (⟨#[]⟩ : ByteArray), .int .i64 0, .string (⟨#[]⟩ : ByteArray), .slice none 0 0]) ?_ 0 _ rfl; (with_reducible repeat (first | refine zai ?_ _ | refine zak ?_ | refine zah ?_ _)); exact BK600.out) Tryd.underlying33 rfl (by kernel_rfl)) rfl ?_
   exact ⟨_, by first | rfl | (simp [zar, zas] <;> rfl) | (simp [*, zar, zas] <;> rfl), by (with_reducible repeat (first | apply Kd.R_alloc | apply Kd.zat | apply Kd.zaw)); exact Kd.za7 (Kd.za0 (p := ⟨gb600, 5, none⟩) (Kd.za0 (p := ⟨gb600, 4, none⟩) (Kd.za0 (p := ⟨gb600, 3, none⟩) (Kd.za0 (p := ⟨gb600, 2, none⟩) (Kd.za0 (p := ⟨gb600, 1, none⟩) (Kd.za0 (p := ⟨gb600, 0, none⟩) (Kd.zbF HO610.out BK600.out (by decide)) (fun _ hk => hk.2) (.int .i64 t603)) (fun _ hk => hk.2) (.int .i64 t604)) (fun _ hk => hk.2) (.string t605)) (fun _ hk => hk.2) (.int .i64 t606)) (fun _ hk => hk.2) (.string t607)) (fun _ hk => hk.2) (.slice Ao21 t608.length co21)) (fun _ hk => trivial), by repeat (first | (with_reducible first | exact HB.out | apply zad | apply zaa | apply zac | refine zae ?_ GE599.out | refine zae ?_ GE600.out) | exact HB.out)⟩
  rw [if_neg c11] at H
  exact absurd H (by simp)
 rw [if_neg c10] at H
 have c10b0 : (t602 == 0) = false := beq_eq_false_iff_ne.mpr c10
 have c10b1 : (t602 != 0) = true := bne_iff_ne.mpr c10
 simp only [Option.some.injEq, Prod.mk.injEq] at H
 obtain ⟨rfl, rfl, rfl, rfl, rfl, rfl⟩ := H
 go_enter Tryd.func9, Tryd.ntmps9
 go_wp2_with (first | ((with_reducible refine zbb (N := 2) rfl ?_); refine zbs ?hg (N := 2) ?hd (cs := #[.int .i64 a0_0, .string a0_1, .int .i64 a0_2]) (t := 30) ?hr ?_; (case hd => rfl); (case hg => rfl); (case hr => first | (go_simp; done) | (go_simp; rfl)); intro gb599 hg w22 hbox hb; have n0_ := zab.mk (zau HB.out hb); have n1_ := zab.mk (hbox); have n2_ := zab.mk ((by rw [hg]; exact (zav HB.out) : w.heap.size ≤ gb599)); have n3_ := zab.mk ((by rw [hg]; exact (zav HB.out) : w.heap.size ≤ gb599)); clear HB; have HB := n0_; have BK599 := n1_; have GW599 := n2_; have GE599 := n3_; clear n0_ n1_ n2_ n3_ hb hbox hg) | ((with_reducible refine zbb (N := 4) rfl ?_); refine zbs ?hg (N := 4) ?hd (cs := #[.int .i64 0, .int .i64 0, .string (⟨#[]⟩ : ByteArray), .int .i64 0, .string (⟨#[]⟩ : ByteArray), .slice none 0 0]) (t := 33) ?hr ?_; (case hd => rfl); (case hg => rfl); (case hr => first | (go_simp; done) | (go_simp; rfl)); intro gb600 hg w23 hbox hb; have n0_ := zab.mk (zaL (g := gb599) (o := .cells #[.int .i64 a0_0, .string a0_1, .int .i64 a0_2] 30 (0, 0)) BK599.out hb); have n1_ := zab.mk (zau HB.out hb); have n2_ := zab.mk (hbox); have n3_ := zab.mk ((by rw [hg]; exact (zav HB.out) : w.heap.size ≤ gb600)); have n4_ := zab.mk ((by rw [hg]; exact (zav HB.out) : w.heap.size ≤ gb600)); have n5_ := zab.mk ((by rw [hg]; exact Nat.ne_of_lt (blk_lt (g := gb599) (o := .cells #[.int .i64 a0_0, .string a0_1, .int .i64 a0_2] 30 (0, 0)) BK599.out) : gb599 ≠ gb600)); have n6_ := zab.mk ((by rw [hg]; exact Nat.ne_of_gt (blk_lt (g := gb599) (o := .cells #[.int .i64 a0_0, .string a0_1, .int .i64 a0_2] 30 (0, 0)) BK599.out) : gb600 ≠ gb599)); clear BK599 HB; have BK599 := n0_; have HB := n1_; have BK600 := n2_; have GW600 := n3_; have GE600 := n4_; have NB599_600 := n5_; have NB600_599 := n6_; clear n0_ n1_ n2_ n3_ n4_ n5_ n6_ hb hbox hg) | ((with_reducible refine zan (f := 24) rfl ?_); refine zaN (some 6) rfl rfl Tryd.func24 (by kernel_rfl) rfl #[.string a1] rfl (by (try simp only [List.map_toArray, List.map_cons, List.map_nil]); first | done | rfl | (simp only [List.length_drop, List.length_take]; rfl)) ?_; (with_reducible refine (zbw.calls a1 false _ A3.out).mono ?_); rintro e w' ⟨rfl, ⟨nd, rfl⟩⟩; refine ⟨_, rfl, ?_⟩; (try (rw [drewN_self w23]; generalize hq_ : World.drewN w23 _ = w23; have n0_ : zab (w23.heap[gb599]? = some (.cells #[.int .i64 a0_0, .string a0_1, .int .i64 a0_2] 30 (0, 0))) := ⟨by rw [← hq_]; exact (by (with_reducible repeat (first | refine zai ?_ _ | refine zak ?_ | refine zah ?_ _)); exact BK599.out)⟩; have n1_ : zab (w23.heap[gb600]? = some (.cells #[.int .i64 0, .int .i64 0, .string (⟨#[]⟩ : ByteArray), .int .i64 0, .string (⟨#[]⟩ : ByteArray), .slice none 0 0] 33 (0, 0))) := ⟨by rw [← hq_]; exact (by (with_reducible repeat (first | refine zai ?_ _ | refine zak ?_ | refine zah ?_ _)); exact BK600.out)⟩; have n2_ : zab (Below w.heap.size w w23) := ⟨by rw [← hq_]; exact (by repeat (first | (with_reducible first | exact HB.out | apply zad | apply zaa | apply zac | refine zae ?_ GE599.out | refine zae ?_ GE600.out) | exact HB.out))⟩; clear BK599 BK600 HB hq_; have BK599 := n0_; have BK600 := n1_; have HB := n2_; clear n0_ n1_ n2_)); have hnb24 := NB599_600.out; have hnc24 := NB600_599.out; have hcz25_0 : w23.cell? ⟨gb599, 0, none⟩ = some (.int .i64 a0_0) := (zal BK599.out 0).trans rfl; have hcz25_1 : w23.cell? ⟨gb599, 1, none⟩ = some (.string a0_1) := (zal BK599.out 1).trans rfl; have hcz25_2 : w23.cell? ⟨gb599, 2, none⟩ = some (.int .i64 a0_2) := (zal BK599.out 2).trans rfl; have hfz25_0 := zam BK599.out 0; have hfz25_1 := zam BK599.out 1; have hfz25_2 := zam BK599.out 2) | ((with_reducible refine zan (f := 10) rfl ?_); refine zaN (some 9) rfl rfl Tryd.func10 (by kernel_rfl) rfl #[.agg #[.int .i64 a0_0, .string a0_1, .int .i64 a0_2]] rfl (by (try simp only [List.map_toArray, List.map_cons, List.map_nil]); first | done | rfl | (simp only [List.length_drop, List.length_take]; rfl)) ?_; (with_reducible refine (zaI.calls k a0_0 a0_1 a0_2 t602 _ ?side1 A9.out).mono ?_); (case side1 => exact GT_below HG.out HB.out); rintro e w26 ⟨rfl, hb⟩; refine ⟨_, rfl, ?_⟩; have n0_ := zab.mk (zaL (g := gb599) (o := .cells #[.int .i64 a0_0, .string a0_1, .int .i64 a0_2] 30 (0, 0)) BK599.out hb); have n1_ := zab.mk (zaL (g := gb600) (o := .cells #[.int .i64 0, .int .i64 0, .string (⟨#[]⟩ : ByteArray), .int .i64 0, .string (⟨#[]⟩ : ByteArray), .slice none 0 0] 33 (0, 0)) BK600.out hb); have n2_ := zab.mk (zau HB.out hb); clear BK599 BK600 HB; have BK599 := n0_; have BK600 := n1_; have HB := n2_; clear n0_ n1_ n2_; (try clear hb); (try clear hb2); (try clear hk); (try clear hi); have hcz27_0 : w26.cell? ⟨gb600, 0, none⟩ = some (.int .i64 0) := (zal BK600.out 0).trans rfl; have hcz27_1 : w26.cell? ⟨gb600, 1, none⟩ = some (.int .i64 0) := (zal BK600.out 1).trans rfl; have hcz27_2 : w26.cell? ⟨gb600, 2, none⟩ = some (.string (⟨#[]⟩ : ByteArray)) := (zal BK600.out 2).trans rfl; have hcz27_3 : w26.cell? ⟨gb600, 3, none⟩ = some (.int .i64 0) := (zal BK600.out 3).trans rfl; have hcz27_4 : w26.cell? ⟨gb600, 4, none⟩ = some (.string (⟨#[]⟩ : ByteArray)) := (zal BK600.out 4).trans rfl; have hcz27_5 : w26.cell? ⟨gb600, 5, none⟩ = some (.slice none 0 0) := (zal BK600.out 5).trans rfl; have hfz27_0 := zam BK600.out 0; have hfz27_1 := zam BK600.out 1; have hfz27_2 := zam BK600.out 2; have hfz27_3 := zam BK600.out 3; have hfz27_4 := zam BK600.out 4; have hfz27_5 := zam BK600.out 5))
 refine bodyPost_ret (results_cell_row rfl _ _ gb600 33 #[.int .i64 1, .int .i64 0, .string (⟨#[]⟩ : ByteArray), .int .i64 0, .string (⟨#[]⟩ : ByteArray), .slice none 0 0] (0, 0) _ rfl (by (with_reducible repeat (first | refine zai ?_ _ | refine zak ?_ | refine zah ?_ _)); refine zaG (cs := #[.int .i64 1, .int .i64 0, .string (⟨#[]⟩ : ByteArray), .int .i64 0, .string (⟨#[]⟩ : ByteArray), .slice none 0 0]) ?_ 5 _ rfl; (with_reducible repeat (first | refine zai ?_ _ | refine zak ?_ | refine zah ?_ _)); refine zaG (cs := #[.int .i64 1, .int .i64 0, .string (⟨#[]⟩ : ByteArray), .int .i64 0, .string (⟨#[]⟩ : ByteArray), .slice none 0 0]) ?_ 4 _ rfl; (with_reducible repeat (first | refine zai ?_ _ | refine zak ?_ | refine zah ?_ _)); refine zaG (cs := #[.int .i64 1, .int .i64 0, .string (⟨#[]⟩ : ByteArray), .int .i64 0, .string (⟨#[]⟩ : ByteArray), .slice none 0 0]) ?_ 3 _ rfl; (with_reducible repeat (first | refine zai ?_ _ | refine zak ?_ | refine zah ?_ _)); refine zaG (cs := #[.int .i64 1, .int .i64 0, .string (⟨#[]⟩ : ByteArray), .int .i64 0, .string (⟨#[]⟩ : ByteArray), .slice none 0 0]) ?_ 2 _ rfl; (with_reducible repeat (first | refine zai ?_ _ | refine zak ?_ | refine zah ?_ _)); refine zaG (cs := #[.int .i64 1, .int .i64 0, .string (⟨#[]⟩ : ByteArray), .int .i64 0, .string (⟨#[]⟩ : ByteArray), .slice none 0 0]) ?_ 1 _ rfl; (with_reducible repeat (first | refine zai ?_ _ | refine zak ?_ | refine zah ?_ _)); refine zaG (cs := #[.int .i64 0, .int .i64 0, .string (⟨#[]⟩ : ByteArray), .int .i64 0, .string (⟨#[]⟩ : ByteArray), .slice none 0 0]) ?_ 0 _ rfl; (with_reducible repeat (first | refine zai ?_ _ | refine zak ?_ | refine zah ?_ _)); exact BK600.out) Tryd.underlying33 rfl (by kernel_rfl)) rfl ?_
 exact ⟨_, by first | rfl | (simp [zar, zas] <;> rfl) | (simp [*, zar, zas] <;> rfl), by first | exact Kd.R_nil _ _ _ _ _ | exact Kd.N_nil _ _ _ _ _ | exact Kd.V_nil _ _ _ _ _ | exact Kd.Q_nil _ _ _ _ _ | exact Kd.S_nil _ _ _ _ _, by repeat (first | (with_reducible first | exact HB.out | apply zad | apply zaa | apply zac | refine zae ?_ GE599.out | refine zae ?_ GE600.out) | exact HB.out)⟩
def impl_EndDecoder.f (k : Nat) (a0_0 : Int) (a0_1 : ByteArray) (a0_2 : Int) : Option (Int × Int × ByteArray × Int × ByteArray × List Int) := (zaI.f k a0_0 a0_1 a0_2).bind fun t613 => (if t613 = 0 then ((zaO.f k a0_0 a0_1 a0_2 a0_1 false).bind fun bt614 => (some (bt614.1, bt614.2.1, bt614.2.2.1, bt614.2.2.2.1, bt614.2.2.2.2.1, bt614.2.2.2.2.2))) else (some (1, 0, (⟨#[]⟩ : ByteArray), 0, (⟨#[]⟩ : ByteArray), ([] : List Int))))
set_option maxHeartbeats 8000000 in
set_option maxRecDepth 100000 in
theorem impl_EndDecoder.calls (k : Nat) (a0_0 : Int) (a0_1 : ByteArray) (a0_2 : Int) (r1 : Int) (r2 : Int) (r3 : ByteArray) (r4 : Int) (r5 : ByteArray) (r6 : List Int) (w : World) (hG : GT w) (h : impl_EndDecoder.f k a0_0 a0_1 a0_2 = some (r1, r2, r3, r4, r5, r6)) :
  Calls Tryd.prog 11 #[.agg #[.int .i64 a0_0, .string a0_1, .int .i64 a0_2]] w fun e w' => ∃ v5_ : Value, e = .returned (.agg #[.int .i64 r1, .int .i64 r2, .string r3, .int .i64 r4, .string r5, v5_]) ∧ Kd.R (Kd.int .i64) 2 w' w.heap.size (fun _ => True) v5_ r6 ∧ Below w.heap.size w w' := by
 have hu30 := Tryd.underlying30
 have hu33 := Tryd.underlying33
 have HG := zab.mk hG; clear hG
 have HB := zab.mk (Below.refl w.heap.size w)
 have H : ((zaI.f k a0_0 a0_1 a0_2).bind fun t613 => (if t613 = 0 then ((zaO.f k a0_0 a0_1 a0_2 a0_1 false).bind fun bt614 => (some (bt614.1, bt614.2.1, bt614.2.2.1, bt614.2.2.2.1, bt614.2.2.2.2.1, bt614.2.2.2.2.2))) else (some (1, 0, (⟨#[]⟩ : ByteArray), 0, (⟨#[]⟩ : ByteArray), ([] : List Int))))) = some (r1, r2, r3, r4, r5, r6) := h
 clear h; replace H := Option.bind_eq_some_iff.mp H
 obtain ⟨t613, A20, H⟩ := H
 replace H : (if t613 = 0 then ((zaO.f k a0_0 a0_1 a0_2 a0_1 false).bind fun bt614 => (some (bt614.1, bt614.2.1, bt614.2.2.1, bt614.2.2.2.1, bt614.2.2.2.2.1, bt614.2.2.2.2.2))) else (some (1, 0, (⟨#[]⟩ : ByteArray), 0, (⟨#[]⟩ : ByteArray), ([] : List Int)))) = some (r1, r2, r3, r4, r5, r6) := H
 have A2 := zab.mk A20; clear A20
 by_cases c3 : t613 = 0
 ·rw [if_pos c3] at H
  have c3b0 : (t613 == 0) = true := beq_iff_eq.mpr c3
  have c3b1 : (t613 != 0) = false := bne_eq_false_iff_eq.mpr c3
  clear c3; replace H := Option.bind_eq_some_iff.mp H
  obtain ⟨⟨t614, t615, t616, t617, t618, t619⟩, A40, H⟩ := H
  replace H : (some (t614, t615, t616, t617, t618, t619)) = some (r1, r2, r3, r4, r5, r6) := H
  have A4 := zab.mk A40; clear A40
  simp only [Option.some.injEq, Prod.mk.injEq] at H
  obtain ⟨rfl, rfl, rfl, rfl, rfl, rfl⟩ := H
  go_enter Tryd.func11, Tryd.ntmps11
  go_wp2_with (first | ((with_reducible refine zbb (N := 1) rfl ?_); refine zbs ?hg (N := 1) ?hd (cs := #[.int .i64 a0_0, .string a0_1, .int .i64 a0_2]) (t := 30) ?hr ?_; (case hd => rfl); (case hg => rfl); (case hr => first | (go_simp; done) | (go_simp; rfl)); intro gb611 hg w5 hbox hb; have n0_ := zab.mk (zau HB.out hb); have n1_ := zab.mk (hbox); have n2_ := zab.mk ((by rw [hg]; exact (zav HB.out) : w.heap.size ≤ gb611)); have n3_ := zab.mk ((by rw [hg]; exact (zav HB.out) : w.heap.size ≤ gb611)); clear HB; have HB := n0_; have BK611 := n1_; have GW611 := n2_; have GE611 := n3_; clear n0_ n1_ n2_ n3_ hb hbox hg) | ((with_reducible refine zbb (N := 2) rfl ?_); refine zbs ?hg (N := 2) ?hd (cs := #[.int .i64 0, .int .i64 0, .string (⟨#[]⟩ : ByteArray), .int .i64 0, .string (⟨#[]⟩ : ByteArray), .slice none 0 0]) (t := 33) ?hr ?_; (case hd => rfl); (case hg => rfl); (case hr => first | (go_simp; done) | (go_simp; rfl)); intro gb612 hg w6 hbox hb; have n0_ := zab.mk (zaL (g := gb611) (o := .cells #[.int .i64 a0_0, .string a0_1, .int .i64 a0_2] 30 (0, 0)) BK611.out hb); have n1_ := zab.mk (zau HB.out hb); have n2_ := zab.mk (hbox); have n3_ := zab.mk ((by rw [hg]; exact (zav HB.out) : w.heap.size ≤ gb612)); have n4_ := zab.mk ((by rw [hg]; exact (zav HB.out) : w.heap.size ≤ gb612)); have n5_ := zab.mk ((by rw [hg]; exact Nat.ne_of_lt (blk_lt (g := gb611) (o := .cells #[.int .i64 a0_0, .string a0_1, .int .i64 a0_2] 30 (0, 0)) BK611.out) : gb611 ≠ gb612)); have n6_ := zab.mk ((by rw [hg]; exact Nat.ne_of_gt (blk_lt (g := gb611) (o := .cells #[.int .i64 a0_0, .string a0_1, .int .i64 a0_2] 30 (0, 0)) BK611.out) : gb612 ≠ gb611)); clear BK611 HB; have BK611 := n0_; have HB := n1_; have BK612 := n2_; have GW612 := n3_; have GE612 := n4_; have NB611_612 := n5_; have NB612_611 := n6_; clear n0_ n1_ n2_ n3_ n4_ n5_ n6_ hb hbox hg; have hnb7 := NB611_612.out; have hnc7 := NB612_611.out; have hcz8_0 : w6.cell? ⟨gb611, 0, none⟩ = some (.int .i64 a0_0) := (zal BK611.out 0).trans rfl; have hcz8_1 : w6.cell? ⟨gb611, 1, none⟩ = some (.string a0_1) := (zal BK611.out 1).trans rfl; have hcz8_2 : w6.cell? ⟨gb611, 2, none⟩ = some (.int .i64 a0_2) := (zal BK611.out 2).trans rfl; have hfz8_0 := zam BK611.out 0; have hfz8_1 := zam BK611.out 1; have hfz8_2 := zam BK611.out 2) | ((with_reducible refine zan (f := 10) rfl ?_); refine zaN (some 4) rfl rfl Tryd.func10 (by kernel_rfl) rfl #[.agg #[.int .i64 a0_0, .string a0_1, .int .i64 a0_2]] rfl (by (try simp only [List.map_toArray, List.map_cons, List.map_nil]); first | done | rfl | (simp only [List.length_drop, List.length_take]; rfl)) ?_; (with_reducible refine (zaI.calls k a0_0 a0_1 a0_2 t613 _ ?side1 A2.out).mono ?_); (case side1 => exact GT_below HG.out HB.out); rintro e w9 ⟨rfl, hb⟩; refine ⟨_, rfl, ?_⟩; have n0_ := zab.mk (zaL (g := gb611) (o := .cells #[.int .i64 a0_0, .string a0_1, .int .i64 a0_2] 30 (0, 0)) BK611.out hb); have n1_ := zab.mk (zaL (g := gb612) (o := .cells #[.int .i64 0, .int .i64 0, .string (⟨#[]⟩ : ByteArray), .int .i64 0, .string (⟨#[]⟩ : ByteArray), .slice none 0 0] 33 (0, 0)) BK612.out hb); have n2_ := zab.mk (zau HB.out hb); clear BK611 BK612 HB; have BK611 := n0_; have BK612 := n1_; have HB := n2_; clear n0_ n1_ n2_; (try clear hb); (try clear hb2); (try clear hk); (try clear hi); have hcz10_0 : w9.cell? ⟨gb611, 0, none⟩ = some (.int .i64 a0_0) := (zal BK611.out 0).trans rfl; have hcz10_1 : w9.cell? ⟨gb611, 1, none⟩ = some (.string a0_1) := (zal BK611.out 1).trans rfl; have hcz10_2 : w9.cell? ⟨gb611, 2, none⟩ = some (.int .i64 a0_2) := (zal BK611.out 2).trans rfl; have hfz10_0 := zam BK611.out 0; have hfz10_1 := zam BK611.out 1; have hfz10_2 := zam BK611.out 2) | ((with_reducible refine zan (f := 27) rfl ?_); refine zaN (some 10) rfl rfl Tryd.func27 (by kernel_rfl) rfl #[.agg #[.int .i64 a0_0, .string a0_1, .int .i64 a0_2], .string a0_1, .bool false] rfl (by (try simp only [List.map_toArray, List.map_cons, List.map_nil]); first | done | rfl | (simp only [List.length_drop, List.length_take]; rfl)) ?_; (with_reducible refine (zaO.calls k a0_0 a0_1 a0_2 a0_1 false t614 t615 t616 t617 t618 t619 _ ?side1 A4.out).mono ?_); (case side1 => exact GT_below HG.out HB.out); rintro e w11 ⟨v620, rfl, ho0, hb⟩; refine ⟨_, rfl, ?_⟩; have n0_ := zab.mk (Kd.zbm ho0 (zav HB.out)); have n1_ := zab.mk (zaL (g := gb611) (o := .cells #[.int .i64 a0_0, .string a0_1, .int .i64 a0_2] 30 (0, 0)) BK611.out hb); have n2_ := zab.mk (zaL (g := gb612) (o := .cells #[.int .i64 0, .int .i64 0, .string (⟨#[]⟩ : ByteArray), .int .i64 0, .string (⟨#[]⟩ : ByteArray), .slice none 0 0] 33 (0, 0)) BK612.out hb); have n3_ := zab.mk (zau HB.out hb); clear BK611 BK612 HB; have HO621 := n0_; have BK611 := n1_; have BK612 := n2_; have HB := n3_; clear n0_ n1_ n2_ n3_; (try clear hb); (try clear hb2); (try clear hk); (try clear hi); (try clear ho0); have hcz12_0 : w11.cell? ⟨gb612, 0, none⟩ = some (.int .i64 0) := (zal BK612.out 0).trans rfl; have hcz12_1 : w11.cell? ⟨gb612, 1, none⟩ = some (.int .i64 0) := (zal BK612.out 1).trans rfl; have hcz12_2 : w11.cell? ⟨gb612, 2, none⟩ = some (.string (⟨#[]⟩ : ByteArray)) := (zal BK612.out 2).trans rfl; have hcz12_3 : w11.cell? ⟨gb612, 3, none⟩ = some (.int .i64 0) := (zal BK612.out 3).trans rfl; have hcz12_4 : w11.cell? ⟨gb612, 4, none⟩ = some (.string (⟨#[]⟩ : ByteArray)) := (zal BK612.out 4).trans rfl; have hcz12_5 : w11.cell? ⟨gb612, 5, none⟩ = some (.slice none 0 0) := (zal BK612.out 5).trans rfl; have hfz12_0 := zam BK612.out 0; have hfz12_1 := zam BK612.out 1; have hfz12_2 := zam BK612.out 2; have hfz12_3 := zam BK612.out 3; have hfz12_4 := zam BK612.out 4; have hfz12_5 := zam BK612.out 5; obtain ⟨Ao13, co13, eo13⟩ := Kd.zbr HO621.out; subst eo13))
  refine bodyPost_ret (results_cell_row rfl _ _ gb612 33 #[.int .i64 t614, .int .i64 t615, .string t616, .int .i64 t617, .string t618, .slice Ao13 t619.length co13] (0, 0) _ rfl (by (with_reducible repeat (first | refine zai ?_ _ | refine zak ?_ | refine zah ?_ _)); refine zaG (cs := #[.int .i64 t614, .int .i64 t615, .string t616, .int .i64 t617, .string t618, .slice none 0 0]) ?_ 5 _ rfl; (with_reducible repeat (first | refine zai ?_ _ | refine zak ?_ | refine zah ?_ _)); refine zaG (cs := #[.int .i64 t614, .int .i64 t615, .string t616, .int .i64 t617, .string (⟨#[]⟩ : ByteArray), .slice none 0 0]) ?_ 4 _ rfl; (with_reducible repeat (first | refine zai ?_ _ | refine zak ?_ | refine zah ?_ _)); refine zaG (cs := #[.int .i64 t614, .int .i64 t615, .string t616, .int .i64 0, .string (⟨#[]⟩ : ByteArray), .slice none 0 0]) ?_ 3 _ rfl; (with_reducible repeat (first | refine zai ?_ _ | refine zak ?_ | refine zah ?_ _)); refine zaG (cs := #[.int .i64 t614, .int .i64 t615, .string (⟨#[]⟩ : ByteArray), .int .i64 0, .string (⟨#[]⟩ : ByteArray), .slice none 0 0]) ?_ 2 _ rfl; (with_reducible repeat (first | refine zai ?_ _ | refine zak ?_ | refine zah ?_ _)); refine zaG (cs := #[.int .i64 t614, .int .i64 0, .string (⟨#[]⟩ : ByteArray), .int .i64 0, .string (⟨#[]⟩ : ByteArray), .slice none 0 0]) ?_ 1 _ rfl; (with_reducible repeat (first | refine zai ?_ _ | refine zak ?_ | refine zah ?_ _)); refine zaG (cs := #[.int .i64 0, .int .i64 0, .string (⟨#[]⟩ : ByteArray), .int .i64 0, .string (⟨#[]⟩ : ByteArray), .slice none 0 0]) ?_ 0 _ rfl; (with_reducible repeat (first | refine zai ?_ _ | refine zak ?_ | refine zah ?_ _)); exact BK612.out) Tryd.underlying33 rfl (by kernel_rfl)) rfl ?_
  exact ⟨_, by first | rfl | (simp [zar, zas] <;> rfl) | (simp [*, zar, zas] <;> rfl), by (with_reducible repeat (first | apply Kd.R_alloc | apply Kd.zat | apply Kd.zaw)); exact Kd.za7 (Kd.za0 (p := ⟨gb612, 5, none⟩) (Kd.za0 (p := ⟨gb612, 4, none⟩) (Kd.za0 (p := ⟨gb612, 3, none⟩) (Kd.za0 (p := ⟨gb612, 2, none⟩) (Kd.za0 (p := ⟨gb612, 1, none⟩) (Kd.za0 (p := ⟨gb612, 0, none⟩) (Kd.zbF HO621.out BK612.out (by decide)) (fun _ hk => hk.2) (.int .i64 t614)) (fun _ hk => hk.2) (.int .i64 t615)) (fun _ hk => hk.2) (.string t616)) (fun _ hk => hk.2) (.int .i64 t617)) (fun _ hk => hk.2) (.string t618)) (fun _ hk => hk.2) (.slice Ao13 t619.length co13)) (fun _ hk => trivial), by repeat (first | (with_reducible first | exact HB.out | apply zad | apply zaa | apply zac | refine zae ?_ GE611.out | refine zae ?_ GE612.out) | exact HB.out)⟩
 rw [if_neg c3] at H
 have c3b0 : (t613 == 0) = false := beq_eq_false_iff_ne.mpr c3
 have c3b1 : (t613 != 0) = true := bne_iff_ne.mpr c3
 simp only [Option.some.injEq, Prod.mk.injEq] at H
 obtain ⟨rfl, rfl, rfl, rfl, rfl, rfl⟩ := H
 go_enter Tryd.func11, Tryd.ntmps11
 go_wp2_with (first | ((with_reducible refine zbb (N := 1) rfl ?_); refine zbs ?hg (N := 1) ?hd (cs := #[.int .i64 a0_0, .string a0_1, .int .i64 a0_2]) (t := 30) ?hr ?_; (case hd => rfl); (case hg => rfl); (case hr => first | (go_simp; done) | (go_simp; rfl)); intro gb611 hg w14 hbox hb; have n0_ := zab.mk (zau HB.out hb); have n1_ := zab.mk (hbox); have n2_ := zab.mk ((by rw [hg]; exact (zav HB.out) : w.heap.size ≤ gb611)); have n3_ := zab.mk ((by rw [hg]; exact (zav HB.out) : w.heap.size ≤ gb611)); clear HB; have HB := n0_; have BK611 := n1_; have GW611 := n2_; have GE611 := n3_; clear n0_ n1_ n2_ n3_ hb hbox hg) | ((with_reducible refine zbb (N := 2) rfl ?_); refine zbs ?hg (N := 2) ?hd (cs := #[.int .i64 0, .int .i64 0, .string (⟨#[]⟩ : ByteArray), .int .i64 0, .string (⟨#[]⟩ : ByteArray), .slice none 0 0]) (t := 33) ?hr ?_; (case hd => rfl); (case hg => rfl); (case hr => first | (go_simp; done) | (go_simp; rfl)); intro gb612 hg w15 hbox hb; have n0_ := zab.mk (zaL (g := gb611) (o := .cells #[.int .i64 a0_0, .string a0_1, .int .i64 a0_2] 30 (0, 0)) BK611.out hb); have n1_ := zab.mk (zau HB.out hb); have n2_ := zab.mk (hbox); have n3_ := zab.mk ((by rw [hg]; exact (zav HB.out) : w.heap.size ≤ gb612)); have n4_ := zab.mk ((by rw [hg]; exact (zav HB.out) : w.heap.size ≤ gb612)); have n5_ := zab.mk ((by rw [hg]; exact Nat.ne_of_lt (blk_lt (g := gb611) (o := .cells #[.int .i64 a0_0, .string a0_1, .int .i64 a0_2] 30 (0, 0)) BK611.out) : gb611 ≠ gb612)); have n6_ := zab.mk ((by rw [hg]; exact Nat.ne_of_gt (blk_lt (g := gb611) (o := .cells #[.int .i64 a0_0, .string a0_1, .int .i64 a0_2] 30 (0, 0)) BK611.out) : gb612 ≠ gb611)); clear BK611 HB; have BK611 := n0_; have HB := n1_; have BK612 := n2_; have GW612 := n3_; have GE612 := n4_; have NB611_612 := n5_; have NB612_611 := n6_; clear n0_ n1_ n2_ n3_ n4_ n5_ n6_ hb hbox hg; have hnb16 := NB611_612.out; have hnc16 := NB612_611.out; have hcz17_0 : w15.cell? ⟨gb611, 0, none⟩ = some (.int .i64 a0_0) := (zal BK611.out 0).trans rfl; have hcz17_1 : w15.cell? ⟨gb611, 1, none⟩ = some (.string a0_1) := (zal BK611.out 1).trans rfl; have hcz17_2 : w15.cell? ⟨gb611, 2, none⟩ = some (.int .i64 a0_2) := (zal BK611.out 2).trans rfl; have hfz17_0 := zam BK611.out 0; have hfz17_1 := zam BK611.out 1; have hfz17_2 := zam BK611.out 2) | ((with_reducible refine zan (f := 10) rfl ?_); refine zaN (some 4) rfl rfl Tryd.func10 (by kernel_rfl) rfl #[.agg #[.int .i64 a0_0, .string a0_1, .int .i64 a0_2]] rfl (by (try simp only [List.map_toArray, List.map_cons, List.map_nil]); first | done | rfl | (simp only [List.length_drop, List.length_take]; rfl)) ?_; (with_reducible refine (zaI.calls k a0_0 a0_1 a0_2 t613 _ ?side1 A2.out).mono ?_); (case side1 => exact GT_below HG.out HB.out); rintro e w18 ⟨rfl, hb⟩; refine ⟨_, rfl, ?_⟩; have n0_ := zab.mk (zaL (g := gb611) (o := .cells #[.int .i64 a0_0, .string a0_1, .int .i64 a0_2] 30 (0, 0)) BK611.out hb); have n1_ := zab.mk (zaL (g := gb612) (o := .cells #[.int .i64 0, .int .i64 0, .string (⟨#[]⟩ : ByteArray), .int .i64 0, .string (⟨#[]⟩ : ByteArray), .slice none 0 0] 33 (0, 0)) BK612.out hb); have n2_ := zab.mk (zau HB.out hb); clear BK611 BK612 HB; have BK611 := n0_; have BK612 := n1_; have HB := n2_; clear n0_ n1_ n2_; (try clear hb); (try clear hb2); (try clear hk); (try clear hi); have hcz19_0 : w18.cell? ⟨gb612, 0, none⟩ = some (.int .i64 0) := (zal BK612.out 0).trans rfl; have hcz19_1 : w18.cell? ⟨gb612, 1, none⟩ = some (.int .i64 0) := (zal BK612.out 1).trans rfl; have hcz19_2 : w18.cell? ⟨gb612, 2, none⟩ = some (.string (⟨#[]⟩ : ByteArray)) := (zal BK612.out 2).trans rfl; have hcz19_3 : w18.cell? ⟨gb612, 3, none⟩ = some (.int .i64 0) := (zal BK612.out 3).trans rfl; have hcz19_4 : w18.cell? ⟨gb612, 4, none⟩ = some (.string (⟨#[]⟩ : ByteArray)) := (zal BK612.out 4).trans rfl; have hcz19_5 : w18.cell? ⟨gb612, 5, none⟩ = some (.slice none 0 0) := (zal BK612.out 5).trans rfl; have hfz19_0 := zam BK612.out 0; have hfz19_1 := zam BK612.out 1; have hfz19_2 := zam BK612.out 2; have hfz19_3 := zam BK612.out 3; have hfz19_4 := zam BK612.out 4; have hfz19_5 := zam BK612.out 5))
 refine bodyPost_ret (results_cell_row rfl _ _ gb612 33 #[.int .i64 1, .int .i64 0, .string (⟨#[]⟩ : ByteArray), .int .i64 0, .string (⟨#[]⟩ : ByteArray), .slice none 0 0] (0, 0) _ rfl (by (with_reducible repeat (first | refine zai ?_ _ | refine zak ?_ | refine zah ?_ _)); refine zaG (cs := #[.int .i64 1, .int .i64 0, .string (⟨#[]⟩ : ByteArray), .int .i64 0, .string (⟨#[]⟩ : ByteArray), .slice none 0 0]) ?_ 5 _ rfl; (with_reducible repeat (first | refine zai ?_ _ | refine zak ?_ | refine zah ?_ _)); refine zaG (cs := #[.int .i64 1, .int .i64 0, .string (⟨#[]⟩ : ByteArray), .int .i64 0, .string (⟨#[]⟩ : ByteArray), .slice none 0 0]) ?_ 4 _ rfl; (with_reducible repeat (first | refine zai ?_ _ | refine zak ?_ | refine zah ?_ _)); refine zaG (cs := #[.int .i64 1, .int .i64 0, .string (⟨#[]⟩ : ByteArray), .int .i64 0, .string (⟨#[]⟩ : ByteArray), .slice none 0 0]) ?_ 3 _ rfl; (with_reducible repeat (first | refine zai ?_ _ | refine zak ?_ | refine zah ?_ _)); refine zaG (cs := #[.int .i64 1, .int .i64 0, .string (⟨#[]⟩ : ByteArray), .int .i64 0, .string (⟨#[]⟩ : ByteArray), .slice none 0 0]) ?_ 2 _ rfl; (with_reducible repeat (first | refine zai ?_ _ | refine zak ?_ | refine zah ?_ _)); refine zaG (cs := #[.int .i64 1, .int .i64 0, .string (⟨#[]⟩ : ByteArray), .int .i64 0, .string (⟨#[]⟩ : ByteArray), .slice none 0 0]) ?_ 1 _ rfl; (with_reducible repeat (first | refine zai ?_ _ | refine zak ?_ | refine zah ?_ _)); refine zaG (cs := #[.int .i64 0, .int .i64 0, .string (⟨#[]⟩ : ByteArray), .int .i64 0, .string (⟨#[]⟩ : ByteArray), .slice none 0 0]) ?_ 0 _ rfl; (with_reducible repeat (first | refine zai ?_ _ | refine zak ?_ | refine zah ?_ _)); exact BK612.out) Tryd.underlying33 rfl (by kernel_rfl)) rfl ?_
 exact ⟨_, by first | rfl | (simp [zar, zas] <;> rfl) | (simp [*, zar, zas] <;> rfl), by first | exact Kd.R_nil _ _ _ _ _ | exact Kd.N_nil _ _ _ _ _ | exact Kd.V_nil _ _ _ _ _ | exact Kd.Q_nil _ _ _ _ _ | exact Kd.S_nil _ _ _ _ _, by repeat (first | (with_reducible first | exact HB.out | apply zad | apply zaa | apply zac | refine zae ?_ GE611.out | refine zae ?_ GE612.out) | exact HB.out)⟩
end Go.Proofs.YtfafjbolmeimmaaDoor.P
