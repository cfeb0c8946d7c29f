/- Written by a program of this session: plain Lean functions for Go functions, and for each the proof that the call comes to what the function says. -/
import Derived.Test.YtbppeepihlajoaaDoorB0
import Derived.Test.YtbppeepihlajoaaDoorB12
import Derived.Test.YtbppeepihlajoaaDoorB16
import Derived.Test.YtbppeepihlajoaaDoorB5
import Derived.Test.YtbppeepihlajoaaDoorB7
import Derived.Test.YtbppeepihlajoaaDoorXDec
namespace Go.Proofs.YtbppeepihlajoaaDoor.P
open Go.RowKit Go.Proofs.YtbppeepihlajoaaDoorW.PrintWords Go.Proofs.YtbppeepihlajoaaDoorW.PrintLast Go.Proofs.YtbppeepihlajoaaDoorW.PrintMore
attribute [local go_sem] max2_int min2_int max_two min_two max_three min_three max_four min_four
set_option linter.unusedVariables false
set_option linter.unusedSimpArgs false
def zaL.j0 : Nat → ByteArray → Bool → Option (Int × Int × ByteArray)
 | 0, _, _ => none
 | k + 1, x0, x11 => if x11 = true then (some (2, 0, (⟨#[]⟩ : ByteArray))) else ((impl_decodeLabel.f k x0).bind fun bt558 => (if bt558.2 = true then (some (0, 0, bt558.1)) else (some (3, 0, (⟨#[]⟩ : ByteArray)))))
def zaL.f (k : Nat) (a0 : ByteArray) : Option (Int × Int × ByteArray) := (zaV.f a0).bind fun t557 => (if t557 = true then (zaL.j0 k a0 true) else (zaL.j0 k a0 (decide ((a0.size : Int) > 1000))))
set_option maxHeartbeats 8000000 in
set_option maxRecDepth 100000 in
theorem zaL.calls (k : Nat) (a0 : ByteArray) (r1 : Int) (r2 : Int) (r3 : ByteArray) (w : World) (hG : GT w) (h : zaL.f k a0 = some (r1, r2, r3)) :
  Calls Tryd.prog 14 #[.string a0] w fun e w' => e = .returned (.agg #[.int .i64 r1, .int .i64 r2, .string r3]) ∧ Below w.heap.size w w' := by
 have hu26 := Tryd.underlying26
 have HG := zac.mk hG; clear hG
 have HB := zac.mk (Below.refl w.heap.size w)
 have H : ((zaV.f a0).bind fun t557 => (if t557 = true then (zaL.j0 k a0 true) else (zaL.j0 k a0 (decide ((a0.size : Int) > 1000))))) = some (r1, r2, r3) := h
 clear h; have HC2 := zac.mk H; clear H
 go_enter Tryd.func14, Tryd.ntmps14
 go_upto_region 1 with (first | ((with_reducible refine zaW (N := 2) rfl ?_); (try (refine gate_guard (by rfl) ?_; dsimp only)); refine box_event ?hg (N := 2) ?hd (cs := #[.int .i64 0, .int .i64 0, .string (⟨#[]⟩ : ByteArray)]) (t := 26) ?hr ?_; (case hd => rfl); (case hg => rfl); (case hr => first | (go_simp; done) | (go_simp; rfl)); intro gb556 hg w3 hbox hb; have n0_ := zac.mk (zaw (by repeat (first | (with_reducible first | exact HB.out | apply zae | apply zaa | apply zad) | exact HB.out)) hb); have n1_ := zac.mk (hbox); have n2_ := zac.mk ((by rw [hg]; exact (zaJ (by repeat (first | (with_reducible first | exact HB.out | apply zae | apply zaa | apply zad) | exact HB.out))) : w.heap.size ≤ gb556)); have n3_ := zac.mk ((by rw [hg]; exact (zaJ (by repeat (first | (with_reducible first | exact HB.out | apply zae | apply zaa | apply zad) | exact HB.out))) : w.heap.size ≤ gb556)); clear HB; have HB := n0_; have BK556 := n1_; have GW556 := n2_; have GE556 := n3_; clear n0_ n1_ n2_ n3_ hb hbox hg))
 (try simp only [Act.put, List.setIfInBounds_toArray, List.set_cons_zero, List.set_cons_succ])
 go_cut [11] (fun v11 wc => ∃ (kq : Nat) (x11_1 : Bool), v11 = .bool x11_1 ∧ zac (zaL.j0 kq a0 x11_1 = some (r1, r2, r3)) ∧ zac (kq ≤ k) ∧ zac (wc.heap[gb556]? = some (.cells #[.int .i64 0, .int .i64 0, .string (⟨#[]⟩ : ByteArray)] 26 (0, 0))) ∧ zac (Below w.heap.size w wc))
 case first =>
  have H := HC2.out; clear HC2; replace H := Option.bind_eq_some_iff.mp H
  obtain ⟨t557, A40, H⟩ := H
  replace H : (if t557 = true then (zaL.j0 k a0 true) else (zaL.j0 k a0 (decide ((a0.size : Int) > 1000)))) = some (r1, r2, r3) := H
  have A4 := zac.mk A40; clear A40
  by_cases c5 : t557 = true
  ·subst c5
   replace H : (zaL.j0 k a0 true) = some (r1, r2, r3) := by rw [if_pos rfl] at H; exact H
   have H' := zac.mk H; clear H
   go_wp2_with (first | ((with_reducible refine zak (f := 48) rfl ?_); refine zaG (some 6) rfl rfl Tryd.func48 (by kernel_rfl) rfl #[.string a0] rfl (by (try simp only [List.map_toArray, List.map_cons, List.map_nil]); first | done | rfl | (simp only [List.length_drop, List.length_take]; rfl)) ?_; (with_reducible refine (zaV.calls a0 true _ A4.out).mono ?_); rintro e w' ⟨rfl, ⟨nd, rfl⟩⟩; refine ⟨_, rfl, ?_⟩))
   go_meet
   case rel => exact ⟨_, (true), (by first | rfl | (simp; done) | (simp [*]; done)), H', ⟨by first | omega | exact Nat.le_refl _⟩, ⟨by (with_reducible repeat (first | refine zaT ?_ _ | refine zaN ?_ | refine blk_alloc ?_ _)); exact BK556.out⟩, ⟨by repeat (first | (with_reducible first | exact HB.out | apply zae | apply zaa | apply zad | refine zai ?_ GE556.out) | exact HB.out)⟩⟩
  replace c5 := Bool.eq_false_iff.mpr c5
  subst c5
  replace H : (zaL.j0 k a0 (decide ((a0.size : Int) > 1000))) = some (r1, r2, r3) := by rw [if_neg (show ¬ (false = true) by decide)] at H; exact H
  have H' := zac.mk H; clear H
  go_wp2_with (first | ((with_reducible refine zak (f := 48) rfl ?_); refine zaG (some 6) rfl rfl Tryd.func48 (by kernel_rfl) rfl #[.string a0] rfl (by (try simp only [List.map_toArray, List.map_cons, List.map_nil]); first | done | rfl | (simp only [List.length_drop, List.length_take]; rfl)) ?_; (with_reducible refine (zaV.calls a0 false _ A4.out).mono ?_); rintro e w' ⟨rfl, ⟨nd, rfl⟩⟩; refine ⟨_, rfl, ?_⟩))
  go_meet
  case rel => exact ⟨_, (decide ((a0.size : Int) > 1000)), (by first | rfl | (simp; done) | (simp [*]; done)), H', ⟨by first | omega | exact Nat.le_refl _⟩, ⟨by (with_reducible repeat (first | refine zaT ?_ _ | refine zaN ?_ | refine blk_alloc ?_ _)); exact BK556.out⟩, ⟨by repeat (first | (with_reducible first | exact HB.out | apply zae | apply zaa | apply zad | refine zai ?_ GE556.out) | exact HB.out)⟩⟩
 case rest =>
  clear HC2
  obtain ⟨kq, x11_1, rfl, HA, HJ1, BK556, HB⟩ := hcut
  cases kq with
  | zero => exact absurd HA.out (by simp [zaL.j0])
  | succ kj1 =>
   have H := HA.out; clear HA
   simp only [zaL.j0] at H
   by_cases c6 : x11_1 = true
   ·subst c6
    replace H : (some (2, 0, (⟨#[]⟩ : ByteArray))) = some (r1, r2, r3) := by rw [if_pos rfl] at H; exact H
    simp only [Option.some.injEq, Prod.mk.injEq] at H
    obtain ⟨rfl, rfl, rfl⟩ := H
    have hcz7_0 : wc.cell? ⟨gb556, 0, none⟩ = some (.int .i64 0) := (zaO BK556.out 0).trans rfl
    have hcz7_1 : wc.cell? ⟨gb556, 1, none⟩ = some (.int .i64 0) := (zaO BK556.out 1).trans rfl
    have hcz7_2 : wc.cell? ⟨gb556, 2, none⟩ = some (.string (⟨#[]⟩ : ByteArray)) := (zaO BK556.out 2).trans rfl
    have hfz7_0 := zaA BK556.out 0
    have hfz7_1 := zaA BK556.out 1
    have hfz7_2 := zaA BK556.out 2
    go_wp2
    refine bodyPost_ret (results_cell_row rfl _ _ gb556 26 #[.int .i64 2, .int .i64 0, .string (⟨#[]⟩ : ByteArray)] (0, 0) _ rfl (by (with_reducible repeat (first | refine zaT ?_ _ | refine zaN ?_ | refine blk_alloc ?_ _)); refine blk_put (cs := #[.int .i64 2, .int .i64 0, .string (⟨#[]⟩ : ByteArray)]) ?_ 2 _ rfl; (with_reducible repeat (first | refine zaT ?_ _ | refine zaN ?_ | refine blk_alloc ?_ _)); refine blk_put (cs := #[.int .i64 2, .int .i64 0, .string (⟨#[]⟩ : ByteArray)]) ?_ 1 _ rfl; (with_reducible repeat (first | refine zaT ?_ _ | refine zaN ?_ | refine blk_alloc ?_ _)); refine blk_put (cs := #[.int .i64 0, .int .i64 0, .string (⟨#[]⟩ : ByteArray)]) ?_ 0 _ rfl; (with_reducible repeat (first | refine zaT ?_ _ | refine zaN ?_ | refine blk_alloc ?_ _)); exact BK556.out) Tryd.underlying26 rfl (by kernel_rfl)) rfl ?_
    exact ⟨by first | rfl | (simp [zan, zam] <;> rfl) | (simp [*, zan, zam] <;> rfl), by repeat (first | (with_reducible first | exact HB.out | apply zae | apply zaa | apply zad | refine zai ?_ GE556.out) | exact HB.out)⟩
   replace c6 := Bool.eq_false_iff.mpr c6
   subst c6
   replace H : ((impl_decodeLabel.f kj1 a0).bind fun bt558 => (if bt558.2 = true then (some (0, 0, bt558.1)) else (some (3, 0, (⟨#[]⟩ : ByteArray))))) = some (r1, r2, r3) := by rw [if_neg (show ¬ (false = true) by decide)] at H; exact H
   replace H := Option.bind_eq_some_iff.mp H
   obtain ⟨⟨t558, t559⟩, A80, H⟩ := H
   replace H : (if t559 = true then (some (0, 0, t558)) else (some (3, 0, (⟨#[]⟩ : ByteArray)))) = some (r1, r2, r3) := H
   have A8 := zac.mk A80; clear A80
   by_cases c9 : t559 = true
   ·subst c9
    replace H : (some (0, 0, t558)) = some (r1, r2, r3) := by rw [if_pos rfl] at H; exact H
    simp only [Option.some.injEq, Prod.mk.injEq] at H
    obtain ⟨rfl, rfl, rfl⟩ := H
    go_wp2_with (first | ((with_reducible refine zak (f := 56) rfl ?_); refine zaG (some 15) rfl rfl Tryd.func56 (by kernel_rfl) rfl #[.string a0] rfl (by (try simp only [List.map_toArray, List.map_cons, List.map_nil]); first | done | rfl | (simp only [List.length_drop, List.length_take]; rfl)) ?_; (with_reducible refine (impl_decodeLabel.calls kj1 a0 t558 true _ ?side1 A8.out).mono ?_); (case side1 => exact GT_below HG.out (by repeat (first | (with_reducible first | exact HB.out | apply zae | apply zaa | apply zad | refine zai ?_ GE556.out) | exact HB.out))); rintro e w10 ⟨rfl, hb⟩; refine ⟨_, rfl, ?_⟩; have n0_ := zac.mk (blk_below (g := gb556) (o := .cells #[.int .i64 0, .int .i64 0, .string (⟨#[]⟩ : ByteArray)] 26 (0, 0)) (by (with_reducible repeat (first | refine zaT ?_ _ | refine zaN ?_ | refine blk_alloc ?_ _)); exact BK556.out) hb); have n1_ := zac.mk (zaw (by repeat (first | (with_reducible first | exact HB.out | apply zae | apply zaa | apply zad | refine zai ?_ GE556.out) | exact HB.out)) hb); clear BK556 HB; have BK556 := n0_; have HB := n1_; clear n0_ n1_; (try clear hb); (try clear hb2); (try clear hk); (try clear hi); have hcz11_0 : w10.cell? ⟨gb556, 0, none⟩ = some (.int .i64 0) := (zaO BK556.out 0).trans rfl; have hcz11_1 : w10.cell? ⟨gb556, 1, none⟩ = some (.int .i64 0) := (zaO BK556.out 1).trans rfl; have hcz11_2 : w10.cell? ⟨gb556, 2, none⟩ = some (.string (⟨#[]⟩ : ByteArray)) := (zaO BK556.out 2).trans rfl; have hfz11_0 := zaA BK556.out 0; have hfz11_1 := zaA BK556.out 1; have hfz11_2 := zaA BK556.out 2))
    refine bodyPost_ret (results_cell_row rfl _ _ gb556 26 #[.int .i64 0, .int .i64 0, .string t558] (0, 0) _ rfl (by (with_reducible repeat (first | refine zaT ?_ _ | refine zaN ?_ | refine blk_alloc ?_ _)); refine blk_put (cs := #[.int .i64 0, .int .i64 0, .string (⟨#[]⟩ : ByteArray)]) ?_ 2 _ rfl; (with_reducible repeat (first | refine zaT ?_ _ | refine zaN ?_ | refine blk_alloc ?_ _)); refine blk_put (cs := #[.int .i64 0, .int .i64 0, .string (⟨#[]⟩ : ByteArray)]) ?_ 1 _ rfl; (with_reducible repeat (first | refine zaT ?_ _ | refine zaN ?_ | refine blk_alloc ?_ _)); refine blk_put (cs := #[.int .i64 0, .int .i64 0, .string (⟨#[]⟩ : ByteArray)]) ?_ 0 _ rfl; (with_reducible repeat (first | refine zaT ?_ _ | refine zaN ?_ | refine blk_alloc ?_ _)); exact BK556.out) Tryd.underlying26 rfl (by kernel_rfl)) rfl ?_
    exact ⟨by first | rfl | (simp [zan, zam] <;> rfl) | (simp [*, zan, zam] <;> rfl), by repeat (first | (with_reducible first | exact HB.out | apply zae | apply zaa | apply zad | refine zai ?_ GE556.out) | exact HB.out)⟩
   replace c9 := Bool.eq_false_iff.mpr c9
   subst c9
   replace H : (some (3, 0, (⟨#[]⟩ : ByteArray))) = some (r1, r2, r3) := by rw [if_neg (show ¬ (false = true) by decide)] at H; exact H
   simp only [Option.some.injEq, Prod.mk.injEq] at H
   obtain ⟨rfl, rfl, rfl⟩ := H
   go_wp2_with (first | ((with_reducible refine zak (f := 56) rfl ?_); refine zaG (some 15) rfl rfl Tryd.func56 (by kernel_rfl) rfl #[.string a0] rfl (by (try simp only [List.map_toArray, List.map_cons, List.map_nil]); first | done | rfl | (simp only [List.length_drop, List.length_take]; rfl)) ?_; (with_reducible refine (impl_decodeLabel.calls kj1 a0 t558 false _ ?side1 A8.out).mono ?_); (case side1 => exact GT_below HG.out (by repeat (first | (with_reducible first | exact HB.out | apply zae | apply zaa | apply zad | refine zai ?_ GE556.out) | exact HB.out))); rintro e w12 ⟨rfl, hb⟩; refine ⟨_, rfl, ?_⟩; have n0_ := zac.mk (blk_below (g := gb556) (o := .cells #[.int .i64 0, .int .i64 0, .string (⟨#[]⟩ : ByteArray)] 26 (0, 0)) (by (with_reducible repeat (first | refine zaT ?_ _ | refine zaN ?_ | refine blk_alloc ?_ _)); exact BK556.out) hb); have n1_ := zac.mk (zaw (by repeat (first | (with_reducible first | exact HB.out | apply zae | apply zaa | apply zad | refine zai ?_ GE556.out) | exact HB.out)) hb); clear BK556 HB; have BK556 := n0_; have HB := n1_; clear n0_ n1_; (try clear hb); (try clear hb2); (try clear hk); (try clear hi); have hcz13_0 : w12.cell? ⟨gb556, 0, none⟩ = some (.int .i64 0) := (zaO BK556.out 0).trans rfl; have hcz13_1 : w12.cell? ⟨gb556, 1, none⟩ = some (.int .i64 0) := (zaO BK556.out 1).trans rfl; have hcz13_2 : w12.cell? ⟨gb556, 2, none⟩ = some (.string (⟨#[]⟩ : ByteArray)) := (zaO BK556.out 2).trans rfl; have hfz13_0 := zaA BK556.out 0; have hfz13_1 := zaA BK556.out 1; have hfz13_2 := zaA BK556.out 2))
   refine bodyPost_ret (results_cell_row rfl _ _ gb556 26 #[.int .i64 3, .int .i64 0, .string (⟨#[]⟩ : ByteArray)] (0, 0) _ rfl (by (with_reducible repeat (first | refine zaT ?_ _ | refine zaN ?_ | refine blk_alloc ?_ _)); refine blk_put (cs := #[.int .i64 3, .int .i64 0, .string (⟨#[]⟩ : ByteArray)]) ?_ 2 _ rfl; (with_reducible repeat (first | refine zaT ?_ _ | refine zaN ?_ | refine blk_alloc ?_ _)); refine blk_put (cs := #[.int .i64 3, .int .i64 0, .string (⟨#[]⟩ : ByteArray)]) ?_ 1 _ rfl; (with_reducible repeat (first | refine zaT ?_ _ | refine zaN ?_ | refine blk_alloc ?_ _)); refine blk_put (cs := #[.int .i64 0, .int .i64 0, .string (⟨#[]⟩ : ByteArray)]) ?_ 0 _ rfl; (with_reducible repeat (first | refine zaT ?_ _ | refine zaN ?_ | refine blk_alloc ?_ _)); exact BK556.out) Tryd.underlying26 rfl (by kernel_rfl)) rfl ?_
   exact ⟨by first | rfl | (simp [zan, zam] <;> rfl) | (simp [*, zan, zam] <;> rfl), by repeat (first | (with_reducible first | exact HB.out | apply zae | apply zaa | apply zad | refine zai ?_ GE556.out) | exact HB.out)⟩
def zaU.l0 : Nat → ByteArray → ByteArray → Int → Option (Bool)
 | 0, _, _, _ => none
 | k + 1, x3, x4, x5 => if x5 < (x4.size : Int) then (if 0 ≤ x5 then (if (bt x4 x5) ≥ 128 then (some false) else (zaU.l0 k x3 x4 (wrap64 (x5 + 1)))) else (none)) else (if x4.toList = ([] : List UInt8) then (some true) else (if (x4.size : Int) > 1000 then (some true) else ((zaL.f k x4).bind fun bt563 => (if bt563.1 = 0 then (some (bt563.2.2.toList == x3.toList)) else (some false)))))
def zaU.f (k : Nat) (l0 : List Int) : Option (Bool) := if (l0.length : Int) > 1048576 then (some true) else ((zaZ.f k l0).bind fun t560 => ((zar.f k t560).bind fun t561 => ((zaE.f k t560).bind fun t562 => (if t561.toList = t562.toList then (zaU.l0 k t560 t561 0) else (some false)))))
set_option maxHeartbeats 8000000 in
set_option maxRecDepth 100000 in
theorem zaU.calls (k : Nat) (A0 : Option Addr) (c0 : Nat) (l0 : List Int) (r : Bool) (w : World) (hr0 : Kd.C (Kd.int .u8) w A0 l0.length l0) (hc0 : l0.length ≤ c0) (hG : GT w) (h : zaU.f k l0 = some r) :
  Calls Tryd.prog 3 #[.slice A0 l0.length c0] w fun e w' => e = .returned (.bool r) ∧ Below w.heap.size w w' := by
 have hu26 := Tryd.underlying26
 have HR0 := zac.mk hr0; have HC0 := zac.mk hc0; clear hr0 hc0; have HG := zac.mk hG; clear hG
 have HB := zac.mk (Below.refl w.heap.size w)
 have H : (if (l0.length : Int) > 1048576 then (some true) else ((zaZ.f k l0).bind fun t560 => ((zar.f k t560).bind fun t561 => ((zaE.f k t560).bind fun t562 => (if t561.toList = t562.toList then (zaU.l0 k t560 t561 0) else (some false)))))) = some r := h
 clear h
 by_cases c2 : (l0.length : Int) > 1048576
 ·rw [if_pos c2] at H
  have c2b0 : decide (1048576 < (l0.length : Int)) = true := decide_eq_true c2
  have c2b1 : decide (1048576 < l0.length) = true := decide_eq_true (by omega)
  clear c2; obtain rfl := Option.some.inj H
  go_enter Tryd.func3, Tryd.ntmps3
  go_wp2
  go_ret
  exact ⟨by first | rfl | (simp [zan, zam] <;> rfl) | (simp [*, zan, zam] <;> rfl), by repeat (first | (with_reducible first | exact HB.out | apply zae | apply zaa | apply zad) | exact HB.out)⟩
 rw [if_neg c2] at H
 have c2b0 : decide (1048576 < (l0.length : Int)) = false := decide_eq_false c2
 have c2b1 : decide (1048576 < l0.length) = false := decide_eq_false (by omega)
 clear c2; replace H := Option.bind_eq_some_iff.mp H
 obtain ⟨t560, A30, H⟩ := H
 replace H : ((zar.f k t560).bind fun t561 => ((zaE.f k t560).bind fun t562 => (if t561.toList = t562.toList then (zaU.l0 k t560 t561 0) else (some false)))) = some r := H
 have A3 := zac.mk A30; clear A30; replace H := Option.bind_eq_some_iff.mp H
 obtain ⟨t561, A40, H⟩ := H
 replace H : ((zaE.f k t560).bind fun t562 => (if t561.toList = t562.toList then (zaU.l0 k t560 t561 0) else (some false))) = some r := H
 have A4 := zac.mk A40; clear A40; replace H := Option.bind_eq_some_iff.mp H
 obtain ⟨t562, A50, H⟩ := H
 replace H : (if t561.toList = t562.toList then (zaU.l0 k t560 t561 0) else (some false)) = some r := H
 have A5 := zac.mk A50; clear A50
 by_cases c6 : t561.toList = t562.toList
 ·rw [if_pos c6] at H
  have c6b0 : (t561.toList == t562.toList) = true := beq_iff_eq.mpr c6
  have c6b1 : (t561.toList != t562.toList) = false := bne_eq_false_iff_eq.mpr c6
  clear c6; have H' := zac.mk H; clear H
  go_enter Tryd.func3, Tryd.ntmps3
  go_wp2_with (first | ((with_reducible refine zak (f := 11) rfl ?_); refine zaG (some 11) rfl rfl Tryd.func11 (by kernel_rfl) rfl #[.slice A0 l0.length c0] rfl (by (try simp only [List.map_toArray, List.map_cons, List.map_nil]); first | done | rfl | (simp only [List.length_drop, List.length_take]; rfl)) ?_; (with_reducible refine (zaZ.calls k _ _ l0 t560 _ ?side1 ?side2 A3.out).mono ?_); (case side1 => repeat (first | exact HR0.out | (with_reducible refine Kd.C_alloc ?_ _) | (with_reducible refine Kd.C_drewN ?_ _) | (with_reducible refine Kd.C_drew ?_))); (case side2 => exact HC0.out); rintro e w7 ⟨rfl, hb⟩; refine ⟨_, rfl, ?_⟩; have n0_ := zac.mk (zaw (by repeat (first | (with_reducible first | exact HB.out | apply zae | apply zaa | apply zad) | exact HB.out)) hb); clear HB; have HB := n0_; clear n0_; (try clear hb); (try clear hb2); (try clear hk); (try clear hi)) | ((with_reducible refine zak (f := 12) rfl ?_); refine zaG (some 13) rfl rfl Tryd.func12 (by kernel_rfl) rfl #[.string t560] rfl (by (try simp only [List.map_toArray, List.map_cons, List.map_nil]); first | done | rfl | (simp only [List.length_drop, List.length_take]; rfl)) ?_; (with_reducible refine (zar.calls k t560 t561 _ ?side1 A4.out).mono ?_); (case side1 => exact GT_below HG.out (by repeat (first | (with_reducible first | exact HB.out | apply zae | apply zaa | apply zad) | exact HB.out))); rintro e w8 ⟨rfl, hb⟩; refine ⟨_, rfl, ?_⟩; have n0_ := zac.mk (zaw (by repeat (first | (with_reducible first | exact HB.out | apply zae | apply zaa | apply zad) | exact HB.out)) hb); clear HB; have HB := n0_; clear n0_; (try clear hb); (try clear hb2); (try clear hk); (try clear hi)) | ((with_reducible refine zak (f := 13) rfl ?_); refine zaG (some 16) rfl rfl Tryd.func13 (by kernel_rfl) rfl #[.string t560] rfl (by (try simp only [List.map_toArray, List.map_cons, List.map_nil]); first | done | rfl | (simp only [List.length_drop, List.length_take]; rfl)) ?_; (with_reducible refine (zaE.calls k t560 t562 _ A5.out).mono ?_); rintro e w9 ⟨rfl, hb⟩; refine ⟨_, rfl, ?_⟩; have n0_ := zac.mk (zaw (by repeat (first | (with_reducible first | exact HB.out | apply zae | apply zaa | apply zad) | exact HB.out)) hb); clear HB; have HB := n0_; clear n0_; (try clear hb); (try clear hb2); (try clear hk); (try clear hi)))
  go_loopg [5] k (fun kq v5 w' => ∃ (x5_1 : Int), v5 = .int .i64 x5_1 ∧ zac (zaU.l0 kq t560 t561 x5_1 = some r) ∧ zac (kq ≤ k) ∧ zac (Below w.heap.size w w'))
  case atStart => exact ⟨(0), (by first | rfl | (simp; done) | (simp [*]; done)), H', ⟨Nat.le_refl _⟩, ⟨by repeat (first | (with_reducible first | exact HB.out | apply zae | apply zaa | apply zad) | exact HB.out)⟩⟩
  case round =>
   clear H'
   try clear c2b0
   try clear c2b1
   try clear c6b0
   try clear c6b1
   obtain ⟨x5_1, rfl, HA, HK1, HB⟩ := hrel
   cases gk with
   | zero => exact absurd HA.out (by simp [zaU.l0])
   | succ k1 =>
    have H := HA.out; clear HA
    simp only [zaU.l0] at H
    by_cases c10 : x5_1 < (t561.size : Int)
    ·rw [if_pos c10] at H
     have c10b0 : decide (x5_1 < (t561.size : Int)) = true := decide_eq_true c10
     clear c10
     by_cases c11 : 0 ≤ x5_1
     ·rw [if_pos c11] at H
      have c11b0 : decide (0 ≤ x5_1) = true := decide_eq_true c11
      clear c11
      by_cases c13 : (bt t561 x5_1) ≥ 128
      ·rw [if_pos c13] at H
       have c13b0 : decide (128 ≤ (bt t561 x5_1)) = true := decide_eq_true c13
       clear c13; obtain rfl := Option.some.inj H
       have p12 : 0 ≤ (x5_1 : Int) := of_decide_eq_true (by first | (with_reducible assumption) | assumption)
       have q12 : x5_1 < (t561.size : Int) := of_decide_eq_true (by first | (with_reducible assumption) | assumption)
       have hx12 := bt_at t561 x5_1
       replace p12 := eq_true p12
       replace q12 := eq_true q12
       go_wp2
       go_ret
       exact ⟨by first | rfl | (simp [zan, zam] <;> rfl) | (simp [*, zan, zam] <;> rfl), by repeat (first | (with_reducible first | exact HB.out | apply zae | apply zaa | apply zad) | exact HB.out)⟩
      rw [if_neg c13] at H
      have c13b0 : decide (128 ≤ (bt t561 x5_1)) = false := decide_eq_false c13
      clear c13; have H' := zac.mk H; clear H
      have p12 : 0 ≤ (x5_1 : Int) := of_decide_eq_true (by first | (with_reducible assumption) | assumption)
      have q12 : x5_1 < (t561.size : Int) := of_decide_eq_true (by first | (with_reducible assumption) | assumption)
      have hx12 := bt_at t561 x5_1
      replace p12 := eq_true p12
      replace q12 := eq_true q12
      go_wp2
      go_roundg k1
      case measure => have := HK1.out; omega
      case rel => exact ⟨(wrap64 (x5_1 + 1)), (by first | rfl | (simp; done) | (simp [*]; done)), H', ⟨by have := HK1.out; omega⟩, ⟨by repeat (first | (with_reducible first | exact HB.out | apply zae | apply zaa | apply zad) | exact HB.out)⟩⟩
     rw [if_neg c11] at H
     exact absurd H (by simp)
    rw [if_neg c10] at H
    have c10b0 : decide (x5_1 < (t561.size : Int)) = false := decide_eq_false c10
    clear c10
    by_cases c14 : t561.toList = ([] : List UInt8)
    ·rw [if_pos c14] at H
     have c14b0 : (t561.toList == ([] : List UInt8)) = true := beq_iff_eq.mpr c14
     have c14b1 : (t561.toList != ([] : List UInt8)) = false := bne_eq_false_iff_eq.mpr c14
     clear c14; obtain rfl := Option.some.inj H
     go_wp2
     go_ret
     exact ⟨by first | rfl | (simp [zan, zam] <;> rfl) | (simp [*, zan, zam] <;> rfl), by repeat (first | (with_reducible first | exact HB.out | apply zae | apply zaa | apply zad) | exact HB.out)⟩
    rw [if_neg c14] at H
    have c14b0 : (t561.toList == ([] : List UInt8)) = false := beq_eq_false_iff_ne.mpr c14
    have c14b1 : (t561.toList != ([] : List UInt8)) = true := bne_iff_ne.mpr c14
    by_cases c15 : (t561.size : Int) > 1000
    ·rw [if_pos c15] at H
     have c15b0 : decide (1000 < (t561.size : Int)) = true := decide_eq_true c15
     have c15b1 : decide (1000 < t561.size) = true := decide_eq_true (by omega)
     clear c15; obtain rfl := Option.some.inj H
     go_wp2
     go_ret
     exact ⟨by first | rfl | (simp [zan, zam] <;> rfl) | (simp [*, zan, zam] <;> rfl), by repeat (first | (with_reducible first | exact HB.out | apply zae | apply zaa | apply zad) | exact HB.out)⟩
    rw [if_neg c15] at H
    have c15b0 : decide (1000 < (t561.size : Int)) = false := decide_eq_false c15
    have c15b1 : decide (1000 < t561.size) = false := decide_eq_false (by omega)
    clear c15; replace H := Option.bind_eq_some_iff.mp H
    obtain ⟨⟨t563, t564, t565⟩, A160, H⟩ := H
    replace H : (if t563 = 0 then (some (t565.toList == t560.toList)) else (some false)) = some r := H
    have A16 := zac.mk A160; clear A160
    by_cases c17 : t563 = 0
    ·rw [if_pos c17] at H
     have c17b0 : (t563 == 0) = true := beq_iff_eq.mpr c17
     have c17b1 : (t563 != 0) = false := bne_eq_false_iff_eq.mpr c17
     clear c17; obtain rfl := Option.some.inj H
     go_wp2_with (first | ((with_reducible refine zak (f := 14) rfl ?_); refine zaG (some 36) rfl rfl Tryd.func14 (by kernel_rfl) rfl #[.string t561] rfl (by (try simp only [List.map_toArray, List.map_cons, List.map_nil]); first | done | rfl | (simp only [List.length_drop, List.length_take]; rfl)) ?_; (with_reducible refine (zaL.calls k1 t561 t563 t564 t565 _ ?side1 A16.out).mono ?_); (case side1 => exact GT_below HG.out (by repeat (first | (with_reducible first | exact HB.out | apply zae | apply zaa | apply zad) | exact HB.out))); rintro e w18 ⟨rfl, hb⟩; refine ⟨_, rfl, ?_⟩; have n0_ := zac.mk (zaw (by repeat (first | (with_reducible first | exact HB.out | apply zae | apply zaa | apply zad) | exact HB.out)) hb); clear HB; have HB := n0_; clear n0_; (try clear hb); (try clear hb2); (try clear hk); (try clear hi)) | ((with_reducible refine zaW (N := 6) rfl ?_); (try (refine gate_guard (by rfl) ?_; dsimp only)); refine box_event ?hg (N := 6) ?hd (cs := #[.int .i64 0, .int .i64 0, .string (⟨#[]⟩ : ByteArray)]) (t := 26) ?hr ?_; (case hd => rfl); (case hg => rfl); (case hr => first | (go_simp; done) | (go_simp; rfl)); intro gb566 hg w19 hbox hb; have n0_ := zac.mk (zaw (by repeat (first | (with_reducible first | exact HB.out | apply zae | apply zaa | apply zad) | exact HB.out)) hb); have n1_ := zac.mk (hbox); have n2_ := zac.mk ((by rw [hg]; exact (zaJ (by repeat (first | (with_reducible first | exact HB.out | apply zae | apply zaa | apply zad) | exact HB.out))) : w.heap.size ≤ gb566)); have n3_ := zac.mk ((by rw [hg]; exact (zaJ (by repeat (first | (with_reducible first | exact HB.out | apply zae | apply zaa | apply zad) | exact HB.out))) : w.heap.size ≤ gb566)); clear HB; have HB := n0_; have BK566 := n1_; have GW566 := n2_; have GE566 := n3_; clear n0_ n1_ n2_ n3_ hb hbox hg; have hcz20_0 : w19.cell? ⟨gb566, 0, none⟩ = some (.int .i64 0) := (zaO BK566.out 0).trans rfl; have hcz20_1 : w19.cell? ⟨gb566, 1, none⟩ = some (.int .i64 0) := (zaO BK566.out 1).trans rfl; have hcz20_2 : w19.cell? ⟨gb566, 2, none⟩ = some (.string (⟨#[]⟩ : ByteArray)) := (zaO BK566.out 2).trans rfl; have hfz20_0 := zaA BK566.out 0; have hfz20_1 := zaA BK566.out 1; have hfz20_2 := zaA BK566.out 2))
     go_ret
     exact ⟨by first | rfl | (simp [zan, zam] <;> rfl) | (simp [*, zan, zam] <;> rfl), by repeat (first | (with_reducible first | exact HB.out | apply zae | apply zaa | apply zad | refine zai ?_ GE566.out) | exact HB.out)⟩
    rw [if_neg c17] at H
    have c17b0 : (t563 == 0) = false := beq_eq_false_iff_ne.mpr c17
    have c17b1 : (t563 != 0) = true := bne_iff_ne.mpr c17
    obtain rfl := Option.some.inj H
    go_wp2_with (first | ((with_reducible refine zak (f := 14) rfl ?_); refine zaG (some 36) rfl rfl Tryd.func14 (by kernel_rfl) rfl #[.string t561] rfl (by (try simp only [List.map_toArray, List.map_cons, List.map_nil]); first | done | rfl | (simp only [List.length_drop, List.length_take]; rfl)) ?_; (with_reducible refine (zaL.calls k1 t561 t563 t564 t565 _ ?side1 A16.out).mono ?_); (case side1 => exact GT_below HG.out (by repeat (first | (with_reducible first | exact HB.out | apply zae | apply zaa | apply zad) | exact HB.out))); rintro e w21 ⟨rfl, hb⟩; refine ⟨_, rfl, ?_⟩; have n0_ := zac.mk (zaw (by repeat (first | (with_reducible first | exact HB.out | apply zae | apply zaa | apply zad) | exact HB.out)) hb); clear HB; have HB := n0_; clear n0_; (try clear hb); (try clear hb2); (try clear hk); (try clear hi)) | ((with_reducible refine zaW (N := 6) rfl ?_); (try (refine gate_guard (by rfl) ?_; dsimp only)); refine box_event ?hg (N := 6) ?hd (cs := #[.int .i64 0, .int .i64 0, .string (⟨#[]⟩ : ByteArray)]) (t := 26) ?hr ?_; (case hd => rfl); (case hg => rfl); (case hr => first | (go_simp; done) | (go_simp; rfl)); intro gb566 hg w22 hbox hb; have n0_ := zac.mk (zaw (by repeat (first | (with_reducible first | exact HB.out | apply zae | apply zaa | apply zad) | exact HB.out)) hb); have n1_ := zac.mk (hbox); have n2_ := zac.mk ((by rw [hg]; exact (zaJ (by repeat (first | (with_reducible first | exact HB.out | apply zae | apply zaa | apply zad) | exact HB.out))) : w.heap.size ≤ gb566)); have n3_ := zac.mk ((by rw [hg]; exact (zaJ (by repeat (first | (with_reducible first | exact HB.out | apply zae | apply zaa | apply zad) | exact HB.out))) : w.heap.size ≤ gb566)); clear HB; have HB := n0_; have BK566 := n1_; have GW566 := n2_; have GE566 := n3_; clear n0_ n1_ n2_ n3_ hb hbox hg; have hcz23_0 : w22.cell? ⟨gb566, 0, none⟩ = some (.int .i64 0) := (zaO BK566.out 0).trans rfl; have hcz23_1 : w22.cell? ⟨gb566, 1, none⟩ = some (.int .i64 0) := (zaO BK566.out 1).trans rfl; have hcz23_2 : w22.cell? ⟨gb566, 2, none⟩ = some (.string (⟨#[]⟩ : ByteArray)) := (zaO BK566.out 2).trans rfl; have hfz23_0 := zaA BK566.out 0; have hfz23_1 := zaA BK566.out 1; have hfz23_2 := zaA BK566.out 2))
    go_ret
    exact ⟨by first | rfl | (simp [zan, zam] <;> rfl) | (simp [*, zan, zam] <;> rfl), by repeat (first | (with_reducible first | exact HB.out | apply zae | apply zaa | apply zad | refine zai ?_ GE566.out) | exact HB.out)⟩
 rw [if_neg c6] at H
 have c6b0 : (t561.toList == t562.toList) = false := beq_eq_false_iff_ne.mpr c6
 have c6b1 : (t561.toList != t562.toList) = true := bne_iff_ne.mpr c6
 obtain rfl := Option.some.inj H
 go_enter Tryd.func3, Tryd.ntmps3
 go_wp2_with (first | ((with_reducible refine zak (f := 11) rfl ?_); refine zaG (some 11) rfl rfl Tryd.func11 (by kernel_rfl) rfl #[.slice A0 l0.length c0] rfl (by (try simp only [List.map_toArray, List.map_cons, List.map_nil]); first | done | rfl | (simp only [List.length_drop, List.length_take]; rfl)) ?_; (with_reducible refine (zaZ.calls k _ _ l0 t560 _ ?side1 ?side2 A3.out).mono ?_); (case side1 => repeat (first | exact HR0.out | (with_reducible refine Kd.C_alloc ?_ _) | (with_reducible refine Kd.C_drewN ?_ _) | (with_reducible refine Kd.C_drew ?_))); (case side2 => exact HC0.out); rintro e w24 ⟨rfl, hb⟩; refine ⟨_, rfl, ?_⟩; have n0_ := zac.mk (zaw (by repeat (first | (with_reducible first | exact HB.out | apply zae | apply zaa | apply zad) | exact HB.out)) hb); clear HB; have HB := n0_; clear n0_; (try clear hb); (try clear hb2); (try clear hk); (try clear hi)) | ((with_reducible refine zak (f := 12) rfl ?_); refine zaG (some 13) rfl rfl Tryd.func12 (by kernel_rfl) rfl #[.string t560] rfl (by (try simp only [List.map_toArray, List.map_cons, List.map_nil]); first | done | rfl | (simp only [List.length_drop, List.length_take]; rfl)) ?_; (with_reducible refine (zar.calls k t560 t561 _ ?side1 A4.out).mono ?_); (case side1 => exact GT_below HG.out (by repeat (first | (with_reducible first | exact HB.out | apply zae | apply zaa | apply zad) | exact HB.out))); rintro e w25 ⟨rfl, hb⟩; refine ⟨_, rfl, ?_⟩; have n0_ := zac.mk (zaw (by repeat (first | (with_reducible first | exact HB.out | apply zae | apply zaa | apply zad) | exact HB.out)) hb); clear HB; have HB := n0_; clear n0_; (try clear hb); (try clear hb2); (try clear hk); (try clear hi)) | ((with_reducible refine zak (f := 13) rfl ?_); refine zaG (some 16) rfl rfl Tryd.func13 (by kernel_rfl) rfl #[.string t560] rfl (by (try simp only [List.map_toArray, List.map_cons, List.map_nil]); first | done | rfl | (simp only [List.length_drop, List.length_take]; rfl)) ?_; (with_reducible refine (zaE.calls k t560 t562 _ A5.out).mono ?_); rintro e w26 ⟨rfl, hb⟩; refine ⟨_, rfl, ?_⟩; have n0_ := zac.mk (zaw (by repeat (first | (with_reducible first | exact HB.out | apply zae | apply zaa | apply zad) | exact HB.out)) hb); clear HB; have HB := n0_; clear n0_; (try clear hb); (try clear hb2); (try clear hk); (try clear hi)))
 go_ret
 exact ⟨by first | rfl | (simp [zan, zam] <;> rfl) | (simp [*, zan, zam] <;> rfl), by repeat (first | (with_reducible first | exact HB.out | apply zae | apply zaa | apply zad) | exact HB.out)⟩
end Go.Proofs.YtbppeepihlajoaaDoor.P
