/- Written by a program of this session: plain Lean functions for Go functions, and for each the proof that the call comes to what the function says. -/
import Derived.Test.YtbppeepihlajoaaDoorL0
import Derived.Test.YtbppeepihlajoaaDoorL12
import Derived.Test.YtbppeepihlajoaaDoorL13
import Derived.Test.YtbppeepihlajoaaDoorXLn
namespace Go.Proofs.YtbppeepihlajoaaDoor.P
open Go.RowKit Go.Proofs.YtbppeepihlajoaaDoorW.PrintWords Go.Proofs.YtbppeepihlajoaaDoorW.PrintLast Go.Proofs.YtbppeepihlajoaaDoorW.PrintMore
attribute [local go_sem] max2_int min2_int max_two min_two max_three min_three max_four min_four
set_option linter.unusedVariables false
set_option linter.unusedSimpArgs false
def zbf.l0 : Nat → List Int → List (S110) → Int → Int → Option (List Int)
 | 0, _, _, _, _ => none
 | k + 1, x3, x9, x10, x11 => if x11 < x10 then (if 0 ≤ x11 then (if x11 < (x9.length : Int) then (if x11 < (x3.length : Int) then (zbf.l0 k (x3.set (x11 : Int).toNat ((zaR x9 x11).f0)) x9 x10 (wrap64 (x11 + 1))) else (none)) else (none)) else (none)) else (some x3)
def zbf.f (k : Nat) (l0 : List (S110)) : Option (List Int) := if 0 ≤ (l0.length : Int) then (if ((l0.length : Int) : Int).toNat ≤ 35184372088832 then (zbf.l0 k (List.replicate ((l0.length : Int) : Int).toNat 0) l0 (l0.length : Int) 0) else (none)) else (none)
set_option maxHeartbeats 8000000 in
set_option maxRecDepth 100000 in
theorem zbf.calls (k : Nat) (A0 : Option Addr) (c0 : Nat) (l0 : List (S110)) (r : List Int) (w : World) (hr0 : Kd.C k110 w A0 l0.length l0) (hc0 : l0.length ≤ c0) (h : zbf.f k l0 = some r) :
  Calls Tryd.prog 64 #[.slice A0 l0.length c0] w fun e w' => ∃ v0_ : Value, e = .returned (v0_) ∧ Kd.R (Kd.int .i64) 2 w' w.heap.size (fun _ => True) v0_ r ∧ Below w.heap.size w w' := by
 have hu110 := Tryd.underlying110
 have HR0 := zab.mk hr0; have HC0 := zab.mk hc0; clear hr0 hc0
 have HB := zab.mk (Below.refl w.heap.size w)
 have H : (if 0 ≤ (l0.length : Int) then (if ((l0.length : Int) : Int).toNat ≤ 35184372088832 then (zbf.l0 k (List.replicate ((l0.length : Int) : Int).toNat 0) l0 (l0.length : Int) 0) else (none)) else (none)) = some r := h
 clear h
 by_cases c2 : 0 ≤ (l0.length : Int)
 ·rw [if_pos c2] at H
  have c2b0 := eq_true c2
  have c2b1 : decide (0 ≤ (l0.length : Int)) = true := decide_eq_true c2
  clear c2
  by_cases c3 : ((l0.length : Int) : Int).toNat ≤ 35184372088832
  ·rw [if_pos c3] at H
   have c3b0 := eq_true c3
   have c3b1 : decide (((l0.length : Int) : Int).toNat ≤ 35184372088832) = true := decide_eq_true c3
   clear c3
   obtain ⟨y376, hy376⟩ : ∃ y_ : List Int, y_ = (List.replicate ((l0.length : Int) : Int).toNat 0) := ⟨_, rfl⟩
   replace H : (zbf.l0 k y376 l0 (l0.length : Int) 0) = some r := by first | (rw [hy376]; with_reducible exact H) | (have H2_ := (Option.bind_some _ _).symm.trans H; rw [hy376]; with_reducible exact H2_) | (have H2_ := (Option.bind_some _ _).symm.trans H; with_reducible exact H2_) | with_reducible exact H | (rw [hy376]; exact H) | exact H
   have Ny376 := zab.mk hy376; clear hy376; have H' := zab.mk H; clear H
   go_enter Tryd.func64, Tryd.ntmps64
   go_wp2_with (first | ((with_reducible refine zbC (N := 8) rfl ?_); refine Kd.R_make (Kd.int .i64) _ 2 rfl (N := 8) rfl 67 _ _ rfl (l0.length : Int) rfl rfl Tryd.underlying67 (.int .i64 0) 8 info2 rfl (by decide) (by omega) 0 (ok := fun _ => True) (okp := fun _ => True) rfl (fun _ hk => hk) trivial (of_decide_eq_true (by first | (with_reducible assumption) | assumption)) (Nat.le_trans (Nat.mul_le_mul_right _ (of_decide_eq_true (by first | (with_reducible assumption) | assumption) : (l0.length : Int).toNat ≤ 35184372088832)) (by omega)) (Below.refl _ _) (Nat.le_refl _) ?_; intro v377 w4 ho5 hb hg_ hnew_; clear hg_ hnew_; (first | rw [← Ny376.out] at ho5 | (simp only [Int.reduceToNat] at ho5; rw [← Ny376.out] at ho5)); have n0_ := zab.mk (Kd.zbx ho5 (zaC (by repeat (first | (with_reducible first | exact HB.out | apply zac | apply zaa | apply zad) | exact HB.out)))); have n1_ := zab.mk (zaw (by repeat (first | (with_reducible first | exact HB.out | apply zac | apply zaa | apply zad) | exact HB.out)) hb); clear HB; have HO378 := n0_; have HB := n1_; clear n0_ n1_ hb ho5))
   go_loopg [11] k (fun kq v11 w' => ∃ (x3_1 : List Int) (x11_1 : Int), v11 = .int .i64 x11_1 ∧ zab (zbf.l0 kq x3_1 l0 (l0.length : Int) x11_1 = some r) ∧ zab (kq ≤ k) ∧ zab (Kd.R (Kd.int .i64) 2 w' w.heap.size (fun _ => True) v377 x3_1) ∧ zab (Below w.heap.size w w'))
   case atStart => exact ⟨(y376), (0), (by first | rfl | (simp; done) | (simp [*]; done)), H', ⟨Nat.le_refl _⟩, ⟨by (with_reducible repeat (first | apply Kd.zao | apply Kd.zan | apply Kd.zav)); exact HO378.out⟩, ⟨by repeat (first | (with_reducible first | exact HB.out | apply zac | apply zaa | apply zad) | exact HB.out)⟩⟩
   case round =>
    clear H'
    try clear c2b0
    try clear c2b1
    try clear c3b0
    try clear c3b1
    obtain ⟨x3_1, x11_1, rfl, HA, HK1, HO_3, HB⟩ := hrel
    cases gk with
    | zero => exact absurd HA.out (by simp [zbf.l0])
    | succ k1 =>
     have H := HA.out; clear HA
     simp only [zbf.l0] at H
     by_cases c6 : x11_1 < (l0.length : Int)
     ·rw [if_pos c6] at H
      have c6b0 : decide (x11_1 < (l0.length : Int)) = true := decide_eq_true c6
      clear c6
      by_cases c7 : 0 ≤ x11_1
      ·rw [if_pos c7] at H
       have c7b0 : decide (0 ≤ x11_1) = true := decide_eq_true c7
       clear c7
       by_cases c8 : x11_1 < (l0.length : Int)
       ·rw [if_pos c8] at H
        have c8b0 : decide (x11_1 < (l0.length : Int)) = true := decide_eq_true c8
        clear c8
        by_cases c9 : x11_1 < (x3_1.length : Int)
        ·rw [if_pos c9] at H
         have c9b0 : decide (x11_1 < (x3_1.length : Int)) = true := decide_eq_true c9
         clear c9
         obtain ⟨y381, hy381⟩ : ∃ y_ : List Int, y_ = (x3_1.set (x11_1 : Int).toNat ((zaR l0 x11_1).f0)) := ⟨_, rfl⟩
         replace H : (zbf.l0 k1 y381 l0 (l0.length : Int) (wrap64 (x11_1 + 1))) = some r := by first | (rw [hy381]; with_reducible exact H) | (have H2_ := (Option.bind_some _ _).symm.trans H; rw [hy381]; with_reducible exact H2_) | (have H2_ := (Option.bind_some _ _).symm.trans H; with_reducible exact H2_) | with_reducible exact H | (rw [hy381]; exact H) | exact H
         have Ny381 := zab.mk hy381; clear hy381; have H' := zab.mk H; clear H
         have p379 : 0 ≤ (x11_1 : Int) := of_decide_eq_true (by first | (with_reducible assumption) | assumption)
         have q379 : x11_1 < (l0.length : Int) := of_decide_eq_true (by first | (with_reducible assumption) | assumption)
         obtain ⟨ad379, e379, hx379_0, hx379_1, hx379_2, hx379_3⟩ := at_T110 HR0.out x11_1 p379 q379
         cases e379
         replace hx379_0 := (HB.out.cell (World.block_lt_of_cell? w _ hx379_0)).trans hx379_0
         replace hx379_1 := (HB.out.cell (World.block_lt_of_cell? w _ hx379_1)).trans hx379_1
         replace hx379_2 := (HB.out.cell (World.block_lt_of_cell? w _ hx379_2)).trans hx379_2
         replace hx379_3 := (HB.out.cell (World.block_lt_of_cell? w _ hx379_3)).trans hx379_3
         replace p379 := eq_true p379
         replace q379 := eq_true q379
         go_wp2_with (first | ((with_reducible refine zbC (N := 5) rfl ?_); refine box_event ?hg (N := 5) ?hd (cs := #[.int .i64 0, .int .i64 0, .int .i64 0, .bool false]) (t := 110) ?hr ?_; (case hd => rfl); (case hg => rfl); (case hr => first | (go_simp; done) | (go_simp; rfl)); intro gb380 hg w11 hbox hb; have n0_ := zab.mk (Kd.zaN (by (with_reducible repeat (first | apply Kd.zao | apply Kd.zan | apply Kd.zav)); exact HO_3.out) hb); have n1_ := zab.mk (zaw (by repeat (first | (with_reducible first | exact HB.out | apply zac | apply zaa | apply zad) | exact HB.out)) hb); have n2_ := zab.mk (hbox); have n3_ := zab.mk ((by rw [hg]; exact (zaC (by repeat (first | (with_reducible first | exact HB.out | apply zac | apply zaa | apply zad) | exact HB.out))) : w.heap.size ≤ gb380)); have n4_ := zab.mk ((by rw [hg]; exact (zaC (by repeat (first | (with_reducible first | exact HB.out | apply zac | apply zaa | apply zad) | exact HB.out))) : w.heap.size ≤ gb380)); clear HO_3 HB; have HO_3 := n0_; have HB := n1_; have BK380 := n2_; have GW380 := n3_; have GE380 := n4_; clear n0_ n1_ n2_ n3_ n4_ hb hbox hg; have hcz12_0 : w11.cell? ⟨gb380, 0, none⟩ = some (.int .i64 0) := (zak BK380.out 0).trans rfl; have hcz12_1 : w11.cell? ⟨gb380, 1, none⟩ = some (.int .i64 0) := (zak BK380.out 1).trans rfl; have hcz12_2 : w11.cell? ⟨gb380, 2, none⟩ = some (.int .i64 0) := (zak BK380.out 2).trans rfl; have hcz12_3 : w11.cell? ⟨gb380, 3, none⟩ = some (.bool false) := (zak BK380.out 3).trans rfl; have hfz12_0 := zaf BK380.out 0; have hfz12_1 := zaf BK380.out 1; have hfz12_2 := zaf BK380.out 2; have hfz12_3 := zaf BK380.out 3) | ((with_reducible refine gate_store (t := 110) (p := 5) rfl ?_); refine store_event (t := 110) (p := 5) (v := ?vo_w13) (w1 := ((((w11.setCell ⟨gb380, 0, none⟩ (.int .i64 ((zaR l0 x11_1).f0))).setCell ⟨gb380, 1, none⟩ (.int .i64 ((zaR l0 x11_1).f1))).setCell ⟨gb380, 2, none⟩ (.int .i64 ((zaR l0 x11_1).f2))).setCell ⟨gb380, 3, none⟩ (.bool ((zaR l0 x11_1).f3)))) ?hg ?ho ?hn ?hr ?_; (case ho => rfl); (case hg => rfl); (case hn => rfl); (case hr => first | (go_simp; done) | (go_simp; rfl)); intro w13 hw; have n0_ : zab (Kd.R (Kd.int .i64) 2 w13 w.heap.size (fun _ => True) v377 x3_1) := ⟨(by rw [hw]; exact (by (with_reducible repeat (first | apply Kd.zao | apply Kd.zan | apply Kd.zav)); exact Kd.za2 (Kd.za4 (p := ⟨gb380, 3, none⟩) (Kd.za4 (p := ⟨gb380, 2, none⟩) (Kd.za4 (p := ⟨gb380, 1, none⟩) (Kd.za4 (p := ⟨gb380, 0, none⟩) (Kd.zaX HO_3.out BK380.out (by decide)) (fun _ hk => hk.2) (.int .i64 ((zaR l0 x11_1).f0))) (fun _ hk => hk.2) (.int .i64 ((zaR l0 x11_1).f1))) (fun _ hk => hk.2) (.int .i64 ((zaR l0 x11_1).f2))) (fun _ hk => hk.2) (.bool ((zaR l0 x11_1).f3))) (fun _ hk => trivial)))⟩; have n1_ : zab (w13.heap[gb380]? = some (.cells #[.int .i64 ((zaR l0 x11_1).f0), .int .i64 ((zaR l0 x11_1).f1), .int .i64 ((zaR l0 x11_1).f2), .bool ((zaR l0 x11_1).f3)] 110 (0, 0))) := ⟨(by rw [hw]; exact (by (with_reducible repeat (first | refine zar ?_ _ | refine zat ?_ | refine zai ?_ _)); refine zbA (cs := #[.int .i64 ((zaR l0 x11_1).f0), .int .i64 ((zaR l0 x11_1).f1), .int .i64 ((zaR l0 x11_1).f2), .bool false]) ?_ 3 _ rfl; (with_reducible repeat (first | refine zar ?_ _ | refine zat ?_ | refine zai ?_ _)); refine zbA (cs := #[.int .i64 ((zaR l0 x11_1).f0), .int .i64 ((zaR l0 x11_1).f1), .int .i64 0, .bool false]) ?_ 2 _ rfl; (with_reducible repeat (first | refine zar ?_ _ | refine zat ?_ | refine zai ?_ _)); refine zbA (cs := #[.int .i64 ((zaR l0 x11_1).f0), .int .i64 0, .int .i64 0, .bool false]) ?_ 1 _ rfl; (with_reducible repeat (first | refine zar ?_ _ | refine zat ?_ | refine zai ?_ _)); refine zbA (cs := #[.int .i64 0, .int .i64 0, .int .i64 0, .bool false]) ?_ 0 _ rfl; (with_reducible repeat (first | refine zar ?_ _ | refine zat ?_ | refine zai ?_ _)); exact BK380.out))⟩; have n2_ : zab (Below w.heap.size w w13) := ⟨(by rw [hw]; exact (by repeat (first | (with_reducible first | exact HB.out | apply zac | apply zaa | apply zad | refine zas ?_ GE380.out) | exact HB.out)))⟩; clear hw HO_3 BK380 HB; have HO_3 := n0_; have BK380 := n1_; have HB := n2_; clear n0_ n1_ n2_; have hcz14_0 : w13.cell? ⟨gb380, 0, none⟩ = some (.int .i64 ((zaR l0 x11_1).f0)) := (zak BK380.out 0).trans rfl; have hcz14_1 : w13.cell? ⟨gb380, 1, none⟩ = some (.int .i64 ((zaR l0 x11_1).f1)) := (zak BK380.out 1).trans rfl; have hcz14_2 : w13.cell? ⟨gb380, 2, none⟩ = some (.int .i64 ((zaR l0 x11_1).f2)) := (zak BK380.out 2).trans rfl; have hcz14_3 : w13.cell? ⟨gb380, 3, none⟩ = some (.bool ((zaR l0 x11_1).f3)) := (zak BK380.out 3).trans rfl; have hfz14_0 := zaf BK380.out 0; have hfz14_1 := zaf BK380.out 1; have hfz14_2 := zaf BK380.out 2; have hfz14_3 := zaf BK380.out 3; have p10 : 0 ≤ (x11_1 : Int) := of_decide_eq_true (by first | (with_reducible assumption) | assumption); have q10 : (x11_1 : Int) < ((x3_1.length : Int) : Int) := of_decide_eq_true (by first | (with_reducible assumption) | assumption); obtain ⟨go10, co10, eo10, gb10, gl10, cl10, HG10⟩ := Kd.R_form HO_3.out (by omega); (first | cases eo10 | (injection eo10 with ea_ en_ ec_; (first | subst ea_ | (injection ea_ with ea_; subst ea_)); subst ec_; clear en_)); have GB10 := zab.mk gb10; have GG10 := zab.mk HG10; clear gb10 gl10 HG10; obtain ⟨hx10_0, hf10_0⟩ := Kd.R_celln 0 HO_3.out (x11_1 : Int) p10 q10; replace p10 := eq_true p10; replace q10 := eq_true q10; obtain ⟨hy15_, hz15_⟩ := Kd.R_celln 0 HO_3.out (x11_1 : Int) (of_decide_eq_true (by first | (with_reducible assumption) | assumption)) (of_decide_eq_true (by first | (with_reducible assumption) | assumption)); have HP15 := Kd.R_putg HO_3.out (x11_1 : Int) ((zaR l0 x11_1).f0)) | ((with_reducible refine gate_store (t := 2) (p := 20) rfl ?_); refine store_event (t := 2) (p := 20) (v := ?vo_w16) (w1 := (w13.setCell ⟨go10, (x11_1 : Int).toNat, none⟩ (.int .i64 ((zaR l0 x11_1).f0)))) ?hg ?ho ?hn ?hr ?_; (case ho => rfl); (case hg => rfl); (case hn => rfl); (case hr => first | (go_simp; done) | (go_simp; rfl)); intro w16 hw; have hg : w13.grownBy w16 (some go10) := (by rw [hw]; exact HP15.2); have hp_ : Kd.R (Kd.int .i64) 2 w16 w.heap.size (fun _ => True) (.slice (some ⟨go10, 0, none⟩) x3_1.length co10) y381 := (by rw [hw, Ny381.out]; exact HP15.1); clear HP15; have n0_ := zab.mk (hp_); have n1_ := zab.mk (zbi (g := gb380) (o := .cells #[.int .i64 ((zaR l0 x11_1).f0), .int .i64 ((zaR l0 x11_1).f1), .int .i64 ((zaR l0 x11_1).f2), .bool ((zaR l0 x11_1).f3)] 110 (0, 0)) (by (with_reducible repeat (first | refine zar ?_ _ | refine zat ?_ | refine zai ?_ _)); exact BK380.out) hg (Kd.R_ne HO_3.out BK380.out (by decide))); have n2_ := zab.mk ((by rw [hw]; exact zas (HB.out) GB10.out : Below w.heap.size w w16)); clear HO_3 BK380 HB; have HO_3 := n0_; have BK380 := n1_; have HB := n2_; clear n0_ n1_ n2_ hg hw hp_))
         go_roundg k1
         case measure => have := HK1.out; omega
         case rel => exact ⟨(y381), (wrap64 (x11_1 + 1)), (by first | rfl | (simp; done) | (simp [*]; done)), H', ⟨by have := HK1.out; omega⟩, ⟨by (with_reducible repeat (first | apply Kd.zao | apply Kd.zan | apply Kd.zav)); exact HO_3.out⟩, ⟨by repeat (first | (with_reducible first | exact HB.out | apply zac | apply zaa | apply zad | refine zas ?_ GE380.out) | exact HB.out)⟩⟩
        rw [if_neg c9] at H
        exact absurd H (by simp)
       rw [if_neg c8] at H
       exact absurd H (by simp)
      rw [if_neg c7] at H
      exact absurd H (by simp)
     rw [if_neg c6] at H
     have c6b0 : decide (x11_1 < (l0.length : Int)) = false := decide_eq_false c6
     clear c6; obtain rfl := Option.some.inj H
     go_wp2
     go_ret
     exact ⟨_, by first | rfl | (simp [zam, zal] <;> rfl) | (simp [*, zam, zal] <;> rfl), by (with_reducible repeat (first | apply Kd.zao | apply Kd.zan | apply Kd.zav)); exact HO_3.out, by repeat (first | (with_reducible first | exact HB.out | apply zac | apply zaa | apply zad) | exact HB.out)⟩
  rw [if_neg c3] at H
  exact absurd H (by simp)
 rw [if_neg c2] at H
 exact absurd H (by simp)
def zaU.l0 : Nat → ByteArray → List Bool → List Bool → List (S61) → List (S110) → Int → Int → Option ((List (S61)))
 | 0, _, _, _, _, _, _, _ => none
 | k + 1, x0, x2, x3, x9, x17, x18, x19 => if x19 < x18 then (if 0 ≤ x19 then (if x19 < (x17.length : Int) then (if x19 > 0 then (if x19 < (x2.length : Int) then (if rdOf false x2 x19 = true then (if x19 < (x3.length : Int) then (if x9.length < 8796093022208 then (zaU.l0 k x0 x2 x3 (x9 ++ [(⟨(zaR x17 x19).f1, rdOf false x3 x19⟩ : S61)]) x17 x18 (wrap64 (x19 + 1))) else (none)) else (none)) else (zaU.l0 k x0 x2 x3 x9 x17 x18 (wrap64 (x19 + 1)))) else (none)) else (zaU.l0 k x0 x2 x3 x9 x17 x18 (wrap64 (x19 + 1)))) else (none)) else (none)) else (if x9.length < 8796093022208 then (some (x9 ++ [(⟨(x0.size : Int), true⟩ : S61)])) else (none))
def zaU.f (k : Nat) (a0 : ByteArray) (l1 : List (S110)) (l2 : List Bool) (l3 : List Bool) : Option ((List (S61))) := if (a0.size : Int) = 0 then (some ([] : List (S61))) else (zaU.l0 k a0 l2 l3 (([(⟨0, false⟩ : S61)] : List (S61))) l1 (l1.length : Int) 0)
def zaU.T8 : Bool × List (List Nat × List Nat) := (true, [([], []), ([], []), ([1], [1]), ([], []), ([], []), ([3, 4], [3, 4]), ([5], [5]), ([2, 6], [2, 6]), ([7], [7]), ([0, 8], [0, 8]), ([9, 9, 0, 1, 2, 3, 4, 5, 6, 7, 8, 9], [0, 9])])
def zaU.B8 : List Nat := [0, 0, 2, 0, 0, 24, 56, 126, 254, 511, 1023]
theorem zaU.tab8 : rtab .any (opsOf Tryd.f65 8) = zaU.T8 := by kernel_rfl
theorem zaU.bits8 : waitsOk zaU.T8.2 zaU.B8 = true := by kernel_rfl
set_option maxHeartbeats 8000000 in
set_option maxRecDepth 100000 in
theorem zaU.calls (k : Nat) (a0 : ByteArray) (A1 : Option Addr) (c1 : Nat) (l1 : List (S110)) (A2 : Option Addr) (c2 : Nat) (l2 : List Bool) (A3 : Option Addr) (c3 : Nat) (l3 : List Bool) (r : List (S61)) (w : World) (hr1 : Kd.C k110 w A1 l1.length l1) (hc1 : l1.length ≤ c1) (hr2 : Kd.C Kd.bool w A2 l2.length l2) (hc2 : l2.length ≤ c2) (hr3 : Kd.C Kd.bool w A3 l3.length l3) (hc3 : l3.length ≤ c3) (h : zaU.f k a0 l1 l2 l3 = some r) :
  Calls Tryd.prog 65 #[.string a0, .slice A1 l1.length c1, .slice A2 l2.length c2, .slice A3 l3.length c3] w fun e w' => ∃ v0_ : Value, e = .returned (v0_) ∧ Kd.R k61 61 w' w.heap.size (fun _ => True) v0_ r ∧ Below w.heap.size w w' := by
 have hu61 := Tryd.underlying61
 have hu110 := Tryd.underlying110
 have HR1 := zab.mk hr1; have HC1 := zab.mk hc1; clear hr1 hc1; have HR2 := zab.mk hr2; have HC2 := zab.mk hc2; clear hr2 hc2; have HR3 := zab.mk hr3; have HC3 := zab.mk hc3; clear hr3 hc3
 have HB := zab.mk (Below.refl w.heap.size w)
 have H : (if (a0.size : Int) = 0 then (some ([] : List (S61))) else (zaU.l0 k a0 l2 l3 (([(⟨0, false⟩ : S61)] : List (S61))) l1 (l1.length : Int) 0)) = some r := h
 clear h
 by_cases c5 : (a0.size : Int) = 0
 ·rw [if_pos c5] at H
  have c5b0 : ((a0.size : Int) == 0) = true := beq_iff_eq.mpr c5
  have c5b1 : ((a0.size : Int) != 0) = false := bne_eq_false_iff_eq.mpr c5
  clear c5; obtain rfl := Option.some.inj H
  go_enter Tryd.func65, Tryd.ntmps65
  go_wp2
  go_ret
  exact ⟨_, by first | rfl | (simp [zam, zal] <;> rfl) | (simp [*, zam, zal] <;> rfl), by first | exact Kd.R_nil _ _ _ _ _ | exact Kd.N_nil _ _ _ _ _ | exact Kd.V_nil _ _ _ _ _ | exact Kd.Q_nil _ _ _ _ _ | exact Kd.S_nil _ _ _ _ _, by repeat (first | (with_reducible first | exact HB.out | apply zac | apply zaa | apply zad) | exact HB.out)⟩
 rw [if_neg c5] at H
 have c5b0 : ((a0.size : Int) == 0) = false := beq_eq_false_iff_ne.mpr c5
 have c5b1 : ((a0.size : Int) != 0) = true := bne_iff_ne.mpr c5
 obtain ⟨y382, hy382⟩ : ∃ y_ : List (S61), y_ = (([(⟨0, false⟩ : S61)] : List (S61))) := ⟨_, rfl⟩
 replace H : (zaU.l0 k a0 l2 l3 y382 l1 (l1.length : Int) 0) = some r := by first | (rw [hy382]; with_reducible exact H) | (have H2_ := (Option.bind_some _ _).symm.trans H; rw [hy382]; with_reducible exact H2_) | (have H2_ := (Option.bind_some _ _).symm.trans H; with_reducible exact H2_) | with_reducible exact H | (rw [hy382]; exact H) | exact H
 have Ny382 := zab.mk hy382; clear hy382; have H' := zab.mk H; clear H
 go_enter Tryd.func65, Tryd.ntmps65
 go_wp2_with (first | ((with_reducible refine zbC (N := 16) rfl ?_); refine Kd.R_lit k61 _ 61 ?hg (N := 16) ?hd (xs := ([(⟨0, false⟩ : S61)] : List (S61))) (inner := [.int .i64 0, .bool false]) (ok := fun _ => True) (okp := fun _ => True) ?hr ?hp (fun _ hk => hk) trivial (Below.refl _ _) (Nat.le_refl _) (by simp) ?_; (case hd => rfl); (case hg => rfl); (case hr => first | (go_simp; done) | (go_simp; rfl)); (case hp => exact (Reps.c2 (show Kd.M k61 _ _ _ (⟨0, false⟩ : S61) [.int .i64 0, .bool false] from (k61_mkM _ _ _ (⟨0, false⟩ : S61) )) (Reps.none _ _))); intro v383 w6 ho7 hb hg_ hnew_; clear hg_ hnew_; (first | rw [← Ny382.out] at ho7 | (simp only [Int.reduceToNat] at ho7; rw [← Ny382.out] at ho7)); have n0_ := zab.mk (Kd.zbx ho7 (zaC (by repeat (first | (with_reducible first | exact HB.out | apply zac | apply zaa | apply zad) | exact HB.out)))); have n1_ := zab.mk (zaw (by repeat (first | (with_reducible first | exact HB.out | apply zac | apply zaa | apply zad) | exact HB.out)) hb); clear HB; have HO384 := n0_; have HB := n1_; clear n0_ n1_ hb ho7))
 go_loopg [9, 19] k (fun kq v9 v19 w' => ∃ (x9_1 : List (S61)) (zbp : Int), v19 = .int .i64 zbp ∧ zab (zaU.l0 kq a0 l2 l3 x9_1 l1 (l1.length : Int) zbp = some r) ∧ zab (kq ≤ k) ∧ zab (Kd.R k61 61 w' w.heap.size (fun _ => True) v9 x9_1) ∧ zab (Below w.heap.size w w'))
 case atStart => exact ⟨(y382), (0), (by first | rfl | (simp; done) | (simp [*]; done)), H', ⟨Nat.le_refl _⟩, ⟨by (with_reducible repeat (first | apply Kd.zao | apply Kd.zan | apply Kd.zav)); exact HO384.out⟩, ⟨by repeat (first | (with_reducible first | exact HB.out | apply zac | apply zaa | apply zad) | exact HB.out)⟩⟩
 case round =>
  clear H'
  try clear c1
  try clear c2
  try clear c3
  try clear c5
  try clear c5b0
  try clear c5b1
  obtain ⟨x9_1, zbp, rfl, HA, HK1, HO_9, HB⟩ := hrel
  cases gk with
  | zero => exact absurd HA.out (by simp [zaU.l0])
  | succ k1 =>
   have H := HA.out; clear HA
   simp only [zaU.l0] at H
   by_cases c8 : zbp < (l1.length : Int)
   ·rw [if_pos c8] at H
    have c8b0 : decide (zbp < (l1.length : Int)) = true := decide_eq_true c8
    clear c8
    by_cases c9 : 0 ≤ zbp
    ·rw [if_pos c9] at H
     have c9b0 : decide (0 ≤ zbp) = true := decide_eq_true c9
     clear c9
     by_cases c10 : zbp < (l1.length : Int)
     ·rw [if_pos c10] at H
      have c10b0 : decide (zbp < (l1.length : Int)) = true := decide_eq_true c10
      clear c10
      by_cases c11 : zbp > 0
      ·rw [if_pos c11] at H
       have c11b0 : decide (0 < zbp) = true := decide_eq_true c11
       clear c11
       by_cases c12 : zbp < (l2.length : Int)
       ·rw [if_pos c12] at H
        have c12b0 : decide (zbp < (l2.length : Int)) = true := decide_eq_true c12
        clear c12
        obtain ⟨bq13, hbq13⟩ : ∃ b_ : Bool, b_ = (rdOf false l2 zbp) := ⟨_, rfl⟩
        replace H : (if bq13 = true then (if zbp < (l3.length : Int) then (if x9_1.length < 8796093022208 then (zaU.l0 k1 a0 l2 l3 (x9_1 ++ [(⟨(zaR l1 zbp).f1, rdOf false l3 zbp⟩ : S61)]) l1 (l1.length : Int) (wrap64 (zbp + 1))) else (none)) else (none)) else (zaU.l0 k1 a0 l2 l3 x9_1 l1 (l1.length : Int) (wrap64 (zbp + 1)))) = some r := by rw [← hbq13] at H; exact H
        have Nbq13 := zab.mk hbq13; clear hbq13
        by_cases c14 : bq13 = true
        ·subst c14
         replace H : (if zbp < (l3.length : Int) then (if x9_1.length < 8796093022208 then (zaU.l0 k1 a0 l2 l3 (x9_1 ++ [(⟨(zaR l1 zbp).f1, rdOf false l3 zbp⟩ : S61)]) l1 (l1.length : Int) (wrap64 (zbp + 1))) else (none)) else (none)) = some r := by rw [if_pos rfl] at H; exact H
         by_cases c15 : zbp < (l3.length : Int)
         ·rw [if_pos c15] at H
          have c15b0 : decide (zbp < (l3.length : Int)) = true := decide_eq_true c15
          clear c15
          by_cases c16 : x9_1.length < 8796093022208
          ·rw [if_pos c16] at H; have LMc16 := zab.mk c16; clear c16
           obtain ⟨y389, hy389⟩ : ∃ y_ : List (S61), y_ = (x9_1 ++ [(⟨(zaR l1 zbp).f1, rdOf false l3 zbp⟩ : S61)]) := ⟨_, rfl⟩
           replace H : (zaU.l0 k1 a0 l2 l3 y389 l1 (l1.length : Int) (wrap64 (zbp + 1))) = some r := by first | (rw [hy389]; with_reducible exact H) | (have H2_ := (Option.bind_some _ _).symm.trans H; rw [hy389]; with_reducible exact H2_) | (have H2_ := (Option.bind_some _ _).symm.trans H; with_reducible exact H2_) | with_reducible exact H | (rw [hy389]; exact H) | exact H
           have Ny389 := zab.mk hy389; clear hy389; have H' := zab.mk H; clear H
           have p385 : 0 ≤ (zbp : Int) := of_decide_eq_true (by first | (with_reducible assumption) | assumption)
           have q385 : zbp < (l1.length : Int) := of_decide_eq_true (by first | (with_reducible assumption) | assumption)
           obtain ⟨ad385, e385, hx385_0, hx385_1, hx385_2, hx385_3⟩ := at_T110 HR1.out zbp p385 q385
           (try rw [← Nbq13.out] at hx385_3)
           cases e385
           replace hx385_0 := (HB.out.cell (World.block_lt_of_cell? w _ hx385_0)).trans hx385_0
           replace hx385_1 := (HB.out.cell (World.block_lt_of_cell? w _ hx385_1)).trans hx385_1
           replace hx385_2 := (HB.out.cell (World.block_lt_of_cell? w _ hx385_2)).trans hx385_2
           replace hx385_3 := (HB.out.cell (World.block_lt_of_cell? w _ hx385_3)).trans hx385_3
           replace p385 := eq_true p385
           replace q385 := eq_true q385
           try go_wp2_with (first | ((with_reducible refine zbC (N := 11) rfl ?_); refine box_event ?hg (N := 11) ?hd (cs := #[.int .i64 0, .int .i64 0, .int .i64 0, .bool false]) (t := 110) ?hr ?_; (case hd => rfl); (case hg => rfl); (case hr => first | (go_simp; done) | (go_simp; rfl)); intro gb386 hg w17 hbox hb; have n0_ := zab.mk (Kd.zaN (by (with_reducible repeat (first | apply Kd.zao | apply Kd.zan | apply Kd.zav)); exact HO_9.out) hb); have n1_ := zab.mk (zaw (by repeat (first | (with_reducible first | exact HB.out | apply zac | apply zaa | apply zad) | exact HB.out)) hb); have n2_ := zab.mk (hbox); have n3_ := zab.mk ((by rw [hg]; exact (zaC (by repeat (first | (with_reducible first | exact HB.out | apply zac | apply zaa | apply zad) | exact HB.out))) : w.heap.size ≤ gb386)); have n4_ := zab.mk ((by rw [hg]; exact (zaC (by repeat (first | (with_reducible first | exact HB.out | apply zac | apply zaa | apply zad) | exact HB.out))) : w.heap.size ≤ gb386)); clear HO_9 HB; have HO_9 := n0_; have HB := n1_; have BK386 := n2_; have GW386 := n3_; have GE386 := n4_; clear n0_ n1_ n2_ n3_ n4_ hb hbox hg; have hcz18_0 : w17.cell? ⟨gb386, 0, none⟩ = some (.int .i64 0) := (zak BK386.out 0).trans rfl; have hcz18_1 : w17.cell? ⟨gb386, 1, none⟩ = some (.int .i64 0) := (zak BK386.out 1).trans rfl; have hcz18_2 : w17.cell? ⟨gb386, 2, none⟩ = some (.int .i64 0) := (zak BK386.out 2).trans rfl; have hcz18_3 : w17.cell? ⟨gb386, 3, none⟩ = some (.bool false) := (zak BK386.out 3).trans rfl; have hfz18_0 := zaf BK386.out 0; have hfz18_1 := zaf BK386.out 1; have hfz18_2 := zaf BK386.out 2; have hfz18_3 := zaf BK386.out 3; have p387 : 0 ≤ (zbp : Int) := of_decide_eq_true (by first | (with_reducible assumption) | assumption); have q387 : zbp < (l2.length : Int) := of_decide_eq_true (by first | (with_reducible assumption) | assumption); obtain ⟨ad387, e387, hx387_0⟩ := Kd.at_bool HR2.out zbp p387 q387; (try rw [← Nbq13.out] at hx387_0); cases e387; have hn387_0 : ad387.block ≠ gb386 := Nat.ne_of_lt (Nat.lt_of_lt_of_le (by have := World.block_lt_of_cell? _ _ hx387_0; first | rwa [add_block] at this | exact this) GW386.out); have hn387_1 : ad387.block ≠ gb386 := Nat.ne_of_lt (Nat.lt_of_lt_of_le (by have := World.block_lt_of_cell? _ _ hx387_0; first | rwa [add_block] at this | exact this) GW386.out); have hn387_2 : ad387.block ≠ gb386 := Nat.ne_of_lt (Nat.lt_of_lt_of_le (by have := World.block_lt_of_cell? _ _ hx387_0; first | rwa [add_block] at this | exact this) GW386.out); have hn387_3 : ad387.block ≠ gb386 := Nat.ne_of_lt (Nat.lt_of_lt_of_le (by have := World.block_lt_of_cell? _ _ hx387_0; first | rwa [add_block] at this | exact this) GW386.out); replace hx387_0 := (HB.out.cell (World.block_lt_of_cell? w _ hx387_0)).trans hx387_0; replace hx387_0 := (cell_far (p := ⟨gb386, 0, none⟩) (by first | (rw [add_block]; exact hn387_0) | (show (Addr.add _ _).block ≠ _; rw [add_block]; exact hn387_0) | exact hn387_0) (.int .i64 ((zaR l1 zbp).f0))).trans hx387_0; replace hx387_0 := (cell_far (p := ⟨gb386, 1, none⟩) (by first | (rw [add_block]; exact hn387_1) | (show (Addr.add _ _).block ≠ _; rw [add_block]; exact hn387_1) | exact hn387_1) (.int .i64 ((zaR l1 zbp).f1))).trans hx387_0; replace hx387_0 := (cell_far (p := ⟨gb386, 2, none⟩) (by first | (rw [add_block]; exact hn387_2) | (show (Addr.add _ _).block ≠ _; rw [add_block]; exact hn387_2) | exact hn387_2) (.int .i64 ((zaR l1 zbp).f2))).trans hx387_0; replace hx387_0 := (cell_far (p := ⟨gb386, 3, none⟩) (by first | (rw [add_block]; exact hn387_3) | (show (Addr.add _ _).block ≠ _; rw [add_block]; exact hn387_3) | exact hn387_3) (.bool ((zaR l1 zbp).f3))).trans hx387_0; clear hn387_0 hn387_1 hn387_2 hn387_3; replace p387 := eq_true p387; replace q387 := eq_true q387))
           have n0_ : zab (Kd.R k61 61 ((((w17.setCell ⟨gb386, 0, none⟩ (.int .i64 ((zaR l1 zbp).f0))).setCell ⟨gb386, 1, none⟩ (.int .i64 ((zaR l1 zbp).f1))).setCell ⟨gb386, 2, none⟩ (.int .i64 ((zaR l1 zbp).f2))).setCell ⟨gb386, 3, none⟩ (.bool ((zaR l1 zbp).f3))) w.heap.size (fun _ => True) u9 x9_1) := ⟨by (with_reducible repeat (first | apply Kd.zao | apply Kd.zan | apply Kd.zav)); exact Kd.za2 (Kd.za4 (p := ⟨gb386, 3, none⟩) (Kd.za4 (p := ⟨gb386, 2, none⟩) (Kd.za4 (p := ⟨gb386, 1, none⟩) (Kd.za4 (p := ⟨gb386, 0, none⟩) (Kd.zaX HO_9.out BK386.out (by decide)) (fun _ hk => hk.2) (.int .i64 ((zaR l1 zbp).f0))) (fun _ hk => hk.2) (.int .i64 ((zaR l1 zbp).f1))) (fun _ hk => hk.2) (.int .i64 ((zaR l1 zbp).f2))) (fun _ hk => hk.2) (.bool ((zaR l1 zbp).f3))) (fun _ hk => trivial)⟩
           have n1_ : zab (((((w17.setCell ⟨gb386, 0, none⟩ (.int .i64 ((zaR l1 zbp).f0))).setCell ⟨gb386, 1, none⟩ (.int .i64 ((zaR l1 zbp).f1))).setCell ⟨gb386, 2, none⟩ (.int .i64 ((zaR l1 zbp).f2))).setCell ⟨gb386, 3, none⟩ (.bool ((zaR l1 zbp).f3))).heap[gb386]? = some (.cells #[.int .i64 ((zaR l1 zbp).f0), .int .i64 ((zaR l1 zbp).f1), .int .i64 ((zaR l1 zbp).f2), .bool ((zaR l1 zbp).f3)] 110 (0, 0))) := ⟨by (with_reducible repeat (first | refine zar ?_ _ | refine zat ?_ | refine zai ?_ _)); refine zbA (cs := #[.int .i64 ((zaR l1 zbp).f0), .int .i64 ((zaR l1 zbp).f1), .int .i64 ((zaR l1 zbp).f2), .bool false]) ?_ 3 _ rfl; (with_reducible repeat (first | refine zar ?_ _ | refine zat ?_ | refine zai ?_ _)); refine zbA (cs := #[.int .i64 ((zaR l1 zbp).f0), .int .i64 ((zaR l1 zbp).f1), .int .i64 0, .bool false]) ?_ 2 _ rfl; (with_reducible repeat (first | refine zar ?_ _ | refine zat ?_ | refine zai ?_ _)); refine zbA (cs := #[.int .i64 ((zaR l1 zbp).f0), .int .i64 0, .int .i64 0, .bool false]) ?_ 1 _ rfl; (with_reducible repeat (first | refine zar ?_ _ | refine zat ?_ | refine zai ?_ _)); refine zbA (cs := #[.int .i64 0, .int .i64 0, .int .i64 0, .bool false]) ?_ 0 _ rfl; (with_reducible repeat (first | refine zar ?_ _ | refine zat ?_ | refine zai ?_ _)); exact BK386.out⟩
           have n2_ : zab (Below w.heap.size w ((((w17.setCell ⟨gb386, 0, none⟩ (.int .i64 ((zaR l1 zbp).f0))).setCell ⟨gb386, 1, none⟩ (.int .i64 ((zaR l1 zbp).f1))).setCell ⟨gb386, 2, none⟩ (.int .i64 ((zaR l1 zbp).f2))).setCell ⟨gb386, 3, none⟩ (.bool ((zaR l1 zbp).f3)))) := ⟨by repeat (first | (with_reducible first | exact HB.out | apply zac | apply zaa | apply zad | refine zas ?_ GE386.out) | exact HB.out)⟩
           (try clear HO_9)
           (try clear BK386)
           (try clear HB)
           generalize ((((w17.setCell ⟨gb386, 0, none⟩ (.int .i64 ((zaR l1 zbp).f0))).setCell ⟨gb386, 1, none⟩ (.int .i64 ((zaR l1 zbp).f1))).setCell ⟨gb386, 2, none⟩ (.int .i64 ((zaR l1 zbp).f2))).setCell ⟨gb386, 3, none⟩ (.bool ((zaR l1 zbp).f3))) = w19 at n0_ n1_ n2_ ⊢
           have HO_9 := n0_
           have BK386 := n1_
           have HB := n2_
           clear n0_ n1_ n2_
           have n0_ := zab.mk (Kd.zav HO_9.out)
           have n1_ := zab.mk (zat BK386.out)
           have n2_ := zab.mk (zad HB.out)
           clear HO_9 BK386 HB
           have HO_9 := n0_
           have BK386 := n1_
           have HB := n2_
           clear n0_ n1_ n2_
           have p388 : 0 ≤ (zbp : Int) := of_decide_eq_true (by first | (with_reducible assumption) | assumption)
           have q388 : zbp < (l3.length : Int) := of_decide_eq_true (by first | (with_reducible assumption) | assumption)
           obtain ⟨ad388, e388, hx388_0⟩ := Kd.at_bool HR3.out zbp p388 q388
           have hw388_0 := hx388_0
           (try rw [← Nbq13.out] at hx388_0)
           cases e388
           replace hx388_0 := (HB.out.cell (World.block_lt_of_cell? w _ hx388_0)).trans hx388_0
           replace p388 := eq_true p388
           replace q388 := eq_true q388
           refine start_ (n := 11) (S := fun w' => w'.cell? ⟨gb386, 0, none⟩ = some (.int .i64 ((zaR l1 zbp).f0)) ∧ w'.cell? ⟨gb386, 1, none⟩ = some (.int .i64 ((zaR l1 zbp).f1)) ∧ w'.cell? ⟨gb386, 2, none⟩ = some (.int .i64 ((zaR l1 zbp).f2)) ∧ w'.cell? ⟨gb386, 3, none⟩ = some (.bool ((zaR l1 zbp).f3)) ∧ w'.cell? (ad388.add (zbp).toNat) = some (.bool (rdOf false l3 zbp))) (ds := []) #[false, false, false, false, false, false, false, false, false, false, false] (by kernel_rfl) rfl rfl ⟨(zak BK386.out 0).trans rfl, (zak BK386.out 1).trans rfl, (zak BK386.out 2).trans rfl, (zak BK386.out 3).trans rfl, ((HB.out.cell (World.block_lt_of_cell? w _ hw388_0)).trans hw388_0)⟩ (fun hHeld => ?_); refine with_tabW zaU.tab8 zaU.bits8 (fun HT_ HW_ => ?_)
           generalize w19.drew = w20 at HO_9 BK386 HB hx388_0 hHeld ⊢
           refine pure_ (i := 0) (N := some 32) (v := ?_) (a' := ?_) #[true, false, false, false, false, false, false, false, false, false, false] rfl rfl (any_of HT_.out (by kernel_rfl)) (fun _ _ _ h => h) (Or.inl ⟨by rfl, ?_⟩) ?_ ?_
           rotate_left
           ·intro w'
            go_simp
            with_reducible rfl
           rotate_left
           ·simp only [Act.put, List.setIfInBounds_toArray, List.set_cons_zero, List.set_cons_succ, zbo]
            rfl
           refine pure_ (i := 1) (N := some 33) (v := ?_) (a' := ?_) #[true, true, false, false, false, false, false, false, false, false, false] rfl rfl (any_of HT_.out (by kernel_rfl)) (fun _ _ _ h => h) (Or.inl ⟨by rfl, ?_⟩) ?_ ?_
           rotate_left
           ·intro w'
            go_simp
            with_reducible rfl
           rotate_left
           ·simp only [Act.put, List.setIfInBounds_toArray, List.set_cons_zero, List.set_cons_succ, zbo]
            rfl
           refine pure_ (i := 3) (N := some 35) (v := ?_) (a' := ?_) #[true, true, false, true, false, false, false, false, false, false, false] rfl rfl (any_of HT_.out (by kernel_rfl)) (fun _ _ _ h => h) (Or.inl ⟨by rfl, ?_⟩) ?_ ?_
           rotate_left
           ·intro w'
            go_simp
            with_reducible rfl
           rotate_left
           ·simp only [Act.put, List.setIfInBounds_toArray, List.set_cons_zero, List.set_cons_succ, zbo]
            rfl
           refine pure_ (i := 4) (N := some 36) (v := ?_) (a' := ?_) #[true, true, false, true, true, false, false, false, false, false, false] rfl rfl (any_of HT_.out (by kernel_rfl)) (fun _ _ _ h => h) (Or.inl ⟨by rfl, ?_⟩) ?_ ?_
           rotate_left
           ·intro w'
            go_simp
            with_reducible rfl
           rotate_left
           ·simp only [Act.put, List.setIfInBounds_toArray, List.set_cons_zero, List.set_cons_succ, zbo]
            rfl
           refine pure_ (i := 5) (N := some 37) (v := ?_) (a' := ?_) #[true, true, false, true, true, true, false, false, false, false, false] rfl rfl (any_of HT_.out (by kernel_rfl)) (fun _ _ _ h => h) (Or.inl ⟨by rfl, ?_⟩) ?_ ?_
           rotate_left
           ·intro w'
            go_simp
            with_reducible rfl
           rotate_left
           ·simp only [Act.put, List.setIfInBounds_toArray, List.set_cons_zero, List.set_cons_succ, zbo]
            rfl
           refine take_ (i := 2) (N := some 34) (v := ?_) (a' := ?_) #[true, true, true, true, true, true, false, false, false, false, false] rfl rfl (take_ofW HT_.out HW_.out (by kernel_rfl)) (fun _ _ _ h => h) (Or.inl ⟨by rfl, ?_⟩) hHeld ?_ ?_
           rotate_left
           ·rintro w' ⟨s0, s1, s2, s3, s4⟩
            go_simp
            with_reducible rfl
           rotate_left
           ·simp only [Act.put, List.setIfInBounds_toArray, List.set_cons_zero, List.set_cons_succ, zbo]
            rfl
           refine take_ (i := 6) (N := some 38) (v := ?_) (a' := ?_) #[true, true, true, true, true, true, true, false, false, false, false] rfl rfl (take_ofW HT_.out HW_.out (by kernel_rfl)) (fun _ _ _ h => h) (Or.inl ⟨by rfl, ?_⟩) hHeld ?_ ?_
           rotate_left
           ·rintro w' ⟨s0, s1, s2, s3, s4⟩
            go_simp
            with_reducible rfl
           rotate_left
           ·simp only [Act.put, List.setIfInBounds_toArray, List.set_cons_zero, List.set_cons_succ, zbo]
            rfl
           refine pure_ (i := 7) (N := some 39) (v := ?_) (a' := ?_) #[true, true, true, true, true, true, true, true, false, false, false] rfl rfl (any_of HT_.out (by kernel_rfl)) (fun _ _ _ h => h) (Or.inl ⟨by rfl, ?_⟩) ?_ ?_
           rotate_left
           ·intro w'
            go_simp
            with_reducible rfl
           rotate_left
           ·simp only [Act.put, List.setIfInBounds_toArray, List.set_cons_zero, List.set_cons_succ, zbo]
            rfl
           refine one_ (i := 8) (N := some 40) #[true, true, true, true, true, true, true, true, true, false, false] rfl rfl (one_of HT_.out (by kernel_rfl)) (by decide) (fun K hK => ?_)
           refine value_ (w1 := ?_) (v := ?_) (by rfl) rfl ?_ ?_
           rotate_left 2
           ·go_simp
            constructor
            ·rfl
            rfl
           refine hK.out _ _ ⟨(zak (zai BK386.out _) 0).trans rfl, (zak (zai BK386.out _) 1).trans rfl, (zak (zai BK386.out _) 2).trans rfl, (zak (zai BK386.out _) 3).trans rfl, (World.cell?_alloc_lt _ _ _ (World.block_lt_of_cell? _ _ (((HB.out.cell (World.block_lt_of_cell? w _ hw388_0)).trans hw388_0)))).trans (((HB.out.cell (World.block_lt_of_cell? w _ hw388_0)).trans hw388_0))⟩ (fun hHeld => ?_)
           clear hK K
           refine norm_ (a' := ?_) ?_ ?_
           rotate_left
           ·show Act.put _ (some 40) _ = _
            simp only [Act.put, List.setIfInBounds_toArray, List.set_cons_zero, List.set_cons_succ, zbo]
            rfl
           refine one_ (i := 9) (N := some 41) #[true, true, true, true, true, true, true, true, true, true, false] rfl rfl (one_of HT_.out (by kernel_rfl)) (by decide) (fun K hK => ?_)
           refine Kd.R_append_step k61 (w0 := w) w.heap.size (by rfl) (.tmp 32) (.tmp 40) 30 61 (.agg #[(.int .i64 0), (.bool false)]) 16 rfl Tryd.underlying30 info61 rfl (by decide) (by omega) u9 x9_1 (⟨(zaR l1 zbp).f1, rdOf false l3 zbp⟩ : S61) [.int .i64 ((zaR l1 zbp).f1), .bool (rdOf false l3 zbp)] (fun _ => True) (fun _ => False) rfl rfl ?aP (fun _ hk => hk.elim) ?aF ?aO ?aB ?aS ?aL ?_
           (case aP => exact k61_mkM _ _ _ (⟨(zaR l1 zbp).f1, rdOf false l3 zbp⟩ : S61))
           (case aB => exact (by repeat (first | (with_reducible first | exact HB.out | apply zac | apply zaa | apply zad | refine zas ?_ GE386.out) | exact HB.out)))
           (case aF => exact (fun _ _ => trivial))
           (case aO => exact (by (with_reducible repeat (first | apply Kd.zao | apply Kd.zan | apply Kd.zav)); exact HO_9.out))
           (case aS => exact (zaC (by repeat (first | (with_reducible first | exact HB.out | apply zac | apply zaa | apply zad | refine zas ?_ GE386.out) | exact HB.out))))
           (case aL => have := LMc16.out; omega)
           intro v390 w21 ho hb hg hat
           rw [← Ny389.out] at ho
           have n0_ := zab.mk (zbi (g := gb386) (o := .cells #[.int .i64 ((zaR l1 zbp).f0), .int .i64 ((zaR l1 zbp).f1), .int .i64 ((zaR l1 zbp).f2), .bool ((zaR l1 zbp).f3)] 110 (0, 0)) (by (with_reducible repeat (first | refine zar ?_ _ | refine zat ?_ | refine zai ?_ _)); exact BK386.out) hg (Kd.R_ne HO_9.out BK386.out (by decide)))
           have n1_ := zab.mk (hb); have n2_ := zab.mk (ho); clear BK386 HB HO_9
           have BK386 := n0_
           have HB := n1_
           have HO391 := n2_
           clear n0_ n1_ n2_ ho hb hg hat
           refine hK.out _ _ ⟨(zak BK386.out 0).trans rfl, (zak BK386.out 1).trans rfl, (zak BK386.out 2).trans rfl, (zak BK386.out 3).trans rfl, ((HB.out.cell (World.block_lt_of_cell? w _ hw388_0)).trans hw388_0)⟩ (fun hHeld => ?_)
           clear hK K
           refine norm_ (a' := ?_) ?_ ?_
           rotate_left
           ·show Act.put _ (some 41) _ = _
            simp only [Act.put, List.setIfInBounds_toArray, List.set_cons_zero, List.set_cons_succ, zbo]
            rfl
           refine pure_ (i := 10) (N := some 9) (v := ?_) (a' := ?_) #[true, true, true, true, true, true, true, true, true, true, true] rfl rfl (any_of HT_.out (by kernel_rfl)) (fun _ _ _ h => h) (Or.inl ⟨by rfl, ?_⟩) ?_ ?_
           rotate_left
           ·intro w'
            go_simp
            with_reducible rfl
           rotate_left
           ·simp only [Act.put, List.setIfInBounds_toArray, List.set_cons_zero, List.set_cons_succ, zbo]
            rfl
           refine done_ (done_of HT_.out (by kernel_rfl)) ?_
           try go_wp2
           go_roundg k1
           case measure => have := HK1.out; omega
           case rel => exact ⟨(y389), (wrap64 (zbp + 1)), (by first | rfl | (simp; done) | (simp [*]; done)), H', ⟨by have := HK1.out; omega⟩, ⟨by (with_reducible repeat (first | apply Kd.zao | apply Kd.zan | apply Kd.zav)); exact HO391.out⟩, ⟨by repeat (first | (with_reducible first | exact HB.out | apply zac | apply zaa | apply zad | refine zas ?_ GE386.out) | exact HB.out)⟩⟩
          rw [if_neg c16] at H
          exact absurd H (by simp)
         rw [if_neg c15] at H
         exact absurd H (by simp)
        replace c14 := Bool.eq_false_iff.mpr c14
        subst c14
        replace H : (zaU.l0 k1 a0 l2 l3 x9_1 l1 (l1.length : Int) (wrap64 (zbp + 1))) = some r := by rw [if_neg (show ¬ (false = true) by decide)] at H; exact H
        have H' := zab.mk H; clear H
        have p385 : 0 ≤ (zbp : Int) := of_decide_eq_true (by first | (with_reducible assumption) | assumption)
        have q385 : zbp < (l1.length : Int) := of_decide_eq_true (by first | (with_reducible assumption) | assumption)
        obtain ⟨ad385, e385, hx385_0, hx385_1, hx385_2, hx385_3⟩ := at_T110 HR1.out zbp p385 q385
        (try rw [← Nbq13.out] at hx385_3)
        cases e385
        replace hx385_0 := (HB.out.cell (World.block_lt_of_cell? w _ hx385_0)).trans hx385_0
        replace hx385_1 := (HB.out.cell (World.block_lt_of_cell? w _ hx385_1)).trans hx385_1
        replace hx385_2 := (HB.out.cell (World.block_lt_of_cell? w _ hx385_2)).trans hx385_2
        replace hx385_3 := (HB.out.cell (World.block_lt_of_cell? w _ hx385_3)).trans hx385_3
        replace p385 := eq_true p385
        replace q385 := eq_true q385
        go_wp2_with (first | ((with_reducible refine zbC (N := 11) rfl ?_); refine box_event ?hg (N := 11) ?hd (cs := #[.int .i64 0, .int .i64 0, .int .i64 0, .bool false]) (t := 110) ?hr ?_; (case hd => rfl); (case hg => rfl); (case hr => first | (go_simp; done) | (go_simp; rfl)); intro gb386 hg w22 hbox hb; have n0_ := zab.mk (Kd.zaN (by (with_reducible repeat (first | apply Kd.zao | apply Kd.zan | apply Kd.zav)); exact HO_9.out) hb); have n1_ := zab.mk (zaw (by repeat (first | (with_reducible first | exact HB.out | apply zac | apply zaa | apply zad) | exact HB.out)) hb); have n2_ := zab.mk (hbox); have n3_ := zab.mk ((by rw [hg]; exact (zaC (by repeat (first | (with_reducible first | exact HB.out | apply zac | apply zaa | apply zad) | exact HB.out))) : w.heap.size ≤ gb386)); have n4_ := zab.mk ((by rw [hg]; exact (zaC (by repeat (first | (with_reducible first | exact HB.out | apply zac | apply zaa | apply zad) | exact HB.out))) : w.heap.size ≤ gb386)); clear HO_9 HB; have HO_9 := n0_; have HB := n1_; have BK386 := n2_; have GW386 := n3_; have GE386 := n4_; clear n0_ n1_ n2_ n3_ n4_ hb hbox hg; have hcz23_0 : w22.cell? ⟨gb386, 0, none⟩ = some (.int .i64 0) := (zak BK386.out 0).trans rfl; have hcz23_1 : w22.cell? ⟨gb386, 1, none⟩ = some (.int .i64 0) := (zak BK386.out 1).trans rfl; have hcz23_2 : w22.cell? ⟨gb386, 2, none⟩ = some (.int .i64 0) := (zak BK386.out 2).trans rfl; have hcz23_3 : w22.cell? ⟨gb386, 3, none⟩ = some (.bool false) := (zak BK386.out 3).trans rfl; have hfz23_0 := zaf BK386.out 0; have hfz23_1 := zaf BK386.out 1; have hfz23_2 := zaf BK386.out 2; have hfz23_3 := zaf BK386.out 3; have p387 : 0 ≤ (zbp : Int) := of_decide_eq_true (by first | (with_reducible assumption) | assumption); have q387 : zbp < (l2.length : Int) := of_decide_eq_true (by first | (with_reducible assumption) | assumption); obtain ⟨ad387, e387, hx387_0⟩ := Kd.at_bool HR2.out zbp p387 q387; (try rw [← Nbq13.out] at hx387_0); cases e387; have hn387_0 : ad387.block ≠ gb386 := Nat.ne_of_lt (Nat.lt_of_lt_of_le (by have := World.block_lt_of_cell? _ _ hx387_0; first | rwa [add_block] at this | exact this) GW386.out); have hn387_1 : ad387.block ≠ gb386 := Nat.ne_of_lt (Nat.lt_of_lt_of_le (by have := World.block_lt_of_cell? _ _ hx387_0; first | rwa [add_block] at this | exact this) GW386.out); have hn387_2 : ad387.block ≠ gb386 := Nat.ne_of_lt (Nat.lt_of_lt_of_le (by have := World.block_lt_of_cell? _ _ hx387_0; first | rwa [add_block] at this | exact this) GW386.out); have hn387_3 : ad387.block ≠ gb386 := Nat.ne_of_lt (Nat.lt_of_lt_of_le (by have := World.block_lt_of_cell? _ _ hx387_0; first | rwa [add_block] at this | exact this) GW386.out); replace hx387_0 := (HB.out.cell (World.block_lt_of_cell? w _ hx387_0)).trans hx387_0; replace hx387_0 := (cell_far (p := ⟨gb386, 0, none⟩) (by first | (rw [add_block]; exact hn387_0) | (show (Addr.add _ _).block ≠ _; rw [add_block]; exact hn387_0) | exact hn387_0) (.int .i64 ((zaR l1 zbp).f0))).trans hx387_0; replace hx387_0 := (cell_far (p := ⟨gb386, 1, none⟩) (by first | (rw [add_block]; exact hn387_1) | (show (Addr.add _ _).block ≠ _; rw [add_block]; exact hn387_1) | exact hn387_1) (.int .i64 ((zaR l1 zbp).f1))).trans hx387_0; replace hx387_0 := (cell_far (p := ⟨gb386, 2, none⟩) (by first | (rw [add_block]; exact hn387_2) | (show (Addr.add _ _).block ≠ _; rw [add_block]; exact hn387_2) | exact hn387_2) (.int .i64 ((zaR l1 zbp).f2))).trans hx387_0; replace hx387_0 := (cell_far (p := ⟨gb386, 3, none⟩) (by first | (rw [add_block]; exact hn387_3) | (show (Addr.add _ _).block ≠ _; rw [add_block]; exact hn387_3) | exact hn387_3) (.bool ((zaR l1 zbp).f3))).trans hx387_0; clear hn387_0 hn387_1 hn387_2 hn387_3; replace p387 := eq_true p387; replace q387 := eq_true q387))
        go_roundg k1
        case measure => have := HK1.out; omega
        case rel => exact ⟨(x9_1), (wrap64 (zbp + 1)), (by first | rfl | (simp; done) | (simp [*]; done)), H', ⟨by have := HK1.out; omega⟩, ⟨by (with_reducible repeat (first | apply Kd.zao | apply Kd.zan | apply Kd.zav)); exact Kd.za2 (Kd.za4 (p := ⟨gb386, 3, none⟩) (Kd.za4 (p := ⟨gb386, 2, none⟩) (Kd.za4 (p := ⟨gb386, 1, none⟩) (Kd.za4 (p := ⟨gb386, 0, none⟩) (Kd.zaX HO_9.out BK386.out (by decide)) (fun _ hk => hk.2) (.int .i64 ((zaR l1 zbp).f0))) (fun _ hk => hk.2) (.int .i64 ((zaR l1 zbp).f1))) (fun _ hk => hk.2) (.int .i64 ((zaR l1 zbp).f2))) (fun _ hk => hk.2) (.bool ((zaR l1 zbp).f3))) (fun _ hk => trivial)⟩, ⟨by repeat (first | (with_reducible first | exact HB.out | apply zac | apply zaa | apply zad | refine zas ?_ GE386.out) | exact HB.out)⟩⟩
       rw [if_neg c12] at H
       exact absurd H (by simp)
      rw [if_neg c11] at H
      have c11b0 : decide (0 < zbp) = false := decide_eq_false c11
      clear c11; have H' := zab.mk H; clear H
      have p385 : 0 ≤ (zbp : Int) := of_decide_eq_true (by first | (with_reducible assumption) | assumption)
      have q385 : zbp < (l1.length : Int) := of_decide_eq_true (by first | (with_reducible assumption) | assumption)
      obtain ⟨ad385, e385, hx385_0, hx385_1, hx385_2, hx385_3⟩ := at_T110 HR1.out zbp p385 q385
      cases e385
      replace hx385_0 := (HB.out.cell (World.block_lt_of_cell? w _ hx385_0)).trans hx385_0
      replace hx385_1 := (HB.out.cell (World.block_lt_of_cell? w _ hx385_1)).trans hx385_1
      replace hx385_2 := (HB.out.cell (World.block_lt_of_cell? w _ hx385_2)).trans hx385_2
      replace hx385_3 := (HB.out.cell (World.block_lt_of_cell? w _ hx385_3)).trans hx385_3
      replace p385 := eq_true p385
      replace q385 := eq_true q385
      go_wp2_with (first | ((with_reducible refine zbC (N := 11) rfl ?_); refine box_event ?hg (N := 11) ?hd (cs := #[.int .i64 0, .int .i64 0, .int .i64 0, .bool false]) (t := 110) ?hr ?_; (case hd => rfl); (case hg => rfl); (case hr => first | (go_simp; done) | (go_simp; rfl)); intro gb386 hg w24 hbox hb; have n0_ := zab.mk (Kd.zaN (by (with_reducible repeat (first | apply Kd.zao | apply Kd.zan | apply Kd.zav)); exact HO_9.out) hb); have n1_ := zab.mk (zaw (by repeat (first | (with_reducible first | exact HB.out | apply zac | apply zaa | apply zad) | exact HB.out)) hb); have n2_ := zab.mk (hbox); have n3_ := zab.mk ((by rw [hg]; exact (zaC (by repeat (first | (with_reducible first | exact HB.out | apply zac | apply zaa | apply zad) | exact HB.out))) : w.heap.size ≤ gb386)); have n4_ := zab.mk ((by rw [hg]; exact (zaC (by repeat (first | (with_reducible first | exact HB.out | apply zac | apply zaa | apply zad) | exact HB.out))) : w.heap.size ≤ gb386)); clear HO_9 HB; have HO_9 := n0_; have HB := n1_; have BK386 := n2_; have GW386 := n3_; have GE386 := n4_; clear n0_ n1_ n2_ n3_ n4_ hb hbox hg; have hcz25_0 : w24.cell? ⟨gb386, 0, none⟩ = some (.int .i64 0) := (zak BK386.out 0).trans rfl; have hcz25_1 : w24.cell? ⟨gb386, 1, none⟩ = some (.int .i64 0) := (zak BK386.out 1).trans rfl; have hcz25_2 : w24.cell? ⟨gb386, 2, none⟩ = some (.int .i64 0) := (zak BK386.out 2).trans rfl; have hcz25_3 : w24.cell? ⟨gb386, 3, none⟩ = some (.bool false) := (zak BK386.out 3).trans rfl; have hfz25_0 := zaf BK386.out 0; have hfz25_1 := zaf BK386.out 1; have hfz25_2 := zaf BK386.out 2; have hfz25_3 := zaf BK386.out 3))
      go_roundg k1
      case measure => have := HK1.out; omega
      case rel => exact ⟨(x9_1), (wrap64 (zbp + 1)), (by first | rfl | (simp; done) | (simp [*]; done)), H', ⟨by have := HK1.out; omega⟩, ⟨by (with_reducible repeat (first | apply Kd.zao | apply Kd.zan | apply Kd.zav)); exact Kd.za2 (Kd.za4 (p := ⟨gb386, 3, none⟩) (Kd.za4 (p := ⟨gb386, 2, none⟩) (Kd.za4 (p := ⟨gb386, 1, none⟩) (Kd.za4 (p := ⟨gb386, 0, none⟩) (Kd.zaX HO_9.out BK386.out (by decide)) (fun _ hk => hk.2) (.int .i64 ((zaR l1 zbp).f0))) (fun _ hk => hk.2) (.int .i64 ((zaR l1 zbp).f1))) (fun _ hk => hk.2) (.int .i64 ((zaR l1 zbp).f2))) (fun _ hk => hk.2) (.bool ((zaR l1 zbp).f3))) (fun _ hk => trivial)⟩, ⟨by repeat (first | (with_reducible first | exact HB.out | apply zac | apply zaa | apply zad | refine zas ?_ GE386.out) | exact HB.out)⟩⟩
     rw [if_neg c10] at H
     exact absurd H (by simp)
    rw [if_neg c9] at H
    exact absurd H (by simp)
   rw [if_neg c8] at H
   have c8b0 : decide (zbp < (l1.length : Int)) = false := decide_eq_false c8
   clear c8
   by_cases c26 : x9_1.length < 8796093022208
   ·rw [if_pos c26] at H; have LMc26 := zab.mk c26; clear c26
    obtain ⟨y392, hy392⟩ : ∃ y_ : List (S61), y_ = (x9_1 ++ [(⟨(a0.size : Int), true⟩ : S61)]) := ⟨_, rfl⟩
    replace H : (some y392) = some r := by first | (rw [hy392]; with_reducible exact H) | (have H2_ := (Option.bind_some _ _).symm.trans H; rw [hy392]; with_reducible exact H2_) | (have H2_ := (Option.bind_some _ _).symm.trans H; with_reducible exact H2_) | with_reducible exact H | (rw [hy392]; exact H) | exact H
    have Ny392 := zab.mk hy392; clear hy392; obtain rfl := Option.some.inj H
    go_wp2_with (first | ((with_reducible refine zbs (b := .append) (xs := #[.tmp 43, .tmp 47]) rfl ?_); at_builtin; refine Kd.R_append k61 (w0 := w) w.heap.size rfl (.tmp 43) (.tmp 47) 30 61 (.agg #[(.int .i64 0), (.bool false)]) 16 rfl Tryd.underlying30 info61 rfl (by decide) (by omega) u9 x9_1 (⟨(a0.size : Int), true⟩ : S61) [.int .i64 (a0.size : Int), .bool true] (fun _ => True) (fun _ => False) rfl rfl ?aP (fun _ hk => hk.elim) ?aF ?aO ?aB ?aS ?aL ?_; (case aP => exact k61_mkM _ _ _ (⟨(a0.size : Int), true⟩ : S61)); (case aB => exact (by repeat (first | (with_reducible first | exact HB.out | apply zac | apply zaa | apply zad) | exact HB.out))); (case aF => exact (fun _ _ => trivial)); (case aO => exact (by (with_reducible repeat (first | apply Kd.zao | apply Kd.zan | apply Kd.zav)); exact HO_9.out)); (case aS => exact (zaC (by repeat (first | (with_reducible first | exact HB.out | apply zac | apply zaa | apply zad) | exact HB.out)))); (case aL => have := LMc26.out; omega); intro v393 w27 ho hb hg hat; rw [← Ny392.out] at ho; have n0_ := zab.mk (hb); have n1_ := zab.mk (ho); clear HB HO_9; have HB := n0_; have HO394 := n1_; clear n0_ n1_ ho hb hg hat))
    go_ret
    exact ⟨_, by first | rfl | (simp [zam, zal] <;> rfl) | (simp [*, zam, zal] <;> rfl), by (with_reducible repeat (first | apply Kd.zao | apply Kd.zan | apply Kd.zav)); exact HO394.out, by repeat (first | (with_reducible first | exact HB.out | apply zac | apply zaa | apply zad) | exact HB.out)⟩
   rw [if_neg c26] at H
   exact absurd H (by simp)
def zbc.f (k : Nat) (a0 : ByteArray) : Option ((List (S61))) := (impl_long.f a0).bind fun t395 => (if t395 = true then (some ([] : List (S61))) else ((zbM.f k a0).bind fun t396 => ((zbf.f k t396).bind fun t399 => ((impl_lines.f k t399).bind fun bt402 => ((zaU.f k a0 t396 bt402.1 bt402.2.1).bind fun t414 => (some t414))))))
set_option maxHeartbeats 8000000 in
set_option maxRecDepth 100000 in
theorem zbc.calls (k : Nat) (a0 : ByteArray) (r : List (S61)) (w : World) (hG : GT w) (h : zbc.f k a0 = some r) :
  Calls Tryd.prog 18 #[.string a0] w fun e w' => ∃ v0_ : Value, e = .returned (v0_) ∧ Kd.R k61 61 w' w.heap.size (fun _ => True) v0_ r ∧ Below w.heap.size w w' := by
 have HG := zab.mk hG; clear hG
 have HB := zab.mk (Below.refl w.heap.size w)
 have H : ((impl_long.f a0).bind fun t395 => (if t395 = true then (some ([] : List (S61))) else ((zbM.f k a0).bind fun t396 => ((zbf.f k t396).bind fun t399 => ((impl_lines.f k t399).bind fun bt402 => ((zaU.f k a0 t396 bt402.1 bt402.2.1).bind fun t414 => (some t414))))))) = some r := h
 clear h; replace H := Option.bind_eq_some_iff.mp H
 obtain ⟨t395, A20, H⟩ := H
 replace H : (if t395 = true then (some ([] : List (S61))) else ((zbM.f k a0).bind fun t396 => ((zbf.f k t396).bind fun t399 => ((impl_lines.f k t399).bind fun bt402 => ((zaU.f k a0 t396 bt402.1 bt402.2.1).bind fun t414 => (some t414)))))) = some r := H
 have A2 := zab.mk A20; clear A20
 by_cases c3 : t395 = true
 ·subst c3
  replace H : (some ([] : List (S61))) = some r := by rw [if_pos rfl] at H; exact H
  obtain rfl := Option.some.inj H
  go_enter Tryd.func18, Tryd.ntmps18
  go_wp2_with (first | ((with_reducible refine zae (f := 48) rfl ?_); refine zaB (some 9) rfl rfl Tryd.func48 (by kernel_rfl) rfl #[.string a0] rfl (by (try simp only [List.map_toArray, List.map_cons, List.map_nil]); first | done | rfl | (simp only [List.length_drop, List.length_take]; rfl)) ?_; (with_reducible refine (impl_long.calls a0 true _ A2.out).mono ?_); rintro e w' ⟨rfl, ⟨nd, rfl⟩⟩; refine ⟨_, rfl, ?_⟩))
  go_ret
  exact ⟨_, by first | rfl | (simp [zam, zal] <;> rfl) | (simp [*, zam, zal] <;> rfl), by first | exact Kd.R_nil _ _ _ _ _ | exact Kd.N_nil _ _ _ _ _ | exact Kd.V_nil _ _ _ _ _ | exact Kd.Q_nil _ _ _ _ _ | exact Kd.S_nil _ _ _ _ _, by repeat (first | (with_reducible first | exact HB.out | apply zac | apply zaa | apply zad) | exact HB.out)⟩
 replace c3 := Bool.eq_false_iff.mpr c3
 subst c3
 replace H : ((zbM.f k a0).bind fun t396 => ((zbf.f k t396).bind fun t399 => ((impl_lines.f k t399).bind fun bt402 => ((zaU.f k a0 t396 bt402.1 bt402.2.1).bind fun t414 => (some t414))))) = some r := by rw [if_neg (show ¬ (false = true) by decide)] at H; exact H
 replace H := Option.bind_eq_some_iff.mp H
 obtain ⟨t396, A40, H⟩ := H
 replace H : ((zbf.f k t396).bind fun t399 => ((impl_lines.f k t399).bind fun bt402 => ((zaU.f k a0 t396 bt402.1 bt402.2.1).bind fun t414 => (some t414)))) = some r := H
 have A4 := zab.mk A40; clear A40; replace H := Option.bind_eq_some_iff.mp H
 obtain ⟨t399, A50, H⟩ := H
 replace H : ((impl_lines.f k t399).bind fun bt402 => ((zaU.f k a0 t396 bt402.1 bt402.2.1).bind fun t414 => (some t414))) = some r := H
 have A5 := zab.mk A50; clear A50; replace H := Option.bind_eq_some_iff.mp H
 obtain ⟨⟨t402, t403, t404, t405⟩, A60, H⟩ := H
 replace H : ((zaU.f k a0 t396 t402 t403).bind fun t414 => (some t414)) = some r := H
 have A6 := zab.mk A60; clear A60; replace H := Option.bind_eq_some_iff.mp H
 obtain ⟨t414, A70, H⟩ := H
 replace H : (some t414) = some r := H
 have A7 := zab.mk A70; clear A70; obtain rfl := Option.some.inj H
 go_enter Tryd.func18, Tryd.ntmps18
 go_wp2_with (first | ((with_reducible refine zae (f := 48) rfl ?_); refine zaB (some 9) rfl rfl Tryd.func48 (by kernel_rfl) rfl #[.string a0] rfl (by (try simp only [List.map_toArray, List.map_cons, List.map_nil]); first | done | rfl | (simp only [List.length_drop, List.length_take]; rfl)) ?_; (with_reducible refine (impl_long.calls a0 false _ A2.out).mono ?_); rintro e w' ⟨rfl, ⟨nd, rfl⟩⟩; refine ⟨_, rfl, ?_⟩) | ((with_reducible refine zae (f := 62) rfl ?_); refine zaB (some 11) rfl rfl Tryd.func62 (by kernel_rfl) rfl #[.string a0] rfl (by (try simp only [List.map_toArray, List.map_cons, List.map_nil]); first | done | rfl | (simp only [List.length_drop, List.length_take]; rfl)) ?_; (with_reducible refine (zbM.calls k a0 t396 _ ?side1 A4.out).mono ?_); (case side1 => exact GT_below HG.out (by repeat (first | (with_reducible first | exact HB.out | apply zac | apply zaa | apply zad) | exact HB.out))); rintro e w8 ⟨v397, rfl, ho0, hb⟩; refine ⟨_, rfl, ?_⟩; have n0_ := zab.mk (Kd.zbx ho0 (zaC (by repeat (first | (with_reducible first | exact HB.out | apply zac | apply zaa | apply zad) | exact HB.out)))); have n1_ := zab.mk (zaw (by repeat (first | (with_reducible first | exact HB.out | apply zac | apply zaa | apply zad) | exact HB.out)) hb); clear HB; have HO398 := n0_; have HB := n1_; clear n0_ n1_; (try clear hb); (try clear hb2); (try clear hk); (try clear hi); (try clear ho0); obtain ⟨Ao9, co9, eo9⟩ := Kd.zbl HO398.out; subst eo9) | ((with_reducible refine zae (f := 64) rfl ?_); refine zaB (some 14) rfl rfl Tryd.func64 (by kernel_rfl) rfl #[.slice Ao9 t396.length co9] rfl (by (try simp only [List.map_toArray, List.map_cons, List.map_nil]); first | done | rfl | (simp only [List.length_drop, List.length_take]; rfl)) ?_; (with_reducible refine (zbf.calls k _ _ t396 t399 _ ?side1 ?side2 A5.out).mono ?_); (case side1 => repeat (first | exact (Kd.zaz HO398.out).2.2 | (with_reducible refine Kd.C_alloc ?_ _) | (with_reducible refine Kd.C_drewN ?_ _) | (with_reducible refine Kd.C_drew ?_))); (case side2 => exact (Kd.zaz HO398.out).2.1); rintro e w10 ⟨v400, rfl, ho0, hb⟩; refine ⟨_, rfl, ?_⟩; have n0_ := zab.mk (Kd.zaN (by (with_reducible repeat (first | apply Kd.zao | apply Kd.zan | apply Kd.zav)); exact HO398.out) hb); have n1_ := zab.mk (Kd.zbx ho0 (zaC (by repeat (first | (with_reducible first | exact HB.out | apply zac | apply zaa | apply zad) | exact HB.out)))); have n2_ := zab.mk (zaw (by repeat (first | (with_reducible first | exact HB.out | apply zac | apply zaa | apply zad) | exact HB.out)) hb); clear HO398 HB; have HO398 := n0_; have HO401 := n1_; have HB := n2_; clear n0_ n1_ n2_; (try clear hb); (try clear hb2); (try clear hk); (try clear hi); (try clear ho0); obtain ⟨Ao11, co11, eo11⟩ := Kd.zbl HO401.out; subst eo11) | ((with_reducible refine zae (f := 63) rfl ?_); refine zaB (some 15) rfl rfl Tryd.func63 (by kernel_rfl) rfl #[.slice Ao11 t399.length co11] rfl (by (try simp only [List.map_toArray, List.map_cons, List.map_nil]); first | done | rfl | (simp only [List.length_drop, List.length_take]; rfl)) ?_; (with_reducible refine (impl_lines.calls k _ _ t399 t402 t403 t404 t405 _ ?side1 ?side2 A6.out).mono ?_); (case side1 => repeat (first | exact (Kd.zaz HO401.out).2.2 | (with_reducible refine Kd.C_alloc ?_ _) | (with_reducible refine Kd.C_drewN ?_ _) | (with_reducible refine Kd.C_drew ?_))); (case side2 => exact (Kd.zaz HO401.out).2.1); rintro e w12 ⟨v406, v408, v410, v412, rfl, ho0, ho1, ho2, ho3, hb⟩; refine ⟨_, rfl, ?_⟩; have n0_ := zab.mk (Kd.zaN (by (with_reducible repeat (first | apply Kd.zao | apply Kd.zan | apply Kd.zav)); exact HO398.out) hb); have n1_ := zab.mk (Kd.zaN (by (with_reducible repeat (first | apply Kd.zao | apply Kd.zan | apply Kd.zav)); exact HO401.out) hb); have n2_ := zab.mk (Kd.zbx ho0 (zaC (by repeat (first | (with_reducible first | exact HB.out | apply zac | apply zaa | apply zad) | exact HB.out)))); have n3_ := zab.mk (Kd.zbx ho1 (zaC (by repeat (first | (with_reducible first | exact HB.out | apply zac | apply zaa | apply zad) | exact HB.out)))); have n4_ := zab.mk (Kd.zbx ho2 (zaC (by repeat (first | (with_reducible first | exact HB.out | apply zac | apply zaa | apply zad) | exact HB.out)))); have n5_ := zab.mk (Kd.zbx ho3 (zaC (by repeat (first | (with_reducible first | exact HB.out | apply zac | apply zaa | apply zad) | exact HB.out)))); have n6_ := zab.mk (zaw (by repeat (first | (with_reducible first | exact HB.out | apply zac | apply zaa | apply zad) | exact HB.out)) hb); clear HO398 HO401 HB; have HO398 := n0_; have HO401 := n1_; have HO407 := n2_; have HO409 := n3_; have HO411 := n4_; have HO413 := n5_; have HB := n6_; clear n0_ n1_ n2_ n3_ n4_ n5_ n6_; (try clear hb); (try clear hb2); (try clear hk); (try clear hi); (try clear ho0); (try clear ho1); (try clear ho2); (try clear ho3); obtain ⟨Ao13, co13, eo13⟩ := Kd.zbl HO407.out; subst eo13; obtain ⟨Ao14, co14, eo14⟩ := Kd.zbl HO409.out; subst eo14) | ((with_reducible refine zae (f := 65) rfl ?_); refine zaB (some 24) rfl rfl Tryd.func65 (by kernel_rfl) rfl #[.string a0, .slice Ao9 t396.length co9, .slice Ao13 t402.length co13, .slice Ao14 t403.length co14] rfl (by (try simp only [List.map_toArray, List.map_cons, List.map_nil]); first | done | rfl | (simp only [List.length_drop, List.length_take]; rfl)) ?_; (with_reducible refine (zaU.calls k a0 _ _ t396 _ _ t402 _ _ t403 t414 _ ?side1 ?side2 ?side3 ?side4 ?side5 ?side6 A7.out).mono ?_); (case side1 => repeat (first | exact (Kd.zaz HO398.out).2.2 | (with_reducible refine Kd.C_alloc ?_ _) | (with_reducible refine Kd.C_drewN ?_ _) | (with_reducible refine Kd.C_drew ?_))); (case side2 => exact (Kd.zaz HO398.out).2.1); (case side3 => repeat (first | exact (Kd.zaz HO407.out).2.2 | (with_reducible refine Kd.C_alloc ?_ _) | (with_reducible refine Kd.C_drewN ?_ _) | (with_reducible refine Kd.C_drew ?_))); (case side4 => exact (Kd.zaz HO407.out).2.1); (case side5 => repeat (first | exact (Kd.zaz HO409.out).2.2 | (with_reducible refine Kd.C_alloc ?_ _) | (with_reducible refine Kd.C_drewN ?_ _) | (with_reducible refine Kd.C_drew ?_))); (case side6 => exact (Kd.zaz HO409.out).2.1); rintro e w15 ⟨v415, rfl, ho0, hb⟩; refine ⟨_, rfl, ?_⟩; have n0_ := zab.mk (Kd.zaN (by (with_reducible repeat (first | apply Kd.zao | apply Kd.zan | apply Kd.zav)); exact HO398.out) hb); have n1_ := zab.mk (Kd.zaN (by (with_reducible repeat (first | apply Kd.zao | apply Kd.zan | apply Kd.zav)); exact HO401.out) hb); have n2_ := zab.mk (Kd.zaN (by (with_reducible repeat (first | apply Kd.zao | apply Kd.zan | apply Kd.zav)); exact HO407.out) hb); have n3_ := zab.mk (Kd.zaN (by (with_reducible repeat (first | apply Kd.zao | apply Kd.zan | apply Kd.zav)); exact HO409.out) hb); have n4_ := zab.mk (Kd.zaN (by (with_reducible repeat (first | apply Kd.zao | apply Kd.zan | apply Kd.zav)); exact HO411.out) hb); have n5_ := zab.mk (Kd.zaN (by (with_reducible repeat (first | apply Kd.zao | apply Kd.zan | apply Kd.zav)); exact HO413.out) hb); have n6_ := zab.mk (Kd.zbx ho0 (zaC (by repeat (first | (with_reducible first | exact HB.out | apply zac | apply zaa | apply zad) | exact HB.out)))); have n7_ := zab.mk (zaw (by repeat (first | (with_reducible first | exact HB.out | apply zac | apply zaa | apply zad) | exact HB.out)) hb); clear HO398 HO401 HO407 HO409 HO411 HO413 HB; have HO398 := n0_; have HO401 := n1_; have HO407 := n2_; have HO409 := n3_; have HO411 := n4_; have HO413 := n5_; have HO416 := n6_; have HB := n7_; clear n0_ n1_ n2_ n3_ n4_ n5_ n6_ n7_; (try clear hb); (try clear hb2); (try clear hk); (try clear hi); (try clear ho0)))
 go_ret
 exact ⟨_, by first | rfl | (simp [zam, zal] <;> rfl) | (simp [*, zam, zal] <;> rfl), by (with_reducible repeat (first | apply Kd.zao | apply Kd.zan | apply Kd.zav)); exact HO416.out, by repeat (first | (with_reducible first | exact HB.out | apply zac | apply zaa | apply zad) | exact HB.out)⟩
def laws_eqLineCut.f (a0_0 : Int) (a0_1 : Bool) (a1_0 : Int) (a1_1 : Bool) : Option (Bool) := if a0_0 = a1_0 then (if (a0_1 != a1_1) = true then (some false) else (some true)) else (some false)
set_option maxHeartbeats 8000000 in
set_option maxRecDepth 100000 in
theorem laws_eqLineCut.calls (a0_0 : Int) (a0_1 : Bool) (a1_0 : Int) (a1_1 : Bool) (r : Bool) (w : World) (h : laws_eqLineCut.f a0_0 a0_1 a1_0 a1_1 = some r) :
  Calls Tryd.prog 66 #[.agg #[.int .i64 a0_0, .bool a0_1], .agg #[.int .i64 a1_0, .bool a1_1]] w fun e w' => e = .returned (.bool r) ∧ Below w.heap.size w w' := by
 have hu61 := Tryd.underlying61
 have HB := zab.mk (Below.refl w.heap.size w)
 have H : (if a0_0 = a1_0 then (if (a0_1 != a1_1) = true then (some false) else (some true)) else (some false)) = some r := h
 clear h
 by_cases c3 : a0_0 = a1_0
 ·rw [if_pos c3] at H
  have c3b0 : (a0_0 == a1_0) = true := beq_iff_eq.mpr c3
  have c3b1 : (a0_0 != a1_0) = false := bne_eq_false_iff_eq.mpr c3
  clear c3
  by_cases c4 : (a0_1 != a1_1) = true
  ·rw [if_pos c4] at H
   have c4b0 : (a0_1 != a1_1) = true := c4
   (try (have c4b1 : decide (a0_1 = a1_1) = false := by simpa using c4))
   (try (have c4b2 : (a0_1 == a1_1) = false := by simpa using c4))
   (try (have c4b3 : ¬ (a0_1 = a1_1) := by simpa using c4))
   clear c4; obtain rfl := Option.some.inj H
   go_enter Tryd.func66, Tryd.ntmps66
   go_wp2_with (first | ((with_reducible refine zbC (N := 2) rfl ?_); refine box_event ?hg (N := 2) ?hd (cs := #[.int .i64 a0_0, .bool a0_1]) (t := 61) ?hr ?_; (case hd => rfl); (case hg => rfl); (case hr => first | (go_simp; done) | (go_simp; rfl)); intro gb417 hg w5 hbox hb; have n0_ := zab.mk (zaw (by repeat (first | (with_reducible first | exact HB.out | apply zac | apply zaa | apply zad) | exact HB.out)) hb); have n1_ := zab.mk (hbox); have n2_ := zab.mk ((by rw [hg]; exact (zaC (by repeat (first | (with_reducible first | exact HB.out | apply zac | apply zaa | apply zad) | exact HB.out))) : w.heap.size ≤ gb417)); have n3_ := zab.mk ((by rw [hg]; exact (zaC (by repeat (first | (with_reducible first | exact HB.out | apply zac | apply zaa | apply zad) | exact HB.out))) : w.heap.size ≤ gb417)); clear HB; have HB := n0_; have BK417 := n1_; have GW417 := n2_; have GE417 := n3_; clear n0_ n1_ n2_ n3_ hb hbox hg) | ((with_reducible refine zbC (N := 3) rfl ?_); refine box_event ?hg (N := 3) ?hd (cs := #[.int .i64 a1_0, .bool a1_1]) (t := 61) ?hr ?_; (case hd => rfl); (case hg => rfl); (case hr => first | (go_simp; done) | (go_simp; rfl)); intro gb418 hg w6 hbox hb; have n0_ := zab.mk (za8 (g := gb417) (o := .cells #[.int .i64 a0_0, .bool a0_1] 61 (0, 0)) (by (with_reducible repeat (first | refine zar ?_ _ | refine zat ?_ | refine zai ?_ _)); exact BK417.out) hb); have n1_ := zab.mk (zaw (by repeat (first | (with_reducible first | exact HB.out | apply zac | apply zaa | apply zad | refine zas ?_ GE417.out) | exact HB.out)) hb); have n2_ := zab.mk (hbox); have n3_ := zab.mk ((by rw [hg]; exact (zaC (by repeat (first | (with_reducible first | exact HB.out | apply zac | apply zaa | apply zad | refine zas ?_ GE417.out) | exact HB.out))) : w.heap.size ≤ gb418)); have n4_ := zab.mk ((by rw [hg]; exact (zaC (by repeat (first | (with_reducible first | exact HB.out | apply zac | apply zaa | apply zad | refine zas ?_ GE417.out) | exact HB.out))) : w.heap.size ≤ gb418)); have n5_ := zab.mk ((by rw [hg]; exact Nat.ne_of_lt (blk_lt (g := gb417) (o := .cells #[.int .i64 a0_0, .bool a0_1] 61 (0, 0)) (by (with_reducible repeat (first | refine zar ?_ _ | refine zat ?_ | refine zai ?_ _)); exact BK417.out)) : gb417 ≠ gb418)); have n6_ := zab.mk ((by rw [hg]; exact Nat.ne_of_gt (blk_lt (g := gb417) (o := .cells #[.int .i64 a0_0, .bool a0_1] 61 (0, 0)) (by (with_reducible repeat (first | refine zar ?_ _ | refine zat ?_ | refine zai ?_ _)); exact BK417.out)) : gb418 ≠ gb417)); clear BK417 HB; have BK417 := n0_; have HB := n1_; have BK418 := n2_; have GW418 := n3_; have GE418 := n4_; have NB417_418 := n5_; have NB418_417 := n6_; clear n0_ n1_ n2_ n3_ n4_ n5_ n6_ hb hbox hg; have hnb7 := NB417_418.out; have hnc7 := NB418_417.out; have hcz8_0 : w6.cell? ⟨gb417, 0, none⟩ = some (.int .i64 a0_0) := (zak BK417.out 0).trans rfl; have hcz8_1 : w6.cell? ⟨gb417, 1, none⟩ = some (.bool a0_1) := (zak BK417.out 1).trans rfl; have hfz8_0 := zaf BK417.out 0; have hfz8_1 := zaf BK417.out 1; have hcz9_0 : w6.cell? ⟨gb418, 0, none⟩ = some (.int .i64 a1_0) := (zak BK418.out 0).trans rfl; have hcz9_1 : w6.cell? ⟨gb418, 1, none⟩ = some (.bool a1_1) := (zak BK418.out 1).trans rfl; have hfz9_0 := zaf BK418.out 0; have hfz9_1 := zaf BK418.out 1))
   go_ret
   exact ⟨by first | rfl | (simp [zam, zal] <;> rfl) | (simp [*, zam, zal] <;> rfl), by repeat (first | (with_reducible first | exact HB.out | apply zac | apply zaa | apply zad | refine zas ?_ GE417.out | refine zas ?_ GE418.out) | exact HB.out)⟩
  rw [if_neg c4] at H
  have c4b0 : (a0_1 != a1_1) = false := by simpa using c4
  (try (have c4b1 : decide (a0_1 = a1_1) = true := by simpa using c4))
  (try (have c4b2 : (a0_1 == a1_1) = true := by simpa using c4))
  clear c4; obtain rfl := Option.some.inj H
  go_enter Tryd.func66, Tryd.ntmps66
  go_wp2_with (first | ((with_reducible refine zbC (N := 2) rfl ?_); refine box_event ?hg (N := 2) ?hd (cs := #[.int .i64 a0_0, .bool a0_1]) (t := 61) ?hr ?_; (case hd => rfl); (case hg => rfl); (case hr => first | (go_simp; done) | (go_simp; rfl)); intro gb417 hg w10 hbox hb; have n0_ := zab.mk (zaw (by repeat (first | (with_reducible first | exact HB.out | apply zac | apply zaa | apply zad) | exact HB.out)) hb); have n1_ := zab.mk (hbox); have n2_ := zab.mk ((by rw [hg]; exact (zaC (by repeat (first | (with_reducible first | exact HB.out | apply zac | apply zaa | apply zad) | exact HB.out))) : w.heap.size ≤ gb417)); have n3_ := zab.mk ((by rw [hg]; exact (zaC (by repeat (first | (with_reducible first | exact HB.out | apply zac | apply zaa | apply zad) | exact HB.out))) : w.heap.size ≤ gb417)); clear HB; have HB := n0_; have BK417 := n1_; have GW417 := n2_; have GE417 := n3_; clear n0_ n1_ n2_ n3_ hb hbox hg) | ((with_reducible refine zbC (N := 3) rfl ?_); refine box_event ?hg (N := 3) ?hd (cs := #[.int .i64 a1_0, .bool a1_1]) (t := 61) ?hr ?_; (case hd => rfl); (case hg => rfl); (case hr => first | (go_simp; done) | (go_simp; rfl)); intro gb418 hg w11 hbox hb; have n0_ := zab.mk (za8 (g := gb417) (o := .cells #[.int .i64 a0_0, .bool a0_1] 61 (0, 0)) (by (with_reducible repeat (first | refine zar ?_ _ | refine zat ?_ | refine zai ?_ _)); exact BK417.out) hb); have n1_ := zab.mk (zaw (by repeat (first | (with_reducible first | exact HB.out | apply zac | apply zaa | apply zad | refine zas ?_ GE417.out) | exact HB.out)) hb); have n2_ := zab.mk (hbox); have n3_ := zab.mk ((by rw [hg]; exact (zaC (by repeat (first | (with_reducible first | exact HB.out | apply zac | apply zaa | apply zad | refine zas ?_ GE417.out) | exact HB.out))) : w.heap.size ≤ gb418)); have n4_ := zab.mk ((by rw [hg]; exact (zaC (by repeat (first | (with_reducible first | exact HB.out | apply zac | apply zaa | apply zad | refine zas ?_ GE417.out) | exact HB.out))) : w.heap.size ≤ gb418)); have n5_ := zab.mk ((by rw [hg]; exact Nat.ne_of_lt (blk_lt (g := gb417) (o := .cells #[.int .i64 a0_0, .bool a0_1] 61 (0, 0)) (by (with_reducible repeat (first | refine zar ?_ _ | refine zat ?_ | refine zai ?_ _)); exact BK417.out)) : gb417 ≠ gb418)); have n6_ := zab.mk ((by rw [hg]; exact Nat.ne_of_gt (blk_lt (g := gb417) (o := .cells #[.int .i64 a0_0, .bool a0_1] 61 (0, 0)) (by (with_reducible repeat (first | refine zar ?_ _ | refine zat ?_ | refine zai ?_ _)); exact BK417.out)) : gb418 ≠ gb417)); clear BK417 HB; have BK417 := n0_; have HB := n1_; have BK418 := n2_; have GW418 := n3_; have GE418 := n4_; have NB417_418 := n5_; have NB418_417 := n6_; clear n0_ n1_ n2_ n3_ n4_ n5_ n6_ hb hbox hg; have hnb12 := NB417_418.out; have hnc12 := NB418_417.out; have hcz13_0 : w11.cell? ⟨gb417, 0, none⟩ = some (.int .i64 a0_0) := (zak BK417.out 0).trans rfl; have hcz13_1 : w11.cell? ⟨gb417, 1, none⟩ = some (.bool a0_1) := (zak BK417.out 1).trans rfl; have hfz13_0 := zaf BK417.out 0; have hfz13_1 := zaf BK417.out 1; have hcz14_0 : w11.cell? ⟨gb418, 0, none⟩ = some (.int .i64 a1_0) := (zak BK418.out 0).trans rfl; have hcz14_1 : w11.cell? ⟨gb418, 1, none⟩ = some (.bool a1_1) := (zak BK418.out 1).trans rfl; have hfz14_0 := zaf BK418.out 0; have hfz14_1 := zaf BK418.out 1))
  go_ret
  exact ⟨by first | rfl | (simp [zam, zal] <;> rfl) | (simp [*, zam, zal] <;> rfl), by repeat (first | (with_reducible first | exact HB.out | apply zac | apply zaa | apply zad | refine zas ?_ GE417.out | refine zas ?_ GE418.out) | exact HB.out)⟩
 rw [if_neg c3] at H
 have c3b0 : (a0_0 == a1_0) = false := beq_eq_false_iff_ne.mpr c3
 have c3b1 : (a0_0 != a1_0) = true := bne_iff_ne.mpr c3
 obtain rfl := Option.some.inj H
 go_enter Tryd.func66, Tryd.ntmps66
 go_wp2_with (first | ((with_reducible refine zbC (N := 2) rfl ?_); refine box_event ?hg (N := 2) ?hd (cs := #[.int .i64 a0_0, .bool a0_1]) (t := 61) ?hr ?_; (case hd => rfl); (case hg => rfl); (case hr => first | (go_simp; done) | (go_simp; rfl)); intro gb417 hg w15 hbox hb; have n0_ := zab.mk (zaw (by repeat (first | (with_reducible first | exact HB.out | apply zac | apply zaa | apply zad) | exact HB.out)) hb); have n1_ := zab.mk (hbox); have n2_ := zab.mk ((by rw [hg]; exact (zaC (by repeat (first | (with_reducible first | exact HB.out | apply zac | apply zaa | apply zad) | exact HB.out))) : w.heap.size ≤ gb417)); have n3_ := zab.mk ((by rw [hg]; exact (zaC (by repeat (first | (with_reducible first | exact HB.out | apply zac | apply zaa | apply zad) | exact HB.out))) : w.heap.size ≤ gb417)); clear HB; have HB := n0_; have BK417 := n1_; have GW417 := n2_; have GE417 := n3_; clear n0_ n1_ n2_ n3_ hb hbox hg) | ((with_reducible refine zbC (N := 3) rfl ?_); refine box_event ?hg (N := 3) ?hd (cs := #[.int .i64 a1_0, .bool a1_1]) (t := 61) ?hr ?_; (case hd => rfl); (case hg => rfl); (case hr => first | (go_simp; done) | (go_simp; rfl)); intro gb418 hg w16 hbox hb; have n0_ := zab.mk (za8 (g := gb417) (o := .cells #[.int .i64 a0_0, .bool a0_1] 61 (0, 0)) (by (with_reducible repeat (first | refine zar ?_ _ | refine zat ?_ | refine zai ?_ _)); exact BK417.out) hb); have n1_ := zab.mk (zaw (by repeat (first | (with_reducible first | exact HB.out | apply zac | apply zaa | apply zad | refine zas ?_ GE417.out) | exact HB.out)) hb); have n2_ := zab.mk (hbox); have n3_ := zab.mk ((by rw [hg]; exact (zaC (by repeat (first | (with_reducible first | exact HB.out | apply zac | apply zaa | apply zad | refine zas ?_ GE417.out) | exact HB.out))) : w.heap.size ≤ gb418)); have n4_ := zab.mk ((by rw [hg]; exact (zaC (by repeat (first | (with_reducible first | exact HB.out | apply zac | apply zaa | apply zad | refine zas ?_ GE417.out) | exact HB.out))) : w.heap.size ≤ gb418)); have n5_ := zab.mk ((by rw [hg]; exact Nat.ne_of_lt (blk_lt (g := gb417) (o := .cells #[.int .i64 a0_0, .bool a0_1] 61 (0, 0)) (by (with_reducible repeat (first | refine zar ?_ _ | refine zat ?_ | refine zai ?_ _)); exact BK417.out)) : gb417 ≠ gb418)); have n6_ := zab.mk ((by rw [hg]; exact Nat.ne_of_gt (blk_lt (g := gb417) (o := .cells #[.int .i64 a0_0, .bool a0_1] 61 (0, 0)) (by (with_reducible repeat (first | refine zar ?_ _ | refine zat ?_ | refine zai ?_ _)); exact BK417.out)) : gb418 ≠ gb417)); clear BK417 HB; have BK417 := n0_; have HB := n1_; have BK418 := n2_; have GW418 := n3_; have GE418 := n4_; have NB417_418 := n5_; have NB418_417 := n6_; clear n0_ n1_ n2_ n3_ n4_ n5_ n6_ hb hbox hg; have hnb17 := NB417_418.out; have hnc17 := NB418_417.out; have hcz18_0 : w16.cell? ⟨gb417, 0, none⟩ = some (.int .i64 a0_0) := (zak BK417.out 0).trans rfl; have hcz18_1 : w16.cell? ⟨gb417, 1, none⟩ = some (.bool a0_1) := (zak BK417.out 1).trans rfl; have hfz18_0 := zaf BK417.out 0; have hfz18_1 := zaf BK417.out 1; have hcz19_0 : w16.cell? ⟨gb418, 0, none⟩ = some (.int .i64 a1_0) := (zak BK418.out 0).trans rfl; have hcz19_1 : w16.cell? ⟨gb418, 1, none⟩ = some (.bool a1_1) := (zak BK418.out 1).trans rfl; have hfz19_0 := zaf BK418.out 0; have hfz19_1 := zaf BK418.out 1))
 go_ret
 exact ⟨by first | rfl | (simp [zam, zal] <;> rfl) | (simp [*, zam, zal] <;> rfl), by repeat (first | (with_reducible first | exact HB.out | apply zac | apply zaa | apply zad | refine zas ?_ GE417.out | refine zas ?_ GE418.out) | exact HB.out)⟩
end Go.Proofs.YtbppeepihlajoaaDoor.P
