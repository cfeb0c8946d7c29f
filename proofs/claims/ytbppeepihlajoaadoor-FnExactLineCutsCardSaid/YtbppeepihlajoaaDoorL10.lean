/- Written by a program of this session: plain Lean functions for Go functions, and for each the proof that the call comes to what the function says. -/
import Derived.Test.YtbppeepihlajoaaDoorL0
namespace Go.Proofs.YtbppeepihlajoaaDoor.P
open Go.RowKit Go.Proofs.YtbppeepihlajoaaDoorW.PrintWords Go.Proofs.YtbppeepihlajoaaDoorW.PrintLast Go.Proofs.YtbppeepihlajoaaDoorW.PrintMore
attribute [local go_sem] max2_int min2_int max_two min_two max_three min_three max_four min_four
set_option linter.unusedVariables false
set_option linter.unusedSimpArgs false
def zbJ.f (a0 : Int) : Option (Bool) := if a0 = 0 then (some true) else (some (a0 == 9))
set_option maxHeartbeats 8000000 in
set_option maxRecDepth 100000 in
theorem zbJ.calls (a0 : Int) (r : Bool) (w : World) (h : zbJ.f a0 = some r) :
  Calls Tryd.prog 161 #[.int .i64 a0] w fun e w' => e = .returned (.bool r) ∧ zau w w' := by
 have H : (if a0 = 0 then (some true) else (some (a0 == 9))) = some r := h
 clear h
 by_cases c2 : a0 = 0
 ·rw [if_pos c2] at H
  have c2b0 : (a0 == 0) = true := beq_iff_eq.mpr c2
  have c2b1 : (a0 != 0) = false := bne_eq_false_iff_eq.mpr c2
  clear c2; obtain rfl := Option.some.inj H
  go_enter Tryd.func161, Tryd.ntmps161
  go_wp2
  go_ret
  exact ⟨by first | rfl | (simp; done) | (simp [*]; done), by repeat (first | exact zau.refl _ | apply zau.step)⟩
 rw [if_neg c2] at H
 have c2b0 : (a0 == 0) = false := beq_eq_false_iff_ne.mpr c2
 have c2b1 : (a0 != 0) = true := bne_iff_ne.mpr c2
 obtain rfl := Option.some.inj H
 go_enter Tryd.func161, Tryd.ntmps161
 go_wp2
 go_ret
 exact ⟨by first | rfl | (simp; done) | (simp [*]; done), by repeat (first | exact zau.refl _ | apply zau.step)⟩
def zbh.l0 : Nat → Int → List Int → List Int → List Int → List Bool → Option (Int)
 | 0, _, _, _, _, _ => none
 | k + 1, x1, x246000, x246001, x246002, x246003 => if 0 ≤ x1 then (if x1 < (x246003.length : Int) then (if rdOf false x246003 x1 = true then (zbh.l0 k (wrap64 (x1 - 1)) x246000 x246001 x246002 x246003) else (some x1)) else (none)) else (none)
def zbh.f (k : Nat) (l0_0 : List Int) (l0_1 : List Int) (l0_2 : List Int) (l0_3 : List Bool) (a1 : Int) : Option (Int) := zbh.l0 k a1 l0_0 l0_1 l0_2 l0_3
set_option maxHeartbeats 8000000 in
set_option maxRecDepth 100000 in
theorem zbh.calls (k : Nat) (A0_0 : Option Addr) (c0_0 : Nat) (l0_0 : List Int) (A0_1 : Option Addr) (c0_1 : Nat) (l0_1 : List Int) (A0_2 : Option Addr) (c0_2 : Nat) (l0_2 : List Int) (A0_3 : Option Addr) (c0_3 : Nat) (l0_3 : List Bool) (a1 : Int) (r : Int) (w : World) (hr0_0 : Kd.C (Kd.int .i64) w A0_0 l0_0.length l0_0) (hc0_0 : l0_0.length ≤ c0_0) (hr0_1 : Kd.C (Kd.int .i64) w A0_1 l0_1.length l0_1) (hc0_1 : l0_1.length ≤ c0_1) (hr0_2 : Kd.C (Kd.int .i64) w A0_2 l0_2.length l0_2) (hc0_2 : l0_2.length ≤ c0_2) (hr0_3 : Kd.C Kd.bool w A0_3 l0_3.length l0_3) (hc0_3 : l0_3.length ≤ c0_3) (h : zbh.f k l0_0 l0_1 l0_2 l0_3 a1 = some r) :
  Calls Tryd.prog 162 #[.agg #[.slice A0_0 l0_0.length c0_0, .slice A0_1 l0_1.length c0_1, .slice A0_2 l0_2.length c0_2, .slice A0_3 l0_3.length c0_3], .int .i64 a1] w fun e w' => e = .returned (.int .i64 r) ∧ Below w.heap.size w w' := by
 have hu128 := Tryd.underlying128
 have HR0_0 := zab.mk hr0_0; have HC0_0 := zab.mk hc0_0; clear hr0_0 hc0_0; have HR0_1 := zab.mk hr0_1; have HC0_1 := zab.mk hc0_1; clear hr0_1 hc0_1; have HR0_2 := zab.mk hr0_2; have HC0_2 := zab.mk hc0_2; clear hr0_2 hc0_2; have HR0_3 := zab.mk hr0_3; have HC0_3 := zab.mk hc0_3; clear hr0_3 hc0_3
 have HB := zab.mk (Below.refl w.heap.size w)
 have H : (zbh.l0 k a1 l0_0 l0_1 l0_2 l0_3) = some r := h
 clear h; have H' := zab.mk H; clear H
 go_enter Tryd.func162, Tryd.ntmps162
 go_wp2_with (first | ((with_reducible refine zbC (N := 2) rfl ?_); refine box_event ?hg (N := 2) ?hd (cs := #[.slice A0_0 l0_0.length c0_0, .slice A0_1 l0_1.length c0_1, .slice A0_2 l0_2.length c0_2, .slice A0_3 l0_3.length c0_3]) (t := 128) ?hr ?_; (case hd => rfl); (case hg => rfl); (case hr => first | (go_simp; done) | (go_simp; rfl)); intro gb245 hg w3 hbox hb; have n0_ := zab.mk (zaw (by repeat (first | (with_reducible first | exact HB.out | apply zac | apply zaa | apply zad) | exact HB.out)) hb); have n1_ := zab.mk (hbox); have n2_ := zab.mk ((by rw [hg]; exact (zaC (by repeat (first | (with_reducible first | exact HB.out | apply zac | apply zaa | apply zad) | exact HB.out))) : w.heap.size ≤ gb245)); have n3_ := zab.mk ((by rw [hg]; exact (zaC (by repeat (first | (with_reducible first | exact HB.out | apply zac | apply zaa | apply zad) | exact HB.out))) : w.heap.size ≤ gb245)); clear HB; have HB := n0_; have BK245 := n1_; have GW245 := n2_; have GE245 := n3_; clear n0_ n1_ n2_ n3_ hb hbox hg))
 go_loopg [1] k (fun kq v1 w' => ∃ (x1_1 : Int), v1 = .int .i64 x1_1 ∧ zab (zbh.l0 kq x1_1 l0_0 l0_1 l0_2 l0_3 = some r) ∧ zab (kq ≤ k) ∧ zab (w'.heap[gb245]? = some (.cells #[(.slice A0_0 l0_0.length c0_0), (.slice A0_1 l0_1.length c0_1), (.slice A0_2 l0_2.length c0_2), (.slice A0_3 l0_3.length c0_3)] 128 (0, 0))) ∧ zab (Below w.heap.size w w'))
 case atStart => exact ⟨(a1), (by first | rfl | (simp; done) | (simp [*]; done)), H', ⟨Nat.le_refl _⟩, ⟨by (with_reducible repeat (first | refine zar ?_ _ | refine zat ?_ | refine zai ?_ _)); exact BK245.out⟩, ⟨by repeat (first | (with_reducible first | exact HB.out | apply zac | apply zaa | apply zad | refine zas ?_ GE245.out) | exact HB.out)⟩⟩
 case round =>
  clear H'
  obtain ⟨x1_1, rfl, HA, HK1, BK245, HB⟩ := hrel
  cases gk with
  | zero => exact absurd HA.out (by simp [zbh.l0])
  | succ k1 =>
   have H := HA.out; clear HA
   simp only [zbh.l0] at H
   by_cases c4 : 0 ≤ x1_1
   ·rw [if_pos c4] at H
    have c4b0 : decide (0 ≤ x1_1) = true := decide_eq_true c4
    clear c4
    by_cases c5 : x1_1 < (l0_3.length : Int)
    ·rw [if_pos c5] at H
     have c5b0 : decide (x1_1 < (l0_3.length : Int)) = true := decide_eq_true c5
     clear c5
     obtain ⟨bq6, hbq6⟩ : ∃ b_ : Bool, b_ = (rdOf false l0_3 x1_1) := ⟨_, rfl⟩
     replace H : (if bq6 = true then (zbh.l0 k1 (wrap64 (x1_1 - 1)) l0_0 l0_1 l0_2 l0_3) else (some x1_1)) = some r := by rw [← hbq6] at H; exact H
     have Nbq6 := zab.mk hbq6; clear hbq6
     by_cases c7 : bq6 = true
     ·subst c7
      replace H : (zbh.l0 k1 (wrap64 (x1_1 - 1)) l0_0 l0_1 l0_2 l0_3) = some r := by rw [if_pos rfl] at H; exact H
      have H' := zab.mk H; clear H
      have hcz8_0 : wr.cell? ⟨gb245, 0, none⟩ = some (.slice A0_0 l0_0.length c0_0) := (zak BK245.out 0).trans rfl
      have hcz8_1 : wr.cell? ⟨gb245, 1, none⟩ = some (.slice A0_1 l0_1.length c0_1) := (zak BK245.out 1).trans rfl
      have hcz8_2 : wr.cell? ⟨gb245, 2, none⟩ = some (.slice A0_2 l0_2.length c0_2) := (zak BK245.out 2).trans rfl
      have hcz8_3 : wr.cell? ⟨gb245, 3, none⟩ = some (.slice A0_3 l0_3.length c0_3) := (zak BK245.out 3).trans rfl
      have hfz8_0 := zaf BK245.out 0
      have hfz8_1 := zaf BK245.out 1
      have hfz8_2 := zaf BK245.out 2
      have hfz8_3 := zaf BK245.out 3
      have p246 : 0 ≤ (x1_1 : Int) := of_decide_eq_true (by first | (with_reducible assumption) | assumption)
      have q246 : x1_1 < (l0_3.length : Int) := of_decide_eq_true (by first | (with_reducible assumption) | assumption)
      obtain ⟨ad246, e246, hx246_0⟩ := Kd.at_bool HR0_3.out x1_1 p246 q246
      (try rw [← Nbq6.out] at hx246_0)
      cases e246
      replace hx246_0 := (HB.out.cell (World.block_lt_of_cell? w _ hx246_0)).trans hx246_0
      replace p246 := eq_true p246
      replace q246 := eq_true q246
      go_wp2
      go_roundg k1
      case measure => have := HK1.out; omega
      case rel => exact ⟨(wrap64 (x1_1 - 1)), (by first | rfl | (simp; done) | (simp [*]; done)), H', ⟨by have := HK1.out; omega⟩, ⟨by (with_reducible repeat (first | refine zar ?_ _ | refine zat ?_ | refine zai ?_ _)); exact BK245.out⟩, ⟨by repeat (first | (with_reducible first | exact HB.out | apply zac | apply zaa | apply zad | refine zas ?_ GE245.out) | exact HB.out)⟩⟩
     replace c7 := Bool.eq_false_iff.mpr c7
     subst c7
     replace H : (some x1_1) = some r := by rw [if_neg (show ¬ (false = true) by decide)] at H; exact H
     obtain rfl := Option.some.inj H
     have hcz9_0 : wr.cell? ⟨gb245, 0, none⟩ = some (.slice A0_0 l0_0.length c0_0) := (zak BK245.out 0).trans rfl
     have hcz9_1 : wr.cell? ⟨gb245, 1, none⟩ = some (.slice A0_1 l0_1.length c0_1) := (zak BK245.out 1).trans rfl
     have hcz9_2 : wr.cell? ⟨gb245, 2, none⟩ = some (.slice A0_2 l0_2.length c0_2) := (zak BK245.out 2).trans rfl
     have hcz9_3 : wr.cell? ⟨gb245, 3, none⟩ = some (.slice A0_3 l0_3.length c0_3) := (zak BK245.out 3).trans rfl
     have hfz9_0 := zaf BK245.out 0
     have hfz9_1 := zaf BK245.out 1
     have hfz9_2 := zaf BK245.out 2
     have hfz9_3 := zaf BK245.out 3
     have p246 : 0 ≤ (x1_1 : Int) := of_decide_eq_true (by first | (with_reducible assumption) | assumption)
     have q246 : x1_1 < (l0_3.length : Int) := of_decide_eq_true (by first | (with_reducible assumption) | assumption)
     obtain ⟨ad246, e246, hx246_0⟩ := Kd.at_bool HR0_3.out x1_1 p246 q246
     (try rw [← Nbq6.out] at hx246_0)
     cases e246
     replace hx246_0 := (HB.out.cell (World.block_lt_of_cell? w _ hx246_0)).trans hx246_0
     replace p246 := eq_true p246
     replace q246 := eq_true q246
     go_wp2
     go_ret
     exact ⟨by first | rfl | (simp [zam, zal] <;> rfl) | (simp [*, zam, zal] <;> rfl), by repeat (first | (with_reducible first | exact HB.out | apply zac | apply zaa | apply zad | refine zas ?_ GE245.out) | exact HB.out)⟩
    rw [if_neg c5] at H
    exact absurd H (by simp)
   rw [if_neg c4] at H
   exact absurd H (by simp)
def zaQ.l0 : Nat → Int → Int → List Int → List Int → List Int → List Bool → Option (Bool)
 | 0, _, _, _, _, _, _ => none
 | k + 1, x1, x7, x248000, x248001, x248002, x248003 => if x7 ≥ 0 then (if 0 ≤ x7 then (if x7 < (x248002.length : Int) then (if (rd x248002 x7) = 2 then (zaQ.l0 k x1 (wrap64 (x7 - 1)) x248000 x248001 x248002 x248003) else (some ((rd x248002 x7) == x1))) else (none)) else (none)) else (some false)
def zaQ.f (k : Nat) (l0_0 : List Int) (l0_1 : List Int) (l0_2 : List Int) (l0_3 : List Bool) (a1 : Int) (a2 : Int) : Option (Bool) := zaQ.l0 k a1 (wrap64 (a2 - 1)) l0_0 l0_1 l0_2 l0_3
set_option maxHeartbeats 8000000 in
set_option maxRecDepth 100000 in
theorem zaQ.calls (k : Nat) (A0_0 : Option Addr) (c0_0 : Nat) (l0_0 : List Int) (A0_1 : Option Addr) (c0_1 : Nat) (l0_1 : List Int) (A0_2 : Option Addr) (c0_2 : Nat) (l0_2 : List Int) (A0_3 : Option Addr) (c0_3 : Nat) (l0_3 : List Bool) (a1 : Int) (a2 : Int) (r : Bool) (w : World) (hr0_0 : Kd.C (Kd.int .i64) w A0_0 l0_0.length l0_0) (hc0_0 : l0_0.length ≤ c0_0) (hr0_1 : Kd.C (Kd.int .i64) w A0_1 l0_1.length l0_1) (hc0_1 : l0_1.length ≤ c0_1) (hr0_2 : Kd.C (Kd.int .i64) w A0_2 l0_2.length l0_2) (hc0_2 : l0_2.length ≤ c0_2) (hr0_3 : Kd.C Kd.bool w A0_3 l0_3.length l0_3) (hc0_3 : l0_3.length ≤ c0_3) (h : zaQ.f k l0_0 l0_1 l0_2 l0_3 a1 a2 = some r) :
  Calls Tryd.prog 163 #[.agg #[.slice A0_0 l0_0.length c0_0, .slice A0_1 l0_1.length c0_1, .slice A0_2 l0_2.length c0_2, .slice A0_3 l0_3.length c0_3], .int .i64 a1, .int .i64 a2] w fun e w' => e = .returned (.bool r) ∧ Below w.heap.size w w' := by
 have hu128 := Tryd.underlying128
 have HR0_0 := zab.mk hr0_0; have HC0_0 := zab.mk hc0_0; clear hr0_0 hc0_0; have HR0_1 := zab.mk hr0_1; have HC0_1 := zab.mk hc0_1; clear hr0_1 hc0_1; have HR0_2 := zab.mk hr0_2; have HC0_2 := zab.mk hc0_2; clear hr0_2 hc0_2; have HR0_3 := zab.mk hr0_3; have HC0_3 := zab.mk hc0_3; clear hr0_3 hc0_3
 have HB := zab.mk (Below.refl w.heap.size w)
 have H : (zaQ.l0 k a1 (wrap64 (a2 - 1)) l0_0 l0_1 l0_2 l0_3) = some r := h
 clear h; have H' := zab.mk H; clear H
 go_enter Tryd.func163, Tryd.ntmps163
 go_wp2_with (first | ((with_reducible refine zbC (N := 3) rfl ?_); refine box_event ?hg (N := 3) ?hd (cs := #[.slice A0_0 l0_0.length c0_0, .slice A0_1 l0_1.length c0_1, .slice A0_2 l0_2.length c0_2, .slice A0_3 l0_3.length c0_3]) (t := 128) ?hr ?_; (case hd => rfl); (case hg => rfl); (case hr => first | (go_simp; done) | (go_simp; rfl)); intro gb247 hg w4 hbox hb; have n0_ := zab.mk (zaw (by repeat (first | (with_reducible first | exact HB.out | apply zac | apply zaa | apply zad) | exact HB.out)) hb); have n1_ := zab.mk (hbox); have n2_ := zab.mk ((by rw [hg]; exact (zaC (by repeat (first | (with_reducible first | exact HB.out | apply zac | apply zaa | apply zad) | exact HB.out))) : w.heap.size ≤ gb247)); have n3_ := zab.mk ((by rw [hg]; exact (zaC (by repeat (first | (with_reducible first | exact HB.out | apply zac | apply zaa | apply zad) | exact HB.out))) : w.heap.size ≤ gb247)); clear HB; have HB := n0_; have BK247 := n1_; have GW247 := n2_; have GE247 := n3_; clear n0_ n1_ n2_ n3_ hb hbox hg))
 go_loopg [7] k (fun kq v7 w' => ∃ (x7_1 : Int), v7 = .int .i64 x7_1 ∧ zab (zaQ.l0 kq a1 x7_1 l0_0 l0_1 l0_2 l0_3 = some r) ∧ zab (kq ≤ k) ∧ zab (w'.heap[gb247]? = some (.cells #[(.slice A0_0 l0_0.length c0_0), (.slice A0_1 l0_1.length c0_1), (.slice A0_2 l0_2.length c0_2), (.slice A0_3 l0_3.length c0_3)] 128 (0, 0))) ∧ zab (Below w.heap.size w w'))
 case atStart => exact ⟨(wrap64 (a2 - 1)), (by first | rfl | (simp; done) | (simp [*]; done)), H', ⟨Nat.le_refl _⟩, ⟨by (with_reducible repeat (first | refine zar ?_ _ | refine zat ?_ | refine zai ?_ _)); exact BK247.out⟩, ⟨by repeat (first | (with_reducible first | exact HB.out | apply zac | apply zaa | apply zad | refine zas ?_ GE247.out) | exact HB.out)⟩⟩
 case round =>
  clear H'
  obtain ⟨x7_1, rfl, HA, HK1, BK247, HB⟩ := hrel
  cases gk with
  | zero => exact absurd HA.out (by simp [zaQ.l0])
  | succ k1 =>
   have H := HA.out; clear HA
   simp only [zaQ.l0] at H
   by_cases c5 : x7_1 ≥ 0
   ·rw [if_pos c5] at H
    have c5b0 : decide (0 ≤ x7_1) = true := decide_eq_true c5
    clear c5
    by_cases c6 : 0 ≤ x7_1
    ·rw [if_pos c6] at H
     have c6b0 : decide (0 ≤ x7_1) = true := decide_eq_true c6
     clear c6
     by_cases c7 : x7_1 < (l0_2.length : Int)
     ·rw [if_pos c7] at H
      have c7b0 : decide (x7_1 < (l0_2.length : Int)) = true := decide_eq_true c7
      clear c7
      by_cases c8 : (rd l0_2 x7_1) = 2
      ·rw [if_pos c8] at H
       have c8b0 : ((rd l0_2 x7_1) == 2) = true := beq_iff_eq.mpr c8
       have c8b1 : ((rd l0_2 x7_1) != 2) = false := bne_eq_false_iff_eq.mpr c8
       clear c8; have H' := zab.mk H; clear H
       have hcz9_0 : wr.cell? ⟨gb247, 0, none⟩ = some (.slice A0_0 l0_0.length c0_0) := (zak BK247.out 0).trans rfl
       have hcz9_1 : wr.cell? ⟨gb247, 1, none⟩ = some (.slice A0_1 l0_1.length c0_1) := (zak BK247.out 1).trans rfl
       have hcz9_2 : wr.cell? ⟨gb247, 2, none⟩ = some (.slice A0_2 l0_2.length c0_2) := (zak BK247.out 2).trans rfl
       have hcz9_3 : wr.cell? ⟨gb247, 3, none⟩ = some (.slice A0_3 l0_3.length c0_3) := (zak BK247.out 3).trans rfl
       have hfz9_0 := zaf BK247.out 0
       have hfz9_1 := zaf BK247.out 1
       have hfz9_2 := zaf BK247.out 2
       have hfz9_3 := zaf BK247.out 3
       have p248 : 0 ≤ (x7_1 : Int) := of_decide_eq_true (by first | (with_reducible assumption) | assumption)
       have q248 : x7_1 < (l0_2.length : Int) := of_decide_eq_true (by first | (with_reducible assumption) | assumption)
       obtain ⟨ad248, e248, hx248_0⟩ := Kd.zbF HR0_2.out x7_1 p248 q248
       cases e248
       replace hx248_0 := (HB.out.cell (World.block_lt_of_cell? w _ hx248_0)).trans hx248_0
       replace p248 := eq_true p248
       replace q248 := eq_true q248
       go_wp2
       go_roundg k1
       case measure => have := HK1.out; omega
       case rel => exact ⟨(wrap64 (x7_1 - 1)), (by first | rfl | (simp; done) | (simp [*]; done)), H', ⟨by have := HK1.out; omega⟩, ⟨by (with_reducible repeat (first | refine zar ?_ _ | refine zat ?_ | refine zai ?_ _)); exact BK247.out⟩, ⟨by repeat (first | (with_reducible first | exact HB.out | apply zac | apply zaa | apply zad | refine zas ?_ GE247.out) | exact HB.out)⟩⟩
      rw [if_neg c8] at H
      have c8b0 : ((rd l0_2 x7_1) == 2) = false := beq_eq_false_iff_ne.mpr c8
      have c8b1 : ((rd l0_2 x7_1) != 2) = true := bne_iff_ne.mpr c8
      obtain rfl := Option.some.inj H
      have hcz10_0 : wr.cell? ⟨gb247, 0, none⟩ = some (.slice A0_0 l0_0.length c0_0) := (zak BK247.out 0).trans rfl
      have hcz10_1 : wr.cell? ⟨gb247, 1, none⟩ = some (.slice A0_1 l0_1.length c0_1) := (zak BK247.out 1).trans rfl
      have hcz10_2 : wr.cell? ⟨gb247, 2, none⟩ = some (.slice A0_2 l0_2.length c0_2) := (zak BK247.out 2).trans rfl
      have hcz10_3 : wr.cell? ⟨gb247, 3, none⟩ = some (.slice A0_3 l0_3.length c0_3) := (zak BK247.out 3).trans rfl
      have hfz10_0 := zaf BK247.out 0
      have hfz10_1 := zaf BK247.out 1
      have hfz10_2 := zaf BK247.out 2
      have hfz10_3 := zaf BK247.out 3
      have p248 : 0 ≤ (x7_1 : Int) := of_decide_eq_true (by first | (with_reducible assumption) | assumption)
      have q248 : x7_1 < (l0_2.length : Int) := of_decide_eq_true (by first | (with_reducible assumption) | assumption)
      obtain ⟨ad248, e248, hx248_0⟩ := Kd.zbF HR0_2.out x7_1 p248 q248
      cases e248
      replace hx248_0 := (HB.out.cell (World.block_lt_of_cell? w _ hx248_0)).trans hx248_0
      replace p248 := eq_true p248
      replace q248 := eq_true q248
      have p249 : 0 ≤ (x7_1 : Int) := of_decide_eq_true (by first | (with_reducible assumption) | assumption)
      have q249 : x7_1 < (l0_2.length : Int) := of_decide_eq_true (by first | (with_reducible assumption) | assumption)
      obtain ⟨ad249, e249, hx249_0⟩ := Kd.zbF HR0_2.out x7_1 p249 q249
      obtain rfl : ad248 = ad249 := (by injection e249)
      replace hx249_0 := (HB.out.cell (World.block_lt_of_cell? w _ hx249_0)).trans hx249_0
      replace p249 := eq_true p249
      replace q249 := eq_true q249
      go_wp2
      go_ret
      exact ⟨by first | rfl | (simp [zam, zal] <;> rfl) | (simp [*, zam, zal] <;> rfl), by repeat (first | (with_reducible first | exact HB.out | apply zac | apply zaa | apply zad | refine zas ?_ GE247.out) | exact HB.out)⟩
     rw [if_neg c7] at H
     exact absurd H (by simp)
    rw [if_neg c6] at H
    exact absurd H (by simp)
   rw [if_neg c5] at H
   have c5b0 : decide (0 ≤ x7_1) = false := decide_eq_false c5
   clear c5; obtain rfl := Option.some.inj H
   go_wp2
   go_ret
   exact ⟨by first | rfl | (simp [zam, zal] <;> rfl) | (simp [*, zam, zal] <;> rfl), by repeat (first | (with_reducible first | exact HB.out | apply zac | apply zaa | apply zad | refine zas ?_ GE247.out) | exact HB.out)⟩
mutual
def zaL.l0 : Nat → Int → Int → List Int → List Int → List Int → List Bool → Option (Int)
 | 0, _, _, _, _, _, _ => none
 | k + 1, x1, x5, x251000, x251001, x251002, x251003 => if x1 ≥ 0 then (if 0 ≤ x1 then (if x1 < (x251002.length : Int) then (zaL.j1 k x1 x5 ((rd x251002 x1) == 12) x251000 x251001 x251002 x251003) else (none)) else (none)) else (zaL.j1 k x1 x5 false x251000 x251001 x251002 x251003)
def zaL.j1 : Nat → Int → Int → Bool → List Int → List Int → List Int → List Bool → Option (Int)
 | 0, _, _, _, _, _, _, _ => none
 | k + 1, x1, x5, x15, x251000, x251001, x251002, x251003 => if x15 = true then (if 0 ≤ x1 then (if x1 < (x251003.length : Int) then (if rdOf false x251003 x1 = true then (zaL.l0 k (wrap64 (x1 - 1)) x5 x251000 x251001 x251002 x251003) else (zaL.l0 k (wrap64 (x1 - 1)) (wrap64 (x5 + 1)) x251000 x251001 x251002 x251003)) else (none)) else (none)) else (some x5)
end
def zaL.f (k : Nat) (l0_0 : List Int) (l0_1 : List Int) (l0_2 : List Int) (l0_3 : List Bool) (a1 : Int) : Option (Int) := zaL.l0 k a1 0 l0_0 l0_1 l0_2 l0_3
set_option maxHeartbeats 8000000 in
set_option maxRecDepth 100000 in
theorem zaL.calls (k : Nat) (A0_0 : Option Addr) (c0_0 : Nat) (l0_0 : List Int) (A0_1 : Option Addr) (c0_1 : Nat) (l0_1 : List Int) (A0_2 : Option Addr) (c0_2 : Nat) (l0_2 : List Int) (A0_3 : Option Addr) (c0_3 : Nat) (l0_3 : List Bool) (a1 : Int) (r : Int) (w : World) (hr0_0 : Kd.C (Kd.int .i64) w A0_0 l0_0.length l0_0) (hc0_0 : l0_0.length ≤ c0_0) (hr0_1 : Kd.C (Kd.int .i64) w A0_1 l0_1.length l0_1) (hc0_1 : l0_1.length ≤ c0_1) (hr0_2 : Kd.C (Kd.int .i64) w A0_2 l0_2.length l0_2) (hc0_2 : l0_2.length ≤ c0_2) (hr0_3 : Kd.C Kd.bool w A0_3 l0_3.length l0_3) (hc0_3 : l0_3.length ≤ c0_3) (h : zaL.f k l0_0 l0_1 l0_2 l0_3 a1 = some r) :
  Calls Tryd.prog 165 #[.agg #[.slice A0_0 l0_0.length c0_0, .slice A0_1 l0_1.length c0_1, .slice A0_2 l0_2.length c0_2, .slice A0_3 l0_3.length c0_3], .int .i64 a1] w fun e w' => e = .returned (.int .i64 r) ∧ Below w.heap.size w w' := by
 have hu128 := Tryd.underlying128
 have HR0_0 := zab.mk hr0_0; have HC0_0 := zab.mk hc0_0; clear hr0_0 hc0_0; have HR0_1 := zab.mk hr0_1; have HC0_1 := zab.mk hc0_1; clear hr0_1 hc0_1; have HR0_2 := zab.mk hr0_2; have HC0_2 := zab.mk hc0_2; clear hr0_2 hc0_2; have HR0_3 := zab.mk hr0_3; have HC0_3 := zab.mk hc0_3; clear hr0_3 hc0_3
 have HB := zab.mk (Below.refl w.heap.size w)
 have H : (zaL.l0 k a1 0 l0_0 l0_1 l0_2 l0_3) = some r := h
 clear h; have H' := zab.mk H; clear H
 go_enter Tryd.func165, Tryd.ntmps165
 go_wp2_with (first | ((with_reducible refine zbC (N := 2) rfl ?_); refine box_event ?hg (N := 2) ?hd (cs := #[.slice A0_0 l0_0.length c0_0, .slice A0_1 l0_1.length c0_1, .slice A0_2 l0_2.length c0_2, .slice A0_3 l0_3.length c0_3]) (t := 128) ?hr ?_; (case hd => rfl); (case hg => rfl); (case hr => first | (go_simp; done) | (go_simp; rfl)); intro gb250 hg w3 hbox hb; have n0_ := zab.mk (zaw (by repeat (first | (with_reducible first | exact HB.out | apply zac | apply zaa | apply zad) | exact HB.out)) hb); have n1_ := zab.mk (hbox); have n2_ := zab.mk ((by rw [hg]; exact (zaC (by repeat (first | (with_reducible first | exact HB.out | apply zac | apply zaa | apply zad) | exact HB.out))) : w.heap.size ≤ gb250)); have n3_ := zab.mk ((by rw [hg]; exact (zaC (by repeat (first | (with_reducible first | exact HB.out | apply zac | apply zaa | apply zad) | exact HB.out))) : w.heap.size ≤ gb250)); clear HB; have HB := n0_; have BK250 := n1_; have GW250 := n2_; have GE250 := n3_; clear n0_ n1_ n2_ n3_ hb hbox hg))
 go_loopg [1, 5] k (fun kq v1 v5 w' => ∃ (x1_1 : Int) (x5_1 : Int), v1 = .int .i64 x1_1 ∧ v5 = .int .i64 x5_1 ∧ zab (zaL.l0 kq x1_1 x5_1 l0_0 l0_1 l0_2 l0_3 = some r) ∧ zab (kq ≤ k) ∧ zab (w'.heap[gb250]? = some (.cells #[(.slice A0_0 l0_0.length c0_0), (.slice A0_1 l0_1.length c0_1), (.slice A0_2 l0_2.length c0_2), (.slice A0_3 l0_3.length c0_3)] 128 (0, 0))) ∧ zab (Below w.heap.size w w'))
 case atStart => exact ⟨(a1), (0), (by first | rfl | (simp; done) | (simp [*]; done)), (by first | rfl | (simp; done) | (simp [*]; done)), H', ⟨Nat.le_refl _⟩, ⟨by (with_reducible repeat (first | refine zar ?_ _ | refine zat ?_ | refine zai ?_ _)); exact BK250.out⟩, ⟨by repeat (first | (with_reducible first | exact HB.out | apply zac | apply zaa | apply zad | refine zas ?_ GE250.out) | exact HB.out)⟩⟩
 case round =>
  clear H'
  obtain ⟨x1_1, x5_1, rfl, rfl, HA, HK1, BK250, HB⟩ := hrel
  cases gk with
  | zero => exact absurd HA.out (by simp [zaL.l0])
  | succ k1 =>
   have H := HA.out; clear HA
   simp only [zaL.l0] at H
   have HC4 := zab.mk H; clear H
   go_upto_region 2 with (fail)
   go_cut [15] (fun v15 wc => ∃ (kq : Nat) (x15_3 : Bool), v15 = .bool x15_3 ∧ zab (zaL.j1 kq x1_1 x5_1 x15_3 l0_0 l0_1 l0_2 l0_3 = some r) ∧ zab (kq ≤ k1) ∧ zab (wc.heap[gb250]? = some (.cells #[(.slice A0_0 l0_0.length c0_0), (.slice A0_1 l0_1.length c0_1), (.slice A0_2 l0_2.length c0_2), (.slice A0_3 l0_3.length c0_3)] 128 (0, 0))) ∧ zab (Below w.heap.size w wc))
   case first =>
    have H := HC4.out; clear HC4
    by_cases c5 : x1_1 ≥ 0
    ·rw [if_pos c5] at H
     have c5b0 : decide (0 ≤ x1_1) = true := decide_eq_true c5
     clear c5
     (first | rw [c5b0] | rw [c5b1] | (simp only [zbo, i32_w]; rw [c5b0]) | skip)
     by_cases c6 : 0 ≤ x1_1
     ·rw [if_pos c6] at H
      have c6b0 : decide (0 ≤ x1_1) = true := decide_eq_true c6
      clear c6
      by_cases c7 : x1_1 < (l0_2.length : Int)
      ·rw [if_pos c7] at H
       have c7b0 : decide (x1_1 < (l0_2.length : Int)) = true := decide_eq_true c7
       clear c7; have H' := zab.mk H; clear H
       have hcz8_0 : wr.cell? ⟨gb250, 0, none⟩ = some (.slice A0_0 l0_0.length c0_0) := (zak BK250.out 0).trans rfl
       have hcz8_1 : wr.cell? ⟨gb250, 1, none⟩ = some (.slice A0_1 l0_1.length c0_1) := (zak BK250.out 1).trans rfl
       have hcz8_2 : wr.cell? ⟨gb250, 2, none⟩ = some (.slice A0_2 l0_2.length c0_2) := (zak BK250.out 2).trans rfl
       have hcz8_3 : wr.cell? ⟨gb250, 3, none⟩ = some (.slice A0_3 l0_3.length c0_3) := (zak BK250.out 3).trans rfl
       have hfz8_0 := zaf BK250.out 0
       have hfz8_1 := zaf BK250.out 1
       have hfz8_2 := zaf BK250.out 2
       have hfz8_3 := zaf BK250.out 3
       have p251 : 0 ≤ (x1_1 : Int) := of_decide_eq_true (by first | (with_reducible assumption) | assumption)
       have q251 : x1_1 < (l0_2.length : Int) := of_decide_eq_true (by first | (with_reducible assumption) | assumption)
       obtain ⟨ad251, e251, hx251_0⟩ := Kd.zbF HR0_2.out x1_1 p251 q251
       cases e251
       replace hx251_0 := (HB.out.cell (World.block_lt_of_cell? w _ hx251_0)).trans hx251_0
       replace p251 := eq_true p251
       replace q251 := eq_true q251
       go_wp2
       go_meet
       case rel => exact ⟨_, (((rd l0_2 x1_1) == 12)), (by first | rfl | (simp; done) | (simp [*]; done)), H', ⟨by have := HK1.out; first | omega | exact Nat.le_refl _⟩, ⟨by (with_reducible repeat (first | refine zar ?_ _ | refine zat ?_ | refine zai ?_ _)); exact BK250.out⟩, ⟨by repeat (first | (with_reducible first | exact HB.out | apply zac | apply zaa | apply zad | refine zas ?_ GE250.out) | exact HB.out)⟩⟩
      rw [if_neg c7] at H
      exact absurd H (by simp)
     rw [if_neg c6] at H
     exact absurd H (by simp)
    rw [if_neg c5] at H
    have c5b0 : decide (0 ≤ x1_1) = false := decide_eq_false c5
    clear c5
    (first | rw [c5b0] | rw [c5b1] | (simp only [zbo, i32_w]; rw [c5b0]) | skip)
    have H' := zab.mk H; clear H
    go_wp2
    go_meet
    case rel => exact ⟨_, (false), (by first | rfl | (simp; done) | (simp [*]; done)), H', ⟨by have := HK1.out; first | omega | exact Nat.le_refl _⟩, ⟨by (with_reducible repeat (first | refine zar ?_ _ | refine zat ?_ | refine zai ?_ _)); exact BK250.out⟩, ⟨by repeat (first | (with_reducible first | exact HB.out | apply zac | apply zaa | apply zad | refine zas ?_ GE250.out) | exact HB.out)⟩⟩
   case rest =>
    clear HC4
    obtain ⟨kq, x15_3, rfl, HA, HJ3, BK250, HB⟩ := hcut
    cases kq with
    | zero => exact absurd HA.out (by simp [zaL.j1])
    | succ kj3 =>
     have H := HA.out; clear HA
     simp only [zaL.j1] at H
     by_cases c9 : x15_3 = true
     ·subst c9
      replace H : (if 0 ≤ x1_1 then (if x1_1 < (l0_3.length : Int) then (if rdOf false l0_3 x1_1 = true then (zaL.l0 kj3 (wrap64 (x1_1 - 1)) x5_1 l0_0 l0_1 l0_2 l0_3) else (zaL.l0 kj3 (wrap64 (x1_1 - 1)) (wrap64 (x5_1 + 1)) l0_0 l0_1 l0_2 l0_3)) else (none)) else (none)) = some r := by rw [if_pos rfl] at H; exact H
      by_cases c10 : 0 ≤ x1_1
      ·rw [if_pos c10] at H
       have c10b0 : decide (0 ≤ x1_1) = true := decide_eq_true c10
       clear c10
       by_cases c11 : x1_1 < (l0_3.length : Int)
       ·rw [if_pos c11] at H
        have c11b0 : decide (x1_1 < (l0_3.length : Int)) = true := decide_eq_true c11
        clear c11
        obtain ⟨bq12, hbq12⟩ : ∃ b_ : Bool, b_ = (rdOf false l0_3 x1_1) := ⟨_, rfl⟩
        replace H : (if bq12 = true then (zaL.l0 kj3 (wrap64 (x1_1 - 1)) x5_1 l0_0 l0_1 l0_2 l0_3) else (zaL.l0 kj3 (wrap64 (x1_1 - 1)) (wrap64 (x5_1 + 1)) l0_0 l0_1 l0_2 l0_3)) = some r := by rw [← hbq12] at H; exact H
        have Nbq12 := zab.mk hbq12; clear hbq12
        by_cases c13 : bq12 = true
        ·subst c13
         replace H : (zaL.l0 kj3 (wrap64 (x1_1 - 1)) x5_1 l0_0 l0_1 l0_2 l0_3) = some r := by rw [if_pos rfl] at H; exact H
         have H' := zab.mk H; clear H
         have hcz14_0 : wc.cell? ⟨gb250, 0, none⟩ = some (.slice A0_0 l0_0.length c0_0) := (zak BK250.out 0).trans rfl
         have hcz14_1 : wc.cell? ⟨gb250, 1, none⟩ = some (.slice A0_1 l0_1.length c0_1) := (zak BK250.out 1).trans rfl
         have hcz14_2 : wc.cell? ⟨gb250, 2, none⟩ = some (.slice A0_2 l0_2.length c0_2) := (zak BK250.out 2).trans rfl
         have hcz14_3 : wc.cell? ⟨gb250, 3, none⟩ = some (.slice A0_3 l0_3.length c0_3) := (zak BK250.out 3).trans rfl
         have hfz14_0 := zaf BK250.out 0
         have hfz14_1 := zaf BK250.out 1
         have hfz14_2 := zaf BK250.out 2
         have hfz14_3 := zaf BK250.out 3
         have p252 : 0 ≤ (x1_1 : Int) := of_decide_eq_true (by first | (with_reducible assumption) | assumption)
         have q252 : x1_1 < (l0_3.length : Int) := of_decide_eq_true (by first | (with_reducible assumption) | assumption)
         obtain ⟨ad252, e252, hx252_0⟩ := Kd.at_bool HR0_3.out x1_1 p252 q252
         (try rw [← Nbq12.out] at hx252_0)
         cases e252
         replace hx252_0 := (HB.out.cell (World.block_lt_of_cell? w _ hx252_0)).trans hx252_0
         replace p252 := eq_true p252
         replace q252 := eq_true q252
         go_wp2
         go_roundg kj3
         case measure => have := HK1.out; have := HJ3.out; omega
         case rel => exact ⟨(wrap64 (x1_1 - 1)), (x5_1), (by first | rfl | (simp; done) | (simp [*]; done)), (by first | rfl | (simp; done) | (simp [*]; done)), H', ⟨by have := HK1.out; have := HJ3.out; omega⟩, ⟨by (with_reducible repeat (first | refine zar ?_ _ | refine zat ?_ | refine zai ?_ _)); exact BK250.out⟩, ⟨by repeat (first | (with_reducible first | exact HB.out | apply zac | apply zaa | apply zad | refine zas ?_ GE250.out) | exact HB.out)⟩⟩
        replace c13 := Bool.eq_false_iff.mpr c13
        subst c13
        replace H : (zaL.l0 kj3 (wrap64 (x1_1 - 1)) (wrap64 (x5_1 + 1)) l0_0 l0_1 l0_2 l0_3) = some r := by rw [if_neg (show ¬ (false = true) by decide)] at H; exact H
        have H' := zab.mk H; clear H
        have hcz15_0 : wc.cell? ⟨gb250, 0, none⟩ = some (.slice A0_0 l0_0.length c0_0) := (zak BK250.out 0).trans rfl
        have hcz15_1 : wc.cell? ⟨gb250, 1, none⟩ = some (.slice A0_1 l0_1.length c0_1) := (zak BK250.out 1).trans rfl
        have hcz15_2 : wc.cell? ⟨gb250, 2, none⟩ = some (.slice A0_2 l0_2.length c0_2) := (zak BK250.out 2).trans rfl
        have hcz15_3 : wc.cell? ⟨gb250, 3, none⟩ = some (.slice A0_3 l0_3.length c0_3) := (zak BK250.out 3).trans rfl
        have hfz15_0 := zaf BK250.out 0
        have hfz15_1 := zaf BK250.out 1
        have hfz15_2 := zaf BK250.out 2
        have hfz15_3 := zaf BK250.out 3
        have p252 : 0 ≤ (x1_1 : Int) := of_decide_eq_true (by first | (with_reducible assumption) | assumption)
        have q252 : x1_1 < (l0_3.length : Int) := of_decide_eq_true (by first | (with_reducible assumption) | assumption)
        obtain ⟨ad252, e252, hx252_0⟩ := Kd.at_bool HR0_3.out x1_1 p252 q252
        (try rw [← Nbq12.out] at hx252_0)
        cases e252
        replace hx252_0 := (HB.out.cell (World.block_lt_of_cell? w _ hx252_0)).trans hx252_0
        replace p252 := eq_true p252
        replace q252 := eq_true q252
        go_wp2
        go_roundg kj3
        case measure => have := HK1.out; have := HJ3.out; omega
        case rel => exact ⟨(wrap64 (x1_1 - 1)), (wrap64 (x5_1 + 1)), (by first | rfl | (simp; done) | (simp [*]; done)), (by first | rfl | (simp; done) | (simp [*]; done)), H', ⟨by have := HK1.out; have := HJ3.out; omega⟩, ⟨by (with_reducible repeat (first | refine zar ?_ _ | refine zat ?_ | refine zai ?_ _)); exact BK250.out⟩, ⟨by repeat (first | (with_reducible first | exact HB.out | apply zac | apply zaa | apply zad | refine zas ?_ GE250.out) | exact HB.out)⟩⟩
       rw [if_neg c11] at H
       exact absurd H (by simp)
      rw [if_neg c10] at H
      exact absurd H (by simp)
     replace c9 := Bool.eq_false_iff.mpr c9
     subst c9
     replace H : (some x5_1) = some r := by rw [if_neg (show ¬ (false = true) by decide)] at H; exact H
     obtain rfl := Option.some.inj H
     go_wp2
     go_ret
     exact ⟨by first | rfl | (simp [zam, zal] <;> rfl) | (simp [*, zam, zal] <;> rfl), by repeat (first | (with_reducible first | exact HB.out | apply zac | apply zaa | apply zad | refine zas ?_ GE250.out) | exact HB.out)⟩
end Go.Proofs.YtbppeepihlajoaaDoor.P
