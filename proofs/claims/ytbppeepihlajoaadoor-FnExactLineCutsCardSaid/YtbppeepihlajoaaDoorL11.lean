/- Written by a program of this session: plain Lean functions for Go functions, and for each the proof that the call comes to what the function says. -/
import Derived.Test.YtbppeepihlajoaaDoorL0
import Derived.Test.YtbppeepihlajoaaDoorL10
import Derived.Test.YtbppeepihlajoaaDoorL4
namespace Go.Proofs.YtbppeepihlajoaaDoor.P
open Go.RowKit Go.Proofs.YtbppeepihlajoaaDoorW.PrintWords Go.Proofs.YtbppeepihlajoaaDoorW.PrintLast Go.Proofs.YtbppeepihlajoaaDoorW.PrintMore
attribute [local go_sem] max2_int min2_int max_two min_two max_three min_three max_four min_four
set_option linter.unusedVariables false
set_option linter.unusedSimpArgs false
mutual
def zaj.j0 : Nat → Int → Int → Int → Bool → List Int → List Int → List Int → List Bool → Option (Bool)
 | 0, _, _, _, _, _, _, _, _ => none
 | k + 1, x1, x5, x6, x7, zbN, x254001, x254002, x254003 => (zbh.f k zbN x254001 x254002 x254003 (wrap64 (x1 - 1))).bind fun t258 => (if 0 ≤ x1 then (if x1 < (x254003.length : Int) then (if rdOf false x254003 x1 = true then (some false) else (if x6 = 1 then (zaj.j1 k x1 x5 x6 x7 t258 true zbN x254001 x254002 x254003) else (if x6 = 2 then (zaj.j1 k x1 x5 x6 x7 t258 true zbN x254001 x254002 x254003) else (zaj.j1 k x1 x5 x6 x7 t258 (x6 == 4) zbN x254001 x254002 x254003)))) else (none)) else (none))
def zaj.j1 : Nat → Int → Int → Int → Bool → Int → Bool → List Int → List Int → List Int → List Bool → Option (Bool)
 | 0, _, _, _, _, _, _, _, _, _, _ => none
 | k + 1, x1, x5, x6, x7, x8, x36, zbN, x254001, x254002, x254003 => if x36 = true then (some false) else ((zaQ.f k zbN x254001 x254002 x254003 4 x1).bind fun t260 => (if t260 = true then (some true) else (if 0 ≤ (wrap64 (x1 - 1)) then (if (wrap64 (x1 - 1)) < (zbN.length : Int) then (if (rd zbN (wrap64 (x1 - 1))) = 7936 then (zaj.j2 k x1 x5 x6 x7 x8 true zbN x254001 x254002 x254003) else (zaj.j2 k x1 x5 x6 x7 x8 (x5 == 3) zbN x254001 x254002 x254003)) else (none)) else (none))))
def zaj.j2 : Nat → Int → Int → Int → Bool → Int → Bool → List Int → List Int → List Int → List Bool → Option (Bool)
 | 0, _, _, _, _, _, _, _, _, _, _ => none
 | k + 1, x1, x5, x6, x7, x8, x51, zbN, x254001, x254002, x254003 => if x51 = true then (some false) else (if x6 = 3 then (if x5 = 2 then (zaj.j3 k x1 x5 x6 x7 x8 false zbN x254001 x254002 x254003) else (zaj.j3 k x1 x5 x6 x7 x8 (x5 != 5) zbN x254001 x254002 x254003)) else (zaj.j3 k x1 x5 x6 x7 x8 false zbN x254001 x254002 x254003))
def zaj.j3 : Nat → Int → Int → Int → Bool → Int → Bool → List Int → List Int → List Int → List Bool → Option (Bool)
 | 0, _, _, _, _, _, _, _, _, _, _ => none
 | k + 1, x1, x5, x6, x7, x8, x64, zbN, x254001, x254002, x254003 => if x64 = true then (some false) else (if x6 = 7 then (zaj.j4 k x1 x5 x6 x7 x8 true zbN x254001 x254002 x254003) else (if x6 = 13 then (zaj.j4 k x1 x5 x6 x7 x8 true zbN x254001 x254002 x254003) else (if x6 = 5 then (if x5 = 2 then ((zaQ.f k zbN x254001 x254002 x254003 6 x1).bind fun t262 => (zaj.j4 k x1 x5 x6 x7 x8 t262 zbN x254001 x254002 x254003)) else (zaj.j4 k x1 x5 x6 x7 x8 true zbN x254001 x254002 x254003)) else ((zaQ.f k zbN x254001 x254002 x254003 6 x1).bind fun t263 => (zaj.j4 k x1 x5 x6 x7 x8 t263 zbN x254001 x254002 x254003)))))
def zaj.j4 : Nat → Int → Int → Int → Bool → Int → Bool → List Int → List Int → List Int → List Bool → Option (Bool)
 | 0, _, _, _, _, _, _, _, _, _, _ => none
 | k + 1, x1, x5, x6, x7, x8, x75, zbN, x254001, x254002, x254003 => if x75 = true then (some false) else (if x5 = 2 then (some true) else (if x5 = 8 then (zaj.j5 k x1 x5 x6 x7 x8 true zbN x254001 x254002 x254003) else (zaj.j5 k x1 x5 x6 x7 x8 (x6 == 8) zbN x254001 x254002 x254003)))
def zaj.j5 : Nat → Int → Int → Int → Bool → Int → Bool → List Int → List Int → List Int → List Bool → Option (Bool)
 | 0, _, _, _, _, _, _, _, _, _, _ => none
 | k + 1, x1, x5, x6, x7, x8, x98, zbN, x254001, x254002, x254003 => if x98 = true then (some false) else (if x5 = 5 then (some (x6 != 9)) else (if x7 = true then (zaj.j6 k x1 x5 x6 x8 true zbN x254001 x254002 x254003) else (if x5 = 11 then (zaj.j6 k x1 x5 x6 x8 (x6 == 11) zbN x254001 x254002 x254003) else (zaj.j6 k x1 x5 x6 x8 false zbN x254001 x254002 x254003))))
def zaj.j6 : Nat → Int → Int → Int → Int → Bool → List Int → List Int → List Int → List Bool → Option (Bool)
 | 0, _, _, _, _, _, _, _, _, _ => none
 | k + 1, x1, x5, x6, x8, x110, zbN, x254001, x254002, x254003 => if x110 = true then (some false) else (if x6 = 9 then (if 0 ≤ x8 then (if x8 < (zbN.length : Int) then ((za7.f k (rd zbN x8) (⟨#[44, 46]⟩ : ByteArray)).bind fun t265 => (if t265 = true then (if x8 > 0 then (if 0 ≤ (wrap64 (x8 - 1)) then (if (wrap64 (x8 - 1)) < (x254002.length : Int) then (zaj.j7 k x1 x5 x6 ((rd x254002 (wrap64 (x8 - 1))) == 9) zbN x254001 x254002 x254003) else (none)) else (none)) else (zaj.j7 k x1 x5 x6 false zbN x254001 x254002 x254003)) else (zaj.j7 k x1 x5 x6 false zbN x254001 x254002 x254003))) else (none)) else (none)) else (zaj.j7 k x1 x5 x6 false zbN x254001 x254002 x254003))
def zaj.j7 : Nat → Int → Int → Int → Bool → List Int → List Int → List Int → List Bool → Option (Bool)
 | 0, _, _, _, _, _, _, _, _ => none
 | k + 1, x1, x5, x6, x120, zbN, x254001, x254002, x254003 => if x120 = true then (some false) else (if x5 = 12 then (if x6 = 12 then ((zaL.f k zbN x254001 x254002 x254003 (wrap64 (x1 - 1))).bind fun t267 => (some ((Int.tmod t267 2) == 0))) else (some true)) else (some true))
end
def zaj.f (k : Nat) (l0_0 : List Int) (l0_1 : List Int) (l0_2 : List Int) (l0_3 : List Bool) (a1 : Int) : Option (Bool) := if 0 ≤ (wrap64 (a1 - 1)) then (if (wrap64 (a1 - 1)) < (l0_2.length : Int) then (if 0 ≤ a1 then (if a1 < (l0_2.length : Int) then ((zbJ.f (rd l0_2 (wrap64 (a1 - 1)))).bind fun t256 => (if t256 = true then ((zbJ.f (rd l0_2 a1)).bind fun t257 => (zaj.j0 k a1 (rd l0_2 (wrap64 (a1 - 1))) (rd l0_2 a1) t257 l0_0 l0_1 l0_2 l0_3)) else (zaj.j0 k a1 (rd l0_2 (wrap64 (a1 - 1))) (rd l0_2 a1) false l0_0 l0_1 l0_2 l0_3))) else (none)) else (none)) else (none)) else (none)
set_option maxHeartbeats 8000000 in
set_option maxRecDepth 100000 in
theorem zaj.calls (k : Nat) (A0_0 : Option Addr) (c0_0 : Nat) (l0_0 : List Int) (A0_1 : Option Addr) (c0_1 : Nat) (l0_1 : List Int) (A0_2 : Option Addr) (c0_2 : Nat) (l0_2 : List Int) (A0_3 : Option Addr) (c0_3 : Nat) (l0_3 : List Bool) (a1 : Int) (r : Bool) (w : World) (hr0_0 : Kd.C (Kd.int .i64) w A0_0 l0_0.length l0_0) (hc0_0 : l0_0.length ≤ c0_0) (hr0_1 : Kd.C (Kd.int .i64) w A0_1 l0_1.length l0_1) (hc0_1 : l0_1.length ≤ c0_1) (hr0_2 : Kd.C (Kd.int .i64) w A0_2 l0_2.length l0_2) (hc0_2 : l0_2.length ≤ c0_2) (hr0_3 : Kd.C Kd.bool w A0_3 l0_3.length l0_3) (hc0_3 : l0_3.length ≤ c0_3) (h : zaj.f k l0_0 l0_1 l0_2 l0_3 a1 = some r) :
  Calls Tryd.prog 118 #[.agg #[.slice A0_0 l0_0.length c0_0, .slice A0_1 l0_1.length c0_1, .slice A0_2 l0_2.length c0_2, .slice A0_3 l0_3.length c0_3], .int .i64 a1] w fun e w' => e = .returned (.bool r) ∧ Below w.heap.size w w' := by
 have hu128 := Tryd.underlying128
 have HR0_0 := zab.mk hr0_0; have HC0_0 := zab.mk hc0_0; clear hr0_0 hc0_0; have HR0_1 := zab.mk hr0_1; have HC0_1 := zab.mk hc0_1; clear hr0_1 hc0_1; have HR0_2 := zab.mk hr0_2; have HC0_2 := zab.mk hc0_2; clear hr0_2 hc0_2; have HR0_3 := zab.mk hr0_3; have HC0_3 := zab.mk hc0_3; clear hr0_3 hc0_3
 have HB := zab.mk (Below.refl w.heap.size w)
 have H : (if 0 ≤ (wrap64 (a1 - 1)) then (if (wrap64 (a1 - 1)) < (l0_2.length : Int) then (if 0 ≤ a1 then (if a1 < (l0_2.length : Int) then ((zbJ.f (rd l0_2 (wrap64 (a1 - 1)))).bind fun t256 => (if t256 = true then ((zbJ.f (rd l0_2 a1)).bind fun t257 => (zaj.j0 k a1 (rd l0_2 (wrap64 (a1 - 1))) (rd l0_2 a1) t257 l0_0 l0_1 l0_2 l0_3)) else (zaj.j0 k a1 (rd l0_2 (wrap64 (a1 - 1))) (rd l0_2 a1) false l0_0 l0_1 l0_2 l0_3))) else (none)) else (none)) else (none)) else (none)) = some r := h
 clear h
 obtain ⟨ji3, hji3⟩ : ∃ j_ : Int, (wrap64 (a1 - 1)) = j_ := ⟨_, rfl⟩
 replace H : (if 0 ≤ (ji3) then (if (ji3) < (l0_2.length : Int) then (if 0 ≤ a1 then (if a1 < (l0_2.length : Int) then ((zbJ.f (rd l0_2 (ji3))).bind fun t256 => (if t256 = true then ((zbJ.f (rd l0_2 a1)).bind fun t257 => (zaj.j0 k a1 (rd l0_2 (ji3)) (rd l0_2 a1) t257 l0_0 l0_1 l0_2 l0_3)) else (zaj.j0 k a1 (rd l0_2 (ji3)) (rd l0_2 a1) false l0_0 l0_1 l0_2 l0_3))) else (none)) else (none)) else (none)) else (none)) = some r := by first | (rw [hji3] at H; exact H) | (simp only [hji3] at H ⊢; exact H)
 have hji3w : (IntKind.i64.wrap (a1 - 1)) = ji3 := (zbo _).trans hji3
 by_cases c4 : 0 ≤ (ji3)
 ·rw [if_pos c4] at H
  have c4b0 : decide (0 ≤ (ji3)) = true := decide_eq_true c4
  clear c4
  by_cases c5 : (ji3) < (l0_2.length : Int)
  ·rw [if_pos c5] at H
   have c5b0 : decide ((ji3) < (l0_2.length : Int)) = true := decide_eq_true c5
   clear c5
   by_cases c6 : 0 ≤ a1
   ·rw [if_pos c6] at H
    have c6b0 : decide (0 ≤ a1) = true := decide_eq_true c6
    clear c6
    by_cases c7 : a1 < (l0_2.length : Int)
    ·rw [if_pos c7] at H
     have c7b0 : decide (a1 < (l0_2.length : Int)) = true := decide_eq_true c7
     clear c7; have HC8 := zab.mk H; clear H
     go_enter Tryd.func118, Tryd.ntmps118
     go_upto_region 3 with (first | ((with_reducible refine zbC (N := 2) rfl ?_); refine box_event ?hg (N := 2) ?hd (cs := #[.slice A0_0 l0_0.length c0_0, .slice A0_1 l0_1.length c0_1, .slice A0_2 l0_2.length c0_2, .slice A0_3 l0_3.length c0_3]) (t := 128) ?hr ?_; (case hd => rfl); (case hg => rfl); (case hr => first | (go_simp; done) | (go_simp; rfl)); intro zbO hg w9 hbox hb; have n0_ := zab.mk (zaw (by repeat (first | (with_reducible first | exact HB.out | apply zac | apply zaa | apply zad) | exact HB.out)) hb); have n1_ := zab.mk (hbox); have n2_ := zab.mk ((by rw [hg]; exact (zaC (by repeat (first | (with_reducible first | exact HB.out | apply zac | apply zaa | apply zad) | exact HB.out))) : w.heap.size ≤ zbO)); have n3_ := zab.mk ((by rw [hg]; exact (zaC (by repeat (first | (with_reducible first | exact HB.out | apply zac | apply zaa | apply zad) | exact HB.out))) : w.heap.size ≤ zbO)); clear HB; have HB := n0_; have za1 := n1_; have GW253 := n2_; have GE253 := n3_; clear n0_ n1_ n2_ n3_ hb hbox hg; have hcz10_0 : w9.cell? ⟨zbO, 0, none⟩ = some (.slice A0_0 l0_0.length c0_0) := (zak za1.out 0).trans rfl; have hcz10_1 : w9.cell? ⟨zbO, 1, none⟩ = some (.slice A0_1 l0_1.length c0_1) := (zak za1.out 1).trans rfl; have hcz10_2 : w9.cell? ⟨zbO, 2, none⟩ = some (.slice A0_2 l0_2.length c0_2) := (zak za1.out 2).trans rfl; have hcz10_3 : w9.cell? ⟨zbO, 3, none⟩ = some (.slice A0_3 l0_3.length c0_3) := (zak za1.out 3).trans rfl; have hfz10_0 := zaf za1.out 0; have hfz10_1 := zaf za1.out 1; have hfz10_2 := zaf za1.out 2; have hfz10_3 := zaf za1.out 3; have p254 : 0 ≤ ((ji3) : Int) := of_decide_eq_true (by first | (with_reducible assumption) | assumption); have q254 : (ji3) < (l0_2.length : Int) := of_decide_eq_true (by first | (with_reducible assumption) | assumption); obtain ⟨ad254, e254, hx254_0⟩ := Kd.zbF HR0_2.out (ji3) p254 q254; cases e254; replace hx254_0 := (HB.out.cell (World.block_lt_of_cell? w _ hx254_0)).trans hx254_0; replace p254 := eq_true p254; replace q254 := eq_true q254; have p255 : 0 ≤ (a1 : Int) := of_decide_eq_true (by first | (with_reducible assumption) | assumption); have q255 : a1 < (l0_2.length : Int) := of_decide_eq_true (by first | (with_reducible assumption) | assumption); obtain ⟨ad255, e255, hx255_0⟩ := Kd.zbF HR0_2.out a1 p255 q255; obtain rfl : ad254 = ad255 := (by injection e255); replace hx255_0 := (HB.out.cell (World.block_lt_of_cell? w _ hx255_0)).trans hx255_0; replace p255 := eq_true p255; replace q255 := eq_true q255))
     (try simp only [Act.put, List.setIfInBounds_toArray, List.set_cons_zero, List.set_cons_succ])
     go_cut [7] (fun v7 wc => ∃ (kq : Nat) (x7_7 : Bool), v7 = .bool x7_7 ∧ zab (zaj.j0 kq a1 (rd l0_2 (ji3)) (rd l0_2 a1) x7_7 l0_0 l0_1 l0_2 l0_3 = some r) ∧ zab (kq ≤ k) ∧ zab (wc.heap[zbO]? = some (.cells #[(.slice A0_0 l0_0.length c0_0), (.slice A0_1 l0_1.length c0_1), (.slice (some ad254) l0_2.length c0_2), (.slice A0_3 l0_3.length c0_3)] 128 (0, 0))) ∧ zab (Below w.heap.size w wc))
     case first => as_aux_lemma =>
      have H := HC8.out; clear HC8; replace H := Option.bind_eq_some_iff.mp H
      obtain ⟨t256, A110, H⟩ := H
      try rw [hji3] at A110
      replace H : (if t256 = true then ((zbJ.f (rd l0_2 a1)).bind fun t257 => (zaj.j0 k a1 (rd l0_2 (ji3)) (rd l0_2 a1) t257 l0_0 l0_1 l0_2 l0_3)) else (zaj.j0 k a1 (rd l0_2 (ji3)) (rd l0_2 a1) false l0_0 l0_1 l0_2 l0_3)) = some r := H
      have A11 := zab.mk A110; clear A110
      by_cases c12 : t256 = true
      ·subst c12
       replace H : ((zbJ.f (rd l0_2 a1)).bind fun t257 => (zaj.j0 k a1 (rd l0_2 (ji3)) (rd l0_2 a1) t257 l0_0 l0_1 l0_2 l0_3)) = some r := by rw [if_pos rfl] at H; exact H
       replace H := Option.bind_eq_some_iff.mp H
       obtain ⟨t257, A130, H⟩ := H
       try rw [hji3] at A130
       replace H : (zaj.j0 k a1 (rd l0_2 (ji3)) (rd l0_2 a1) t257 l0_0 l0_1 l0_2 l0_3) = some r := H
       have A13 := zab.mk A130; clear A130; have H' := zab.mk H; clear H
       go_wp2_with (first | ((with_reducible refine zae (f := 161) rfl ?_); refine zaB (some 21) rfl rfl Tryd.func161 (by kernel_rfl) rfl #[.int .i64 (rd l0_2 (ji3))] rfl (by (try simp only [List.map_toArray, List.map_cons, List.map_nil]); first | done | (simp only [hji3]; rfl) | rfl | (simp only [List.length_drop, List.length_take]; rfl)) ?_; (with_reducible refine (zbJ.calls (rd l0_2 (ji3)) true _ A11.out).mono ?_); rintro e w' ⟨rfl, ⟨nd, rfl⟩⟩; refine ⟨_, rfl, ?_⟩) | (go_at_call 161; (with_reducible refine (zbJ.calls (rd l0_2 a1) t257 _ A13.out).mono ?_); rintro e w' ⟨rfl, ⟨nd, rfl⟩⟩))
       go_meet
       case rel => exact ⟨_, (t257), (by first | rfl | (simp; done) | (simp [*]; done)), H', ⟨by first | omega | exact Nat.le_refl _⟩, ⟨by (with_reducible repeat (first | refine zar ?_ _ | refine zat ?_ | refine zai ?_ _)); exact za1.out⟩, ⟨by repeat (first | (with_reducible first | exact HB.out | apply zac | apply zaa | apply zad | refine zas ?_ GE253.out) | exact HB.out)⟩⟩
      replace c12 := Bool.eq_false_iff.mpr c12
      subst c12
      replace H : (zaj.j0 k a1 (rd l0_2 (ji3)) (rd l0_2 a1) false l0_0 l0_1 l0_2 l0_3) = some r := by rw [if_neg (show ¬ (false = true) by decide)] at H; exact H
      have H' := zab.mk H; clear H
      go_wp2_with (first | ((with_reducible refine zae (f := 161) rfl ?_); refine zaB (some 21) rfl rfl Tryd.func161 (by kernel_rfl) rfl #[.int .i64 (rd l0_2 (ji3))] rfl (by (try simp only [List.map_toArray, List.map_cons, List.map_nil]); first | done | (simp only [hji3]; rfl) | rfl | (simp only [List.length_drop, List.length_take]; rfl)) ?_; (with_reducible refine (zbJ.calls (rd l0_2 (ji3)) false _ A11.out).mono ?_); rintro e w' ⟨rfl, ⟨nd, rfl⟩⟩; refine ⟨_, rfl, ?_⟩))
      go_meet
      case rel => exact ⟨_, (false), (by first | rfl | (simp; done) | (simp [*]; done)), H', ⟨by first | omega | exact Nat.le_refl _⟩, ⟨by (with_reducible repeat (first | refine zar ?_ _ | refine zat ?_ | refine zai ?_ _)); exact za1.out⟩, ⟨by repeat (first | (with_reducible first | exact HB.out | apply zac | apply zaa | apply zad | refine zas ?_ GE253.out) | exact HB.out)⟩⟩
     case rest => as_aux_lemma =>
      clear HC8
      try clear c4b0
      try clear c5b0
      try clear c6b0
      try clear c7b0
      try clear hcz10_0
      try clear hcz10_1
      try clear hcz10_2
      try clear hcz10_3
      try clear hfz10_0
      try clear hfz10_1
      try clear hfz10_2
      try clear hfz10_3
      try clear hx254_0
      try clear hx255_0
      try clear p254
      try clear p255
      try clear q254
      try clear q255
      obtain ⟨kq, x7_7, rfl, HA, HJ7, za1, HB⟩ := hcut
      cases kq with
      | zero => exact absurd HA.out (by simp [zaj.j0])
      | succ kj7 =>
       have H := HA.out; clear HA
       simp only [zaj.j0] at H
       replace H := Option.bind_eq_some_iff.mp H
       obtain ⟨t258, A140, H⟩ := H
       try rw [hji3] at A140
       replace H : (if 0 ≤ a1 then (if a1 < (l0_3.length : Int) then (if rdOf false l0_3 a1 = true then (some false) else (if (rd l0_2 a1) = 1 then (zaj.j1 kj7 a1 (rd l0_2 (ji3)) (rd l0_2 a1) x7_7 t258 true l0_0 l0_1 l0_2 l0_3) else (if (rd l0_2 a1) = 2 then (zaj.j1 kj7 a1 (rd l0_2 (ji3)) (rd l0_2 a1) x7_7 t258 true l0_0 l0_1 l0_2 l0_3) else (zaj.j1 kj7 a1 (rd l0_2 (ji3)) (rd l0_2 a1) x7_7 t258 ((rd l0_2 a1) == 4) l0_0 l0_1 l0_2 l0_3)))) else (none)) else (none)) = some r := H
       have A14 := zab.mk A140; clear A140
       by_cases c15 : 0 ≤ a1
       ·rw [if_pos c15] at H
        have c15b0 : decide (0 ≤ a1) = true := decide_eq_true c15
        clear c15
        by_cases c16 : a1 < (l0_3.length : Int)
        ·rw [if_pos c16] at H
         have c16b0 : decide (a1 < (l0_3.length : Int)) = true := decide_eq_true c16
         clear c16
         obtain ⟨bq17, hbq17⟩ : ∃ b_ : Bool, b_ = (rdOf false l0_3 a1) := ⟨_, rfl⟩
         replace H : (if bq17 = true then (some false) else (if (rd l0_2 a1) = 1 then (zaj.j1 kj7 a1 (rd l0_2 (ji3)) (rd l0_2 a1) x7_7 t258 true l0_0 l0_1 l0_2 l0_3) else (if (rd l0_2 a1) = 2 then (zaj.j1 kj7 a1 (rd l0_2 (ji3)) (rd l0_2 a1) x7_7 t258 true l0_0 l0_1 l0_2 l0_3) else (zaj.j1 kj7 a1 (rd l0_2 (ji3)) (rd l0_2 a1) x7_7 t258 ((rd l0_2 a1) == 4) l0_0 l0_1 l0_2 l0_3)))) = some r := by rw [← hbq17] at H; exact H
         have Nbq17 := zab.mk hbq17; clear hbq17
         by_cases c18 : bq17 = true
         ·subst c18
          replace H : (some false) = some r := by rw [if_pos rfl] at H; exact H
          obtain rfl := Option.some.inj H
          have hcz19_0 : wc.cell? ⟨zbO, 0, none⟩ = some (.slice A0_0 l0_0.length c0_0) := (zak za1.out 0).trans rfl
          have hcz19_1 : wc.cell? ⟨zbO, 1, none⟩ = some (.slice A0_1 l0_1.length c0_1) := (zak za1.out 1).trans rfl
          have hcz19_2 : wc.cell? ⟨zbO, 2, none⟩ = some (.slice (some ad254) l0_2.length c0_2) := (zak za1.out 2).trans rfl
          have hcz19_3 : wc.cell? ⟨zbO, 3, none⟩ = some (.slice A0_3 l0_3.length c0_3) := (zak za1.out 3).trans rfl
          have hfz19_0 := zaf za1.out 0
          have hfz19_1 := zaf za1.out 1
          have hfz19_2 := zaf za1.out 2
          have hfz19_3 := zaf za1.out 3
          go_wp2_with (first | ((with_reducible refine zae (f := 162) rfl ?_); refine zaB (some 29) rfl rfl Tryd.func162 (by kernel_rfl) rfl #[.agg #[.slice A0_0 l0_0.length c0_0, .slice A0_1 l0_1.length c0_1, .slice (some ad254) l0_2.length c0_2, .slice A0_3 l0_3.length c0_3], .int .i64 ji3] rfl (by (try simp only [List.map_toArray, List.map_cons, List.map_nil]); first | done | rfl | (simp only [List.length_drop, List.length_take]; rfl)) ?_; (with_reducible refine (zbh.calls kj7 _ _ l0_0 _ _ l0_1 _ _ l0_2 _ _ l0_3 ji3 t258 _ ?side1 ?side2 ?side3 ?side4 ?side5 ?side6 ?side7 ?side8 A14.out).mono ?_); (case side1 => repeat (first | exact (Kd.C_below HR0_0.out HB.out) | (with_reducible refine Kd.C_alloc ?_ _) | (with_reducible refine Kd.C_drewN ?_ _) | (with_reducible refine Kd.C_drew ?_))); (case side2 => exact HC0_0.out); (case side3 => repeat (first | exact (Kd.C_below HR0_1.out HB.out) | (with_reducible refine Kd.C_alloc ?_ _) | (with_reducible refine Kd.C_drewN ?_ _) | (with_reducible refine Kd.C_drew ?_))); (case side4 => exact HC0_1.out); (case side5 => repeat (first | exact (Kd.C_below HR0_2.out HB.out) | (with_reducible refine Kd.C_alloc ?_ _) | (with_reducible refine Kd.C_drewN ?_ _) | (with_reducible refine Kd.C_drew ?_))); (case side6 => exact HC0_2.out); (case side7 => repeat (first | exact (Kd.C_below HR0_3.out HB.out) | (with_reducible refine Kd.C_alloc ?_ _) | (with_reducible refine Kd.C_drewN ?_ _) | (with_reducible refine Kd.C_drew ?_))); (case side8 => exact HC0_3.out); rintro e w20 ⟨rfl, hb⟩; refine ⟨_, rfl, ?_⟩; have n0_ := zab.mk (za8 (g := zbO) (o := .cells #[.slice A0_0 l0_0.length c0_0, .slice A0_1 l0_1.length c0_1, .slice (some ad254) l0_2.length c0_2, .slice A0_3 l0_3.length c0_3] 128 (0, 0)) (by (with_reducible repeat (first | refine zar ?_ _ | refine zat ?_ | refine zai ?_ _)); exact za1.out) hb); have n1_ := zab.mk (zaw (by repeat (first | (with_reducible first | exact HB.out | apply zac | apply zaa | apply zad | refine zas ?_ GE253.out) | exact HB.out)) hb); clear za1 HB; have za1 := n0_; have HB := n1_; clear n0_ n1_; (try clear hb); (try clear hb2); (try clear hk); (try clear hi); have hcz21_0 : w20.cell? ⟨zbO, 0, none⟩ = some (.slice A0_0 l0_0.length c0_0) := (zak za1.out 0).trans rfl; have hcz21_1 : w20.cell? ⟨zbO, 1, none⟩ = some (.slice A0_1 l0_1.length c0_1) := (zak za1.out 1).trans rfl; have hcz21_2 : w20.cell? ⟨zbO, 2, none⟩ = some (.slice (some ad254) l0_2.length c0_2) := (zak za1.out 2).trans rfl; have hcz21_3 : w20.cell? ⟨zbO, 3, none⟩ = some (.slice A0_3 l0_3.length c0_3) := (zak za1.out 3).trans rfl; have hfz21_0 := zaf za1.out 0; have hfz21_1 := zaf za1.out 1; have hfz21_2 := zaf za1.out 2; have hfz21_3 := zaf za1.out 3; have p259 : 0 ≤ (a1 : Int) := of_decide_eq_true (by first | (with_reducible assumption) | assumption); have q259 : a1 < (l0_3.length : Int) := of_decide_eq_true (by first | (with_reducible assumption) | assumption); obtain ⟨ad259, e259, hx259_0⟩ := Kd.at_bool HR0_3.out a1 p259 q259; (try rw [← Nbq17.out] at hx259_0); cases e259; replace hx259_0 := (HB.out.cell (World.block_lt_of_cell? w _ hx259_0)).trans hx259_0; replace p259 := eq_true p259; replace q259 := eq_true q259))
          go_ret
          exact ⟨by first | rfl | (simp [zam, zal] <;> rfl) | (simp only [← hji3]; first | rfl | (simp [zam, zal] <;> rfl)) | (simp [*, zam, zal] <;> rfl), by repeat (first | (with_reducible first | exact HB.out | apply zac | apply zaa | apply zad | refine zas ?_ GE253.out) | exact HB.out)⟩
         replace c18 := Bool.eq_false_iff.mpr c18
         subst c18
         replace H : (if (rd l0_2 a1) = 1 then (zaj.j1 kj7 a1 (rd l0_2 (ji3)) (rd l0_2 a1) x7_7 t258 true l0_0 l0_1 l0_2 l0_3) else (if (rd l0_2 a1) = 2 then (zaj.j1 kj7 a1 (rd l0_2 (ji3)) (rd l0_2 a1) x7_7 t258 true l0_0 l0_1 l0_2 l0_3) else (zaj.j1 kj7 a1 (rd l0_2 (ji3)) (rd l0_2 a1) x7_7 t258 ((rd l0_2 a1) == 4) l0_0 l0_1 l0_2 l0_3))) = some r := by rw [if_neg (show ¬ (false = true) by decide)] at H; exact H
         have HC22 := zab.mk H; clear H
         have hcz23_0 : wc.cell? ⟨zbO, 0, none⟩ = some (.slice A0_0 l0_0.length c0_0) := (zak za1.out 0).trans rfl
         have hcz23_1 : wc.cell? ⟨zbO, 1, none⟩ = some (.slice A0_1 l0_1.length c0_1) := (zak za1.out 1).trans rfl
         have hcz23_2 : wc.cell? ⟨zbO, 2, none⟩ = some (.slice (some ad254) l0_2.length c0_2) := (zak za1.out 2).trans rfl
         have hcz23_3 : wc.cell? ⟨zbO, 3, none⟩ = some (.slice A0_3 l0_3.length c0_3) := (zak za1.out 3).trans rfl
         have hfz23_0 := zaf za1.out 0
         have hfz23_1 := zaf za1.out 1
         have hfz23_2 := zaf za1.out 2
         have hfz23_3 := zaf za1.out 3
         go_upto_region 7 with (first | ((with_reducible refine zae (f := 162) rfl ?_); refine zaB (some 29) rfl rfl Tryd.func162 (by kernel_rfl) rfl #[.agg #[.slice A0_0 l0_0.length c0_0, .slice A0_1 l0_1.length c0_1, .slice (some ad254) l0_2.length c0_2, .slice A0_3 l0_3.length c0_3], .int .i64 ji3] rfl (by (try simp only [List.map_toArray, List.map_cons, List.map_nil]); first | done | rfl | (simp only [List.length_drop, List.length_take]; rfl)) ?_; (with_reducible refine (zbh.calls kj7 _ _ l0_0 _ _ l0_1 _ _ l0_2 _ _ l0_3 ji3 t258 _ ?side1 ?side2 ?side3 ?side4 ?side5 ?side6 ?side7 ?side8 A14.out).mono ?_); (case side1 => repeat (first | exact (Kd.C_below HR0_0.out HB.out) | (with_reducible refine Kd.C_alloc ?_ _) | (with_reducible refine Kd.C_drewN ?_ _) | (with_reducible refine Kd.C_drew ?_))); (case side2 => exact HC0_0.out); (case side3 => repeat (first | exact (Kd.C_below HR0_1.out HB.out) | (with_reducible refine Kd.C_alloc ?_ _) | (with_reducible refine Kd.C_drewN ?_ _) | (with_reducible refine Kd.C_drew ?_))); (case side4 => exact HC0_1.out); (case side5 => repeat (first | exact (Kd.C_below HR0_2.out HB.out) | (with_reducible refine Kd.C_alloc ?_ _) | (with_reducible refine Kd.C_drewN ?_ _) | (with_reducible refine Kd.C_drew ?_))); (case side6 => exact HC0_2.out); (case side7 => repeat (first | exact (Kd.C_below HR0_3.out HB.out) | (with_reducible refine Kd.C_alloc ?_ _) | (with_reducible refine Kd.C_drewN ?_ _) | (with_reducible refine Kd.C_drew ?_))); (case side8 => exact HC0_3.out); rintro e w24 ⟨rfl, hb⟩; refine ⟨_, rfl, ?_⟩; have n0_ := zab.mk (za8 (g := zbO) (o := .cells #[.slice A0_0 l0_0.length c0_0, .slice A0_1 l0_1.length c0_1, .slice (some ad254) l0_2.length c0_2, .slice A0_3 l0_3.length c0_3] 128 (0, 0)) (by (with_reducible repeat (first | refine zar ?_ _ | refine zat ?_ | refine zai ?_ _)); exact za1.out) hb); have n1_ := zab.mk (zaw (by repeat (first | (with_reducible first | exact HB.out | apply zac | apply zaa | apply zad | refine zas ?_ GE253.out) | exact HB.out)) hb); clear za1 HB; have za1 := n0_; have HB := n1_; clear n0_ n1_; (try clear hb); (try clear hb2); (try clear hk); (try clear hi); have hcz25_0 : w24.cell? ⟨zbO, 0, none⟩ = some (.slice A0_0 l0_0.length c0_0) := (zak za1.out 0).trans rfl; have hcz25_1 : w24.cell? ⟨zbO, 1, none⟩ = some (.slice A0_1 l0_1.length c0_1) := (zak za1.out 1).trans rfl; have hcz25_2 : w24.cell? ⟨zbO, 2, none⟩ = some (.slice (some ad254) l0_2.length c0_2) := (zak za1.out 2).trans rfl; have hcz25_3 : w24.cell? ⟨zbO, 3, none⟩ = some (.slice A0_3 l0_3.length c0_3) := (zak za1.out 3).trans rfl; have hfz25_0 := zaf za1.out 0; have hfz25_1 := zaf za1.out 1; have hfz25_2 := zaf za1.out 2; have hfz25_3 := zaf za1.out 3; have p259 : 0 ≤ (a1 : Int) := of_decide_eq_true (by first | (with_reducible assumption) | assumption); have q259 : a1 < (l0_3.length : Int) := of_decide_eq_true (by first | (with_reducible assumption) | assumption); obtain ⟨ad259, e259, hx259_0⟩ := Kd.at_bool HR0_3.out a1 p259 q259; (try rw [← Nbq17.out] at hx259_0); cases e259; replace hx259_0 := (HB.out.cell (World.block_lt_of_cell? w _ hx259_0)).trans hx259_0; replace p259 := eq_true p259; replace q259 := eq_true q259))
         (try simp only [Act.put, List.setIfInBounds_toArray, List.set_cons_zero, List.set_cons_succ])
         go_cut [36] (fun v36 wc => ∃ (kq : Nat) (x36_21 : Bool), v36 = .bool x36_21 ∧ zab (zaj.j1 kq a1 (rd l0_2 (ji3)) (rd l0_2 a1) x7_7 t258 x36_21 l0_0 l0_1 l0_2 l0_3 = some r) ∧ zab (kq ≤ kj7) ∧ zab (wc.heap[zbO]? = some (.cells #[(.slice A0_0 l0_0.length c0_0), (.slice A0_1 l0_1.length c0_1), (.slice (some ad254) l0_2.length c0_2), (.slice (some ad259) l0_3.length c0_3)] 128 (0, 0))) ∧ zab (Below w.heap.size w wc))
         case first => as_aux_lemma =>
          have H := HC22.out; clear HC22
          by_cases c26 : (rd l0_2 a1) = 1
          ·rw [if_pos c26] at H
           have c26b0 : ((rd l0_2 a1) == 1) = true := beq_iff_eq.mpr c26
           have c26b1 : ((rd l0_2 a1) != 1) = false := bne_eq_false_iff_eq.mpr c26
           clear c26
           (first | rw [c26b0] | rw [c26b1] | (simp only [zbo, i32_w]; rw [c26b0]) | skip)
           have H' := zab.mk H; clear H
           go_wp2
           go_meet
           case rel => exact ⟨_, (true), (by first | rfl | (simp; done) | (simp [*]; done)), H', ⟨by have := HJ7.out; first | omega | exact Nat.le_refl _⟩, ⟨by (with_reducible repeat (first | refine zar ?_ _ | refine zat ?_ | refine zai ?_ _)); exact za1.out⟩, ⟨by repeat (first | (with_reducible first | exact HB.out | apply zac | apply zaa | apply zad | refine zas ?_ GE253.out) | exact HB.out)⟩⟩
          rw [if_neg c26] at H
          have c26b0 : ((rd l0_2 a1) == 1) = false := beq_eq_false_iff_ne.mpr c26
          have c26b1 : ((rd l0_2 a1) != 1) = true := bne_iff_ne.mpr c26
          (first | rw [c26b0] | rw [c26b1] | (simp only [zbo, i32_w]; rw [c26b0]) | skip)
          by_cases c27 : (rd l0_2 a1) = 2
          ·rw [if_pos c27] at H
           have c27b0 : ((rd l0_2 a1) == 2) = true := beq_iff_eq.mpr c27
           have c27b1 : ((rd l0_2 a1) != 2) = false := bne_eq_false_iff_eq.mpr c27
           clear c27; have H' := zab.mk H; clear H
           go_wp2
           go_meet
           case rel => exact ⟨_, (true), (by first | rfl | (simp; done) | (simp [*]; done)), H', ⟨by have := HJ7.out; first | omega | exact Nat.le_refl _⟩, ⟨by (with_reducible repeat (first | refine zar ?_ _ | refine zat ?_ | refine zai ?_ _)); exact za1.out⟩, ⟨by repeat (first | (with_reducible first | exact HB.out | apply zac | apply zaa | apply zad | refine zas ?_ GE253.out) | exact HB.out)⟩⟩
          rw [if_neg c27] at H
          have c27b0 : ((rd l0_2 a1) == 2) = false := beq_eq_false_iff_ne.mpr c27
          have c27b1 : ((rd l0_2 a1) != 2) = true := bne_iff_ne.mpr c27
          have H' := zab.mk H; clear H
          go_wp2
          go_meet
          case rel => exact ⟨_, (((rd l0_2 a1) == 4)), (by first | rfl | (simp; done) | (simp [*]; done)), H', ⟨by have := HJ7.out; first | omega | exact Nat.le_refl _⟩, ⟨by (with_reducible repeat (first | refine zar ?_ _ | refine zat ?_ | refine zai ?_ _)); exact za1.out⟩, ⟨by repeat (first | (with_reducible first | exact HB.out | apply zac | apply zaa | apply zad | refine zas ?_ GE253.out) | exact HB.out)⟩⟩
         case rest => as_aux_lemma =>
          clear HC22
          try clear c4b0
          try clear c5b0
          try clear c6b0
          try clear c7b0
          try clear c15b0
          try clear c16b0
          try clear c18
          try clear hcz10_0
          try clear hcz10_1
          try clear hcz10_2
          try clear hcz10_3
          try clear hcz23_0
          try clear hcz23_1
          try clear hcz23_2
          try clear hcz23_3
          try clear hcz25_0
          try clear hcz25_1
          try clear hcz25_2
          try clear hcz25_3
          try clear hfz10_0
          try clear hfz10_1
          try clear hfz10_2
          try clear hfz10_3
          try clear hfz23_0
          try clear hfz23_1
          try clear hfz23_2
          try clear hfz23_3
          try clear hfz25_0
          try clear hfz25_1
          try clear hfz25_2
          try clear hfz25_3
          try clear hx254_0
          try clear hx255_0
          try clear hx259_0
          try clear p254
          try clear p255
          try clear p259
          try clear q254
          try clear q255
          try clear q259
          obtain ⟨kq, x36_21, rfl, HA, HJ21, za1, HB⟩ := hcut
          cases kq with
          | zero => exact absurd HA.out (by simp [zaj.j1])
          | succ kj21 =>
           have H := HA.out; clear HA
           simp only [zaj.j1] at H
           by_cases c28 : x36_21 = true
           ·subst c28
            replace H : (some false) = some r := by rw [if_pos rfl] at H; exact H
            obtain rfl := Option.some.inj H
            go_wp2
            go_ret
            exact ⟨by first | rfl | (simp [zam, zal] <;> rfl) | (simp only [← hji3]; first | rfl | (simp [zam, zal] <;> rfl)) | (simp [*, zam, zal] <;> rfl), by repeat (first | (with_reducible first | exact HB.out | apply zac | apply zaa | apply zad | refine zas ?_ GE253.out) | exact HB.out)⟩
           replace c28 := Bool.eq_false_iff.mpr c28
           subst c28
           replace H : ((zaQ.f kj21 l0_0 l0_1 l0_2 l0_3 4 a1).bind fun t260 => (if t260 = true then (some true) else (if 0 ≤ (wrap64 (a1 - 1)) then (if (wrap64 (a1 - 1)) < (l0_0.length : Int) then (if (rd l0_0 (wrap64 (a1 - 1))) = 7936 then (zaj.j2 kj21 a1 (rd l0_2 (ji3)) (rd l0_2 a1) x7_7 t258 true l0_0 l0_1 l0_2 l0_3) else (zaj.j2 kj21 a1 (rd l0_2 (ji3)) (rd l0_2 a1) x7_7 t258 ((rd l0_2 (ji3)) == 3) l0_0 l0_1 l0_2 l0_3)) else (none)) else (none)))) = some r := by rw [if_neg (show ¬ (false = true) by decide)] at H; exact H
           replace H := Option.bind_eq_some_iff.mp H
           obtain ⟨t260, A290, H⟩ := H
           try rw [hji3] at A290
           replace H : (if t260 = true then (some true) else (if 0 ≤ (wrap64 (a1 - 1)) then (if (wrap64 (a1 - 1)) < (l0_0.length : Int) then (if (rd l0_0 (wrap64 (a1 - 1))) = 7936 then (zaj.j2 kj21 a1 (rd l0_2 (ji3)) (rd l0_2 a1) x7_7 t258 true l0_0 l0_1 l0_2 l0_3) else (zaj.j2 kj21 a1 (rd l0_2 (ji3)) (rd l0_2 a1) x7_7 t258 ((rd l0_2 (ji3)) == 3) l0_0 l0_1 l0_2 l0_3)) else (none)) else (none))) = some r := H
           have A29 := zab.mk A290; clear A290
           by_cases c30 : t260 = true
           ·subst c30
            replace H : (some true) = some r := by rw [if_pos rfl] at H; exact H
            obtain rfl := Option.some.inj H
            have hcz31_0 : wc.cell? ⟨zbO, 0, none⟩ = some (.slice A0_0 l0_0.length c0_0) := (zak za1.out 0).trans rfl
            have hcz31_1 : wc.cell? ⟨zbO, 1, none⟩ = some (.slice A0_1 l0_1.length c0_1) := (zak za1.out 1).trans rfl
            have hcz31_2 : wc.cell? ⟨zbO, 2, none⟩ = some (.slice (some ad254) l0_2.length c0_2) := (zak za1.out 2).trans rfl
            have hcz31_3 : wc.cell? ⟨zbO, 3, none⟩ = some (.slice (some ad259) l0_3.length c0_3) := (zak za1.out 3).trans rfl
            have hfz31_0 := zaf za1.out 0
            have hfz31_1 := zaf za1.out 1
            have hfz31_2 := zaf za1.out 2
            have hfz31_3 := zaf za1.out 3
            go_wp2_with (first | ((with_reducible refine zae (f := 163) rfl ?_); refine zaB (some 50) rfl rfl Tryd.func163 (by kernel_rfl) rfl #[.agg #[.slice A0_0 l0_0.length c0_0, .slice A0_1 l0_1.length c0_1, .slice (some ad254) l0_2.length c0_2, .slice (some ad259) l0_3.length c0_3], .int .i64 4, .int .i64 a1] rfl (by (try simp only [List.map_toArray, List.map_cons, List.map_nil]); first | done | rfl | (simp only [List.length_drop, List.length_take]; rfl)) ?_; (with_reducible refine (zaQ.calls kj21 _ _ l0_0 _ _ l0_1 _ _ l0_2 _ _ l0_3 4 a1 true _ ?side1 ?side2 ?side3 ?side4 ?side5 ?side6 ?side7 ?side8 A29.out).mono ?_); (case side1 => repeat (first | exact (Kd.C_below HR0_0.out HB.out) | (with_reducible refine Kd.C_alloc ?_ _) | (with_reducible refine Kd.C_drewN ?_ _) | (with_reducible refine Kd.C_drew ?_))); (case side2 => exact HC0_0.out); (case side3 => repeat (first | exact (Kd.C_below HR0_1.out HB.out) | (with_reducible refine Kd.C_alloc ?_ _) | (with_reducible refine Kd.C_drewN ?_ _) | (with_reducible refine Kd.C_drew ?_))); (case side4 => exact HC0_1.out); (case side5 => repeat (first | exact (Kd.C_below HR0_2.out HB.out) | (with_reducible refine Kd.C_alloc ?_ _) | (with_reducible refine Kd.C_drewN ?_ _) | (with_reducible refine Kd.C_drew ?_))); (case side6 => exact HC0_2.out); (case side7 => repeat (first | exact (Kd.C_below HR0_3.out HB.out) | (with_reducible refine Kd.C_alloc ?_ _) | (with_reducible refine Kd.C_drewN ?_ _) | (with_reducible refine Kd.C_drew ?_))); (case side8 => exact HC0_3.out); rintro e w32 ⟨rfl, hb⟩; refine ⟨_, rfl, ?_⟩; have n0_ := zab.mk (za8 (g := zbO) (o := .cells #[.slice A0_0 l0_0.length c0_0, .slice A0_1 l0_1.length c0_1, .slice (some ad254) l0_2.length c0_2, .slice (some ad259) l0_3.length c0_3] 128 (0, 0)) (by (with_reducible repeat (first | refine zar ?_ _ | refine zat ?_ | refine zai ?_ _)); exact za1.out) hb); have n1_ := zab.mk (zaw (by repeat (first | (with_reducible first | exact HB.out | apply zac | apply zaa | apply zad | refine zas ?_ GE253.out) | exact HB.out)) hb); clear za1 HB; have za1 := n0_; have HB := n1_; clear n0_ n1_; (try clear hb); (try clear hb2); (try clear hk); (try clear hi)))
            go_ret
            exact ⟨by first | rfl | (simp [zam, zal] <;> rfl) | (simp only [← hji3]; first | rfl | (simp [zam, zal] <;> rfl)) | (simp [*, zam, zal] <;> rfl), by repeat (first | (with_reducible first | exact HB.out | apply zac | apply zaa | apply zad | refine zas ?_ GE253.out) | exact HB.out)⟩
           replace c30 := Bool.eq_false_iff.mpr c30
           subst c30
           replace H : (if 0 ≤ (wrap64 (a1 - 1)) then (if (wrap64 (a1 - 1)) < (l0_0.length : Int) then (if (rd l0_0 (wrap64 (a1 - 1))) = 7936 then (zaj.j2 kj21 a1 (rd l0_2 (ji3)) (rd l0_2 a1) x7_7 t258 true l0_0 l0_1 l0_2 l0_3) else (zaj.j2 kj21 a1 (rd l0_2 (ji3)) (rd l0_2 a1) x7_7 t258 ((rd l0_2 (ji3)) == 3) l0_0 l0_1 l0_2 l0_3)) else (none)) else (none)) = some r := by rw [if_neg (show ¬ (false = true) by decide)] at H; exact H
           have HC33 := zab.mk H; clear H
           have hcz34_0 : wc.cell? ⟨zbO, 0, none⟩ = some (.slice A0_0 l0_0.length c0_0) := (zak za1.out 0).trans rfl
           have hcz34_1 : wc.cell? ⟨zbO, 1, none⟩ = some (.slice A0_1 l0_1.length c0_1) := (zak za1.out 1).trans rfl
           have hcz34_2 : wc.cell? ⟨zbO, 2, none⟩ = some (.slice (some ad254) l0_2.length c0_2) := (zak za1.out 2).trans rfl
           have hcz34_3 : wc.cell? ⟨zbO, 3, none⟩ = some (.slice (some ad259) l0_3.length c0_3) := (zak za1.out 3).trans rfl
           have hfz34_0 := zaf za1.out 0
           have hfz34_1 := zaf za1.out 1
           have hfz34_2 := zaf za1.out 2
           have hfz34_3 := zaf za1.out 3
           go_upto_region 11 with (first | ((with_reducible refine zae (f := 163) rfl ?_); refine zaB (some 50) rfl rfl Tryd.func163 (by kernel_rfl) rfl #[.agg #[.slice A0_0 l0_0.length c0_0, .slice A0_1 l0_1.length c0_1, .slice (some ad254) l0_2.length c0_2, .slice (some ad259) l0_3.length c0_3], .int .i64 4, .int .i64 a1] rfl (by (try simp only [List.map_toArray, List.map_cons, List.map_nil]); first | done | rfl | (simp only [List.length_drop, List.length_take]; rfl)) ?_; (with_reducible refine (zaQ.calls kj21 _ _ l0_0 _ _ l0_1 _ _ l0_2 _ _ l0_3 4 a1 false _ ?side1 ?side2 ?side3 ?side4 ?side5 ?side6 ?side7 ?side8 A29.out).mono ?_); (case side1 => repeat (first | exact (Kd.C_below HR0_0.out HB.out) | (with_reducible refine Kd.C_alloc ?_ _) | (with_reducible refine Kd.C_drewN ?_ _) | (with_reducible refine Kd.C_drew ?_))); (case side2 => exact HC0_0.out); (case side3 => repeat (first | exact (Kd.C_below HR0_1.out HB.out) | (with_reducible refine Kd.C_alloc ?_ _) | (with_reducible refine Kd.C_drewN ?_ _) | (with_reducible refine Kd.C_drew ?_))); (case side4 => exact HC0_1.out); (case side5 => repeat (first | exact (Kd.C_below HR0_2.out HB.out) | (with_reducible refine Kd.C_alloc ?_ _) | (with_reducible refine Kd.C_drewN ?_ _) | (with_reducible refine Kd.C_drew ?_))); (case side6 => exact HC0_2.out); (case side7 => repeat (first | exact (Kd.C_below HR0_3.out HB.out) | (with_reducible refine Kd.C_alloc ?_ _) | (with_reducible refine Kd.C_drewN ?_ _) | (with_reducible refine Kd.C_drew ?_))); (case side8 => exact HC0_3.out); rintro e w35 ⟨rfl, hb⟩; refine ⟨_, rfl, ?_⟩; have n0_ := zab.mk (za8 (g := zbO) (o := .cells #[.slice A0_0 l0_0.length c0_0, .slice A0_1 l0_1.length c0_1, .slice (some ad254) l0_2.length c0_2, .slice (some ad259) l0_3.length c0_3] 128 (0, 0)) (by (with_reducible repeat (first | refine zar ?_ _ | refine zat ?_ | refine zai ?_ _)); exact za1.out) hb); have n1_ := zab.mk (zaw (by repeat (first | (with_reducible first | exact HB.out | apply zac | apply zaa | apply zad | refine zas ?_ GE253.out) | exact HB.out)) hb); clear za1 HB; have za1 := n0_; have HB := n1_; clear n0_ n1_; (try clear hb); (try clear hb2); (try clear hk); (try clear hi)))
           (try simp only [Act.put, List.setIfInBounds_toArray, List.set_cons_zero, List.set_cons_succ])
           go_cut [51] (fun v51 wc => ∃ (kq : Nat) (x51_32 : Bool), v51 = .bool x51_32 ∧ zab (zaj.j2 kq a1 (rd l0_2 (ji3)) (rd l0_2 a1) x7_7 t258 x51_32 l0_0 l0_1 l0_2 l0_3 = some r) ∧ zab (kq ≤ kj21) ∧ zab (wc.heap[zbO]? = some (.cells #[(.slice A0_0 l0_0.length c0_0), (.slice A0_1 l0_1.length c0_1), (.slice (some ad254) l0_2.length c0_2), (.slice (some ad259) l0_3.length c0_3)] 128 (0, 0))) ∧ zab (Below w.heap.size w wc))
           case first => as_aux_lemma =>
            have H := HC33.out; clear HC33
            replace H : (if 0 ≤ (ji3) then (if (ji3) < (l0_0.length : Int) then (if (rd l0_0 (ji3)) = 7936 then (zaj.j2 kj21 a1 (rd l0_2 (ji3)) (rd l0_2 a1) x7_7 t258 true l0_0 l0_1 l0_2 l0_3) else (zaj.j2 kj21 a1 (rd l0_2 (ji3)) (rd l0_2 a1) x7_7 t258 ((rd l0_2 (ji3)) == 3) l0_0 l0_1 l0_2 l0_3)) else (none)) else (none)) = some r := by first | (rw [hji3] at H; exact H) | (simp only [hji3] at H ⊢; exact H)
            by_cases c37 : 0 ≤ (ji3)
            ·rw [if_pos c37] at H
             have c37b0 : decide (0 ≤ (ji3)) = true := decide_eq_true c37
             clear c37
             (first | rw [c37b0] | rw [c37b1] | (simp only [zbo, i32_w]; rw [c37b0]) | skip)
             by_cases c38 : (ji3) < (l0_0.length : Int)
             ·rw [if_pos c38] at H
              have c38b0 : decide ((ji3) < (l0_0.length : Int)) = true := decide_eq_true c38
              clear c38
              by_cases c39 : (rd l0_0 (ji3)) = 7936
              ·rw [if_pos c39] at H
               have c39b0 : ((rd l0_0 (ji3)) == 7936) = true := beq_iff_eq.mpr c39
               have c39b1 : ((rd l0_0 (ji3)) != 7936) = false := bne_eq_false_iff_eq.mpr c39
               clear c39; have H' := zab.mk H; clear H
               have hcz40_0 : w35.cell? ⟨zbO, 0, none⟩ = some (.slice A0_0 l0_0.length c0_0) := (zak za1.out 0).trans rfl
               have hcz40_1 : w35.cell? ⟨zbO, 1, none⟩ = some (.slice A0_1 l0_1.length c0_1) := (zak za1.out 1).trans rfl
               have hcz40_2 : w35.cell? ⟨zbO, 2, none⟩ = some (.slice (some ad254) l0_2.length c0_2) := (zak za1.out 2).trans rfl
               have hcz40_3 : w35.cell? ⟨zbO, 3, none⟩ = some (.slice (some ad259) l0_3.length c0_3) := (zak za1.out 3).trans rfl
               have hfz40_0 := zaf za1.out 0
               have hfz40_1 := zaf za1.out 1
               have hfz40_2 := zaf za1.out 2
               have hfz40_3 := zaf za1.out 3
               have p261 : 0 ≤ ((ji3) : Int) := of_decide_eq_true (by first | (with_reducible assumption) | assumption)
               have q261 : (ji3) < (l0_0.length : Int) := of_decide_eq_true (by first | (with_reducible assumption) | assumption)
               obtain ⟨ad261, e261, hx261_0⟩ := Kd.zbF HR0_0.out (ji3) p261 q261
               cases e261
               replace hx261_0 := (HB.out.cell (World.block_lt_of_cell? w _ hx261_0)).trans hx261_0
               replace p261 := eq_true p261
               replace q261 := eq_true q261
               go_wp2
               go_meet
               case rel => exact ⟨_, (true), (by first | rfl | (simp; done) | (simp [*]; done)), H', ⟨by have := HJ7.out; have := HJ21.out; first | omega | exact Nat.le_refl _⟩, ⟨by (with_reducible repeat (first | refine zar ?_ _ | refine zat ?_ | refine zai ?_ _)); exact za1.out⟩, ⟨by repeat (first | (with_reducible first | exact HB.out | apply zac | apply zaa | apply zad | refine zas ?_ GE253.out) | exact HB.out)⟩⟩
              rw [if_neg c39] at H
              have c39b0 : ((rd l0_0 (ji3)) == 7936) = false := beq_eq_false_iff_ne.mpr c39
              have c39b1 : ((rd l0_0 (ji3)) != 7936) = true := bne_iff_ne.mpr c39
              have H' := zab.mk H; clear H
              have hcz41_0 : w35.cell? ⟨zbO, 0, none⟩ = some (.slice A0_0 l0_0.length c0_0) := (zak za1.out 0).trans rfl
              have hcz41_1 : w35.cell? ⟨zbO, 1, none⟩ = some (.slice A0_1 l0_1.length c0_1) := (zak za1.out 1).trans rfl
              have hcz41_2 : w35.cell? ⟨zbO, 2, none⟩ = some (.slice (some ad254) l0_2.length c0_2) := (zak za1.out 2).trans rfl
              have hcz41_3 : w35.cell? ⟨zbO, 3, none⟩ = some (.slice (some ad259) l0_3.length c0_3) := (zak za1.out 3).trans rfl
              have hfz41_0 := zaf za1.out 0
              have hfz41_1 := zaf za1.out 1
              have hfz41_2 := zaf za1.out 2
              have hfz41_3 := zaf za1.out 3
              have p261 : 0 ≤ ((ji3) : Int) := of_decide_eq_true (by first | (with_reducible assumption) | assumption)
              have q261 : (ji3) < (l0_0.length : Int) := of_decide_eq_true (by first | (with_reducible assumption) | assumption)
              obtain ⟨ad261, e261, hx261_0⟩ := Kd.zbF HR0_0.out (ji3) p261 q261
              cases e261
              replace hx261_0 := (HB.out.cell (World.block_lt_of_cell? w _ hx261_0)).trans hx261_0
              replace p261 := eq_true p261
              replace q261 := eq_true q261
              go_wp2
              go_meet
              case rel => exact ⟨_, (((rd l0_2 (ji3)) == 3)), (by first | rfl | (simp; done) | (simp only [← hji3] <;> (first | rfl | simp)) | (simp [*]; done)), H', ⟨by have := HJ7.out; have := HJ21.out; first | omega | exact Nat.le_refl _⟩, ⟨by (with_reducible repeat (first | refine zar ?_ _ | refine zat ?_ | refine zai ?_ _)); exact za1.out⟩, ⟨by repeat (first | (with_reducible first | exact HB.out | apply zac | apply zaa | apply zad | refine zas ?_ GE253.out) | exact HB.out)⟩⟩
             rw [if_neg c38] at H
             exact absurd H (by simp)
            rw [if_neg c37] at H
            exact absurd H (by simp)
           case rest => as_aux_lemma =>
            clear HC33
            try clear c4b0
            try clear c5b0
            try clear c6b0
            try clear c7b0
            try clear c15b0
            try clear c16b0
            try clear c18
            try clear c28
            try clear c30
            try clear hcz10_0
            try clear hcz10_1
            try clear hcz10_2
            try clear hcz10_3
            try clear hcz23_0
            try clear hcz23_1
            try clear hcz23_2
            try clear hcz23_3
            try clear hcz25_0
            try clear hcz25_1
            try clear hcz25_2
            try clear hcz25_3
            try clear hcz34_0
            try clear hcz34_1
            try clear hcz34_2
            try clear hcz34_3
            try clear hfz10_0
            try clear hfz10_1
            try clear hfz10_2
            try clear hfz10_3
            try clear hfz23_0
            try clear hfz23_1
            try clear hfz23_2
            try clear hfz23_3
            try clear hfz25_0
            try clear hfz25_1
            try clear hfz25_2
            try clear hfz25_3
            try clear hfz34_0
            try clear hfz34_1
            try clear hfz34_2
            try clear hfz34_3
            try clear hx254_0
            try clear hx255_0
            try clear hx259_0
            try clear p254
            try clear p255
            try clear p259
            try clear q254
            try clear q255
            try clear q259
            obtain ⟨kq, x51_32, rfl, HA, HJ32, za1, HB⟩ := hcut
            cases kq with
            | zero => exact absurd HA.out (by simp [zaj.j2])
            | succ kj32 =>
             have H := HA.out; clear HA
             simp only [zaj.j2] at H
             by_cases c42 : x51_32 = true
             ·subst c42
              replace H : (some false) = some r := by rw [if_pos rfl] at H; exact H
              obtain rfl := Option.some.inj H
              go_wp2
              go_ret
              exact ⟨by first | rfl | (simp [zam, zal] <;> rfl) | (simp only [← hji3]; first | rfl | (simp [zam, zal] <;> rfl)) | (simp [*, zam, zal] <;> rfl), by repeat (first | (with_reducible first | exact HB.out | apply zac | apply zaa | apply zad | refine zas ?_ GE253.out) | exact HB.out)⟩
             replace c42 := Bool.eq_false_iff.mpr c42
             subst c42
             replace H : (if (rd l0_2 a1) = 3 then (if (rd l0_2 (ji3)) = 2 then (zaj.j3 kj32 a1 (rd l0_2 (ji3)) (rd l0_2 a1) x7_7 t258 false l0_0 l0_1 l0_2 l0_3) else (zaj.j3 kj32 a1 (rd l0_2 (ji3)) (rd l0_2 a1) x7_7 t258 ((rd l0_2 (ji3)) != 5) l0_0 l0_1 l0_2 l0_3)) else (zaj.j3 kj32 a1 (rd l0_2 (ji3)) (rd l0_2 a1) x7_7 t258 false l0_0 l0_1 l0_2 l0_3)) = some r := by rw [if_neg (show ¬ (false = true) by decide)] at H; exact H
             have HC43 := zab.mk H; clear H
             go_upto_region 13 with (fail)
             go_cut [64] (fun v64 wc => ∃ (kq : Nat) (x64_42 : Bool), v64 = .bool x64_42 ∧ zab (zaj.j3 kq a1 (rd l0_2 (ji3)) (rd l0_2 a1) x7_7 t258 x64_42 l0_0 l0_1 l0_2 l0_3 = some r) ∧ zab (kq ≤ kj32) ∧ zab (wc.heap[zbO]? = some (.cells #[(.slice A0_0 l0_0.length c0_0), (.slice A0_1 l0_1.length c0_1), (.slice (some ad254) l0_2.length c0_2), (.slice (some ad259) l0_3.length c0_3)] 128 (0, 0))) ∧ zab (Below w.heap.size w wc))
             case first => as_aux_lemma =>
              have H := HC43.out; clear HC43
              by_cases c44 : (rd l0_2 a1) = 3
              ·rw [if_pos c44] at H
               have c44b0 : ((rd l0_2 a1) == 3) = true := beq_iff_eq.mpr c44
               have c44b1 : ((rd l0_2 a1) != 3) = false := bne_eq_false_iff_eq.mpr c44
               clear c44
               (first | rw [c44b0] | rw [c44b1] | (simp only [zbo, i32_w]; rw [c44b0]) | skip)
               by_cases c45 : (rd l0_2 (ji3)) = 2
               ·rw [if_pos c45] at H
                have c45b0 : ((rd l0_2 (ji3)) == 2) = true := beq_iff_eq.mpr c45
                have c45b1 : ((rd l0_2 (ji3)) != 2) = false := bne_eq_false_iff_eq.mpr c45
                clear c45; have H' := zab.mk H; clear H
                go_wp2
                go_meet
                case rel => exact ⟨_, (false), (by first | rfl | (simp; done) | (simp [*]; done)), H', ⟨by have := HJ7.out; have := HJ21.out; have := HJ32.out; first | omega | exact Nat.le_refl _⟩, ⟨by (with_reducible repeat (first | refine zar ?_ _ | refine zat ?_ | refine zai ?_ _)); exact za1.out⟩, ⟨by repeat (first | (with_reducible first | exact HB.out | apply zac | apply zaa | apply zad | refine zas ?_ GE253.out) | exact HB.out)⟩⟩
               rw [if_neg c45] at H
               have c45b0 : ((rd l0_2 (ji3)) == 2) = false := beq_eq_false_iff_ne.mpr c45
               have c45b1 : ((rd l0_2 (ji3)) != 2) = true := bne_iff_ne.mpr c45
               have H' := zab.mk H; clear H
               go_wp2
               go_meet
               case rel => exact ⟨_, (((rd l0_2 (ji3)) != 5)), (by first | rfl | (simp; done) | (simp only [← hji3] <;> (first | rfl | simp)) | (simp [*]; done)), H', ⟨by have := HJ7.out; have := HJ21.out; have := HJ32.out; first | omega | exact Nat.le_refl _⟩, ⟨by (with_reducible repeat (first | refine zar ?_ _ | refine zat ?_ | refine zai ?_ _)); exact za1.out⟩, ⟨by repeat (first | (with_reducible first | exact HB.out | apply zac | apply zaa | apply zad | refine zas ?_ GE253.out) | exact HB.out)⟩⟩
              rw [if_neg c44] at H
              have c44b0 : ((rd l0_2 a1) == 3) = false := beq_eq_false_iff_ne.mpr c44
              have c44b1 : ((rd l0_2 a1) != 3) = true := bne_iff_ne.mpr c44
              (first | rw [c44b0] | rw [c44b1] | (simp only [zbo, i32_w]; rw [c44b0]) | skip)
              have H' := zab.mk H; clear H
              go_wp2
              go_meet
              case rel => exact ⟨_, (false), (by first | rfl | (simp; done) | (simp [*]; done)), H', ⟨by have := HJ7.out; have := HJ21.out; have := HJ32.out; first | omega | exact Nat.le_refl _⟩, ⟨by (with_reducible repeat (first | refine zar ?_ _ | refine zat ?_ | refine zai ?_ _)); exact za1.out⟩, ⟨by repeat (first | (with_reducible first | exact HB.out | apply zac | apply zaa | apply zad | refine zas ?_ GE253.out) | exact HB.out)⟩⟩
             case rest => as_aux_lemma =>
              clear HC43
              try clear c4b0
              try clear c5b0
              try clear c6b0
              try clear c7b0
              try clear c15b0
              try clear c16b0
              try clear c18
              try clear c28
              try clear c30
              try clear c42
              try clear hcz10_0
              try clear hcz10_1
              try clear hcz10_2
              try clear hcz10_3
              try clear hcz23_0
              try clear hcz23_1
              try clear hcz23_2
              try clear hcz23_3
              try clear hcz25_0
              try clear hcz25_1
              try clear hcz25_2
              try clear hcz25_3
              try clear hcz34_0
              try clear hcz34_1
              try clear hcz34_2
              try clear hcz34_3
              try clear hfz10_0
              try clear hfz10_1
              try clear hfz10_2
              try clear hfz10_3
              try clear hfz23_0
              try clear hfz23_1
              try clear hfz23_2
              try clear hfz23_3
              try clear hfz25_0
              try clear hfz25_1
              try clear hfz25_2
              try clear hfz25_3
              try clear hfz34_0
              try clear hfz34_1
              try clear hfz34_2
              try clear hfz34_3
              try clear hx254_0
              try clear hx255_0
              try clear hx259_0
              try clear p254
              try clear p255
              try clear p259
              try clear q254
              try clear q255
              try clear q259
              obtain ⟨kq, x64_42, rfl, HA, HJ42, za1, HB⟩ := hcut
              cases kq with
              | zero => exact absurd HA.out (by simp [zaj.j3])
              | succ kj42 =>
               have H := HA.out; clear HA
               simp only [zaj.j3] at H
               by_cases c46 : x64_42 = true
               ·subst c46
                replace H : (some false) = some r := by rw [if_pos rfl] at H; exact H
                obtain rfl := Option.some.inj H
                go_wp2
                go_ret
                exact ⟨by first | rfl | (simp [zam, zal] <;> rfl) | (simp only [← hji3]; first | rfl | (simp [zam, zal] <;> rfl)) | (simp [*, zam, zal] <;> rfl), by repeat (first | (with_reducible first | exact HB.out | apply zac | apply zaa | apply zad | refine zas ?_ GE253.out) | exact HB.out)⟩
               replace c46 := Bool.eq_false_iff.mpr c46
               subst c46
               replace H : (if (rd l0_2 a1) = 7 then (zaj.j4 kj42 a1 (rd l0_2 (ji3)) (rd l0_2 a1) x7_7 t258 true l0_0 l0_1 l0_2 l0_3) else (if (rd l0_2 a1) = 13 then (zaj.j4 kj42 a1 (rd l0_2 (ji3)) (rd l0_2 a1) x7_7 t258 true l0_0 l0_1 l0_2 l0_3) else (if (rd l0_2 a1) = 5 then (if (rd l0_2 (ji3)) = 2 then ((zaQ.f kj42 l0_0 l0_1 l0_2 l0_3 6 a1).bind fun t262 => (zaj.j4 kj42 a1 (rd l0_2 (ji3)) (rd l0_2 a1) x7_7 t258 t262 l0_0 l0_1 l0_2 l0_3)) else (zaj.j4 kj42 a1 (rd l0_2 (ji3)) (rd l0_2 a1) x7_7 t258 true l0_0 l0_1 l0_2 l0_3)) else ((zaQ.f kj42 l0_0 l0_1 l0_2 l0_3 6 a1).bind fun t263 => (zaj.j4 kj42 a1 (rd l0_2 (ji3)) (rd l0_2 a1) x7_7 t258 t263 l0_0 l0_1 l0_2 l0_3))))) = some r := by rw [if_neg (show ¬ (false = true) by decide)] at H; exact H
               have HC47 := zab.mk H; clear H
               go_upto_region 15 with (fail)
               go_cut [75] (fun v75 wc => ∃ (kq : Nat) (x75_46 : Bool), v75 = .bool x75_46 ∧ zab (zaj.j4 kq a1 (rd l0_2 (ji3)) (rd l0_2 a1) x7_7 t258 x75_46 l0_0 l0_1 l0_2 l0_3 = some r) ∧ zab (kq ≤ kj42) ∧ zab (wc.heap[zbO]? = some (.cells #[(.slice A0_0 l0_0.length c0_0), (.slice A0_1 l0_1.length c0_1), (.slice (some ad254) l0_2.length c0_2), (.slice (some ad259) l0_3.length c0_3)] 128 (0, 0))) ∧ zab (Below w.heap.size w wc))
               case first => as_aux_lemma =>
                have H := HC47.out; clear HC47
                by_cases c48 : (rd l0_2 a1) = 7
                ·rw [if_pos c48] at H
                 have c48b0 : ((rd l0_2 a1) == 7) = true := beq_iff_eq.mpr c48
                 have c48b1 : ((rd l0_2 a1) != 7) = false := bne_eq_false_iff_eq.mpr c48
                 clear c48
                 (first | rw [c48b0] | rw [c48b1] | (simp only [zbo, i32_w]; rw [c48b0]) | skip)
                 have H' := zab.mk H; clear H
                 go_wp2
                 go_meet
                 case rel => exact ⟨_, (true), (by first | rfl | (simp; done) | (simp [*]; done)), H', ⟨by have := HJ7.out; have := HJ21.out; have := HJ32.out; have := HJ42.out; first | omega | exact Nat.le_refl _⟩, ⟨by (with_reducible repeat (first | refine zar ?_ _ | refine zat ?_ | refine zai ?_ _)); exact za1.out⟩, ⟨by repeat (first | (with_reducible first | exact HB.out | apply zac | apply zaa | apply zad | refine zas ?_ GE253.out) | exact HB.out)⟩⟩
                rw [if_neg c48] at H
                have c48b0 : ((rd l0_2 a1) == 7) = false := beq_eq_false_iff_ne.mpr c48
                have c48b1 : ((rd l0_2 a1) != 7) = true := bne_iff_ne.mpr c48
                (first | rw [c48b0] | rw [c48b1] | (simp only [zbo, i32_w]; rw [c48b0]) | skip)
                by_cases c49 : (rd l0_2 a1) = 13
                ·rw [if_pos c49] at H
                 have c49b0 : ((rd l0_2 a1) == 13) = true := beq_iff_eq.mpr c49
                 have c49b1 : ((rd l0_2 a1) != 13) = false := bne_eq_false_iff_eq.mpr c49
                 clear c49; have H' := zab.mk H; clear H
                 go_wp2
                 go_meet
                 case rel => exact ⟨_, (true), (by first | rfl | (simp; done) | (simp [*]; done)), H', ⟨by have := HJ7.out; have := HJ21.out; have := HJ32.out; have := HJ42.out; first | omega | exact Nat.le_refl _⟩, ⟨by (with_reducible repeat (first | refine zar ?_ _ | refine zat ?_ | refine zai ?_ _)); exact za1.out⟩, ⟨by repeat (first | (with_reducible first | exact HB.out | apply zac | apply zaa | apply zad | refine zas ?_ GE253.out) | exact HB.out)⟩⟩
                rw [if_neg c49] at H
                have c49b0 : ((rd l0_2 a1) == 13) = false := beq_eq_false_iff_ne.mpr c49
                have c49b1 : ((rd l0_2 a1) != 13) = true := bne_iff_ne.mpr c49
                by_cases c50 : (rd l0_2 a1) = 5
                ·rw [if_pos c50] at H
                 have c50b0 : ((rd l0_2 a1) == 5) = true := beq_iff_eq.mpr c50
                 have c50b1 : ((rd l0_2 a1) != 5) = false := bne_eq_false_iff_eq.mpr c50
                 clear c50
                 by_cases c51 : (rd l0_2 (ji3)) = 2
                 ·rw [if_pos c51] at H
                  have c51b0 : ((rd l0_2 (ji3)) == 2) = true := beq_iff_eq.mpr c51
                  have c51b1 : ((rd l0_2 (ji3)) != 2) = false := bne_eq_false_iff_eq.mpr c51
                  clear c51; replace H := Option.bind_eq_some_iff.mp H
                  obtain ⟨t262, A520, H⟩ := H
                  try rw [hji3] at A520
                  replace H : (zaj.j4 kj42 a1 (rd l0_2 (ji3)) (rd l0_2 a1) x7_7 t258 t262 l0_0 l0_1 l0_2 l0_3) = some r := H
                  have A52 := zab.mk A520; clear A520; have H' := zab.mk H; clear H
                  have hcz53_0 : wc.cell? ⟨zbO, 0, none⟩ = some (.slice A0_0 l0_0.length c0_0) := (zak za1.out 0).trans rfl
                  have hcz53_1 : wc.cell? ⟨zbO, 1, none⟩ = some (.slice A0_1 l0_1.length c0_1) := (zak za1.out 1).trans rfl
                  have hcz53_2 : wc.cell? ⟨zbO, 2, none⟩ = some (.slice (some ad254) l0_2.length c0_2) := (zak za1.out 2).trans rfl
                  have hcz53_3 : wc.cell? ⟨zbO, 3, none⟩ = some (.slice (some ad259) l0_3.length c0_3) := (zak za1.out 3).trans rfl
                  have hfz53_0 := zaf za1.out 0
                  have hfz53_1 := zaf za1.out 1
                  have hfz53_2 := zaf za1.out 2
                  have hfz53_3 := zaf za1.out 3
                  go_wp2_with (first | (go_at_call 163; (with_reducible refine (zaQ.calls kj42 _ _ l0_0 _ _ l0_1 _ _ l0_2 _ _ l0_3 6 a1 t262 _ ?side1 ?side2 ?side3 ?side4 ?side5 ?side6 ?side7 ?side8 A52.out).mono ?_); (case side1 => repeat (first | exact (Kd.C_below HR0_0.out HB.out) | (with_reducible refine Kd.C_alloc ?_ _) | (with_reducible refine Kd.C_drewN ?_ _) | (with_reducible refine Kd.C_drew ?_))); (case side2 => exact HC0_0.out); (case side3 => repeat (first | exact (Kd.C_below HR0_1.out HB.out) | (with_reducible refine Kd.C_alloc ?_ _) | (with_reducible refine Kd.C_drewN ?_ _) | (with_reducible refine Kd.C_drew ?_))); (case side4 => exact HC0_1.out); (case side5 => repeat (first | exact (Kd.C_below HR0_2.out HB.out) | (with_reducible refine Kd.C_alloc ?_ _) | (with_reducible refine Kd.C_drewN ?_ _) | (with_reducible refine Kd.C_drew ?_))); (case side6 => exact HC0_2.out); (case side7 => repeat (first | exact (Kd.C_below HR0_3.out HB.out) | (with_reducible refine Kd.C_alloc ?_ _) | (with_reducible refine Kd.C_drewN ?_ _) | (with_reducible refine Kd.C_drew ?_))); (case side8 => exact HC0_3.out); rintro e w54 ⟨rfl, hb⟩; have n0_ := zab.mk (za8 (g := zbO) (o := .cells #[.slice A0_0 l0_0.length c0_0, .slice A0_1 l0_1.length c0_1, .slice (some ad254) l0_2.length c0_2, .slice (some ad259) l0_3.length c0_3] 128 (0, 0)) (by (with_reducible repeat (first | refine zar ?_ _ | refine zat ?_ | refine zai ?_ _)); exact za1.out) hb); have n1_ := zab.mk (zaw (by repeat (first | (with_reducible first | exact HB.out | apply zac | apply zaa | apply zad | refine zas ?_ GE253.out) | exact HB.out)) hb); clear za1 HB; have za1 := n0_; have HB := n1_; clear n0_ n1_; (try clear hb); (try clear hb2); (try clear hk); (try clear hi)))
                  go_meet
                  case rel => exact ⟨_, (t262), (by first | rfl | (simp; done) | (simp [*]; done)), H', ⟨by have := HJ7.out; have := HJ21.out; have := HJ32.out; have := HJ42.out; first | omega | exact Nat.le_refl _⟩, ⟨by (with_reducible repeat (first | refine zar ?_ _ | refine zat ?_ | refine zai ?_ _)); exact za1.out⟩, ⟨by repeat (first | (with_reducible first | exact HB.out | apply zac | apply zaa | apply zad | refine zas ?_ GE253.out) | exact HB.out)⟩⟩
                 rw [if_neg c51] at H
                 have c51b0 : ((rd l0_2 (ji3)) == 2) = false := beq_eq_false_iff_ne.mpr c51
                 have c51b1 : ((rd l0_2 (ji3)) != 2) = true := bne_iff_ne.mpr c51
                 have H' := zab.mk H; clear H
                 go_wp2
                 go_meet
                 case rel => exact ⟨_, (true), (by first | rfl | (simp; done) | (simp [*]; done)), H', ⟨by have := HJ7.out; have := HJ21.out; have := HJ32.out; have := HJ42.out; first | omega | exact Nat.le_refl _⟩, ⟨by (with_reducible repeat (first | refine zar ?_ _ | refine zat ?_ | refine zai ?_ _)); exact za1.out⟩, ⟨by repeat (first | (with_reducible first | exact HB.out | apply zac | apply zaa | apply zad | refine zas ?_ GE253.out) | exact HB.out)⟩⟩
                rw [if_neg c50] at H
                have c50b0 : ((rd l0_2 a1) == 5) = false := beq_eq_false_iff_ne.mpr c50
                have c50b1 : ((rd l0_2 a1) != 5) = true := bne_iff_ne.mpr c50
                replace H := Option.bind_eq_some_iff.mp H
                obtain ⟨t263, A550, H⟩ := H
                try rw [hji3] at A550
                replace H : (zaj.j4 kj42 a1 (rd l0_2 (ji3)) (rd l0_2 a1) x7_7 t258 t263 l0_0 l0_1 l0_2 l0_3) = some r := H
                have A55 := zab.mk A550; clear A550; have H' := zab.mk H; clear H
                have hcz56_0 : wc.cell? ⟨zbO, 0, none⟩ = some (.slice A0_0 l0_0.length c0_0) := (zak za1.out 0).trans rfl
                have hcz56_1 : wc.cell? ⟨zbO, 1, none⟩ = some (.slice A0_1 l0_1.length c0_1) := (zak za1.out 1).trans rfl
                have hcz56_2 : wc.cell? ⟨zbO, 2, none⟩ = some (.slice (some ad254) l0_2.length c0_2) := (zak za1.out 2).trans rfl
                have hcz56_3 : wc.cell? ⟨zbO, 3, none⟩ = some (.slice (some ad259) l0_3.length c0_3) := (zak za1.out 3).trans rfl
                have hfz56_0 := zaf za1.out 0
                have hfz56_1 := zaf za1.out 1
                have hfz56_2 := zaf za1.out 2
                have hfz56_3 := zaf za1.out 3
                go_wp2_with (first | (go_at_call 163; (with_reducible refine (zaQ.calls kj42 _ _ l0_0 _ _ l0_1 _ _ l0_2 _ _ l0_3 6 a1 t263 _ ?side1 ?side2 ?side3 ?side4 ?side5 ?side6 ?side7 ?side8 A55.out).mono ?_); (case side1 => repeat (first | exact (Kd.C_below HR0_0.out HB.out) | (with_reducible refine Kd.C_alloc ?_ _) | (with_reducible refine Kd.C_drewN ?_ _) | (with_reducible refine Kd.C_drew ?_))); (case side2 => exact HC0_0.out); (case side3 => repeat (first | exact (Kd.C_below HR0_1.out HB.out) | (with_reducible refine Kd.C_alloc ?_ _) | (with_reducible refine Kd.C_drewN ?_ _) | (with_reducible refine Kd.C_drew ?_))); (case side4 => exact HC0_1.out); (case side5 => repeat (first | exact (Kd.C_below HR0_2.out HB.out) | (with_reducible refine Kd.C_alloc ?_ _) | (with_reducible refine Kd.C_drewN ?_ _) | (with_reducible refine Kd.C_drew ?_))); (case side6 => exact HC0_2.out); (case side7 => repeat (first | exact (Kd.C_below HR0_3.out HB.out) | (with_reducible refine Kd.C_alloc ?_ _) | (with_reducible refine Kd.C_drewN ?_ _) | (with_reducible refine Kd.C_drew ?_))); (case side8 => exact HC0_3.out); rintro e w57 ⟨rfl, hb⟩; have n0_ := zab.mk (za8 (g := zbO) (o := .cells #[.slice A0_0 l0_0.length c0_0, .slice A0_1 l0_1.length c0_1, .slice (some ad254) l0_2.length c0_2, .slice (some ad259) l0_3.length c0_3] 128 (0, 0)) (by (with_reducible repeat (first | refine zar ?_ _ | refine zat ?_ | refine zai ?_ _)); exact za1.out) hb); have n1_ := zab.mk (zaw (by repeat (first | (with_reducible first | exact HB.out | apply zac | apply zaa | apply zad | refine zas ?_ GE253.out) | exact HB.out)) hb); clear za1 HB; have za1 := n0_; have HB := n1_; clear n0_ n1_; (try clear hb); (try clear hb2); (try clear hk); (try clear hi)))
                go_meet
                case rel => exact ⟨_, (t263), (by first | rfl | (simp; done) | (simp [*]; done)), H', ⟨by have := HJ7.out; have := HJ21.out; have := HJ32.out; have := HJ42.out; first | omega | exact Nat.le_refl _⟩, ⟨by (with_reducible repeat (first | refine zar ?_ _ | refine zat ?_ | refine zai ?_ _)); exact za1.out⟩, ⟨by repeat (first | (with_reducible first | exact HB.out | apply zac | apply zaa | apply zad | refine zas ?_ GE253.out) | exact HB.out)⟩⟩
               case rest => as_aux_lemma =>
                clear HC47
                try clear c4b0
                try clear c5b0
                try clear c6b0
                try clear c7b0
                try clear c15b0
                try clear c16b0
                try clear c18
                try clear c28
                try clear c30
                try clear c42
                try clear c46
                try clear hcz10_0
                try clear hcz10_1
                try clear hcz10_2
                try clear hcz10_3
                try clear hcz23_0
                try clear hcz23_1
                try clear hcz23_2
                try clear hcz23_3
                try clear hcz25_0
                try clear hcz25_1
                try clear hcz25_2
                try clear hcz25_3
                try clear hcz34_0
                try clear hcz34_1
                try clear hcz34_2
                try clear hcz34_3
                try clear hfz10_0
                try clear hfz10_1
                try clear hfz10_2
                try clear hfz10_3
                try clear hfz23_0
                try clear hfz23_1
                try clear hfz23_2
                try clear hfz23_3
                try clear hfz25_0
                try clear hfz25_1
                try clear hfz25_2
                try clear hfz25_3
                try clear hfz34_0
                try clear hfz34_1
                try clear hfz34_2
                try clear hfz34_3
                try clear hx254_0
                try clear hx255_0
                try clear hx259_0
                try clear p254
                try clear p255
                try clear p259
                try clear q254
                try clear q255
                try clear q259
                obtain ⟨kq, x75_46, rfl, HA, HJ46, za1, HB⟩ := hcut
                cases kq with
                | zero => exact absurd HA.out (by simp [zaj.j4])
                | succ kj46 =>
                 have H := HA.out; clear HA
                 simp only [zaj.j4] at H
                 by_cases c58 : x75_46 = true
                 ·subst c58
                  replace H : (some false) = some r := by rw [if_pos rfl] at H; exact H
                  obtain rfl := Option.some.inj H
                  go_wp2
                  go_ret
                  exact ⟨by first | rfl | (simp [zam, zal] <;> rfl) | (simp only [← hji3]; first | rfl | (simp [zam, zal] <;> rfl)) | (simp [*, zam, zal] <;> rfl), by repeat (first | (with_reducible first | exact HB.out | apply zac | apply zaa | apply zad | refine zas ?_ GE253.out) | exact HB.out)⟩
                 replace c58 := Bool.eq_false_iff.mpr c58
                 subst c58
                 replace H : (if (rd l0_2 (ji3)) = 2 then (some true) else (if (rd l0_2 (ji3)) = 8 then (zaj.j5 kj46 a1 (rd l0_2 (ji3)) (rd l0_2 a1) x7_7 t258 true l0_0 l0_1 l0_2 l0_3) else (zaj.j5 kj46 a1 (rd l0_2 (ji3)) (rd l0_2 a1) x7_7 t258 ((rd l0_2 a1) == 8) l0_0 l0_1 l0_2 l0_3))) = some r := by rw [if_neg (show ¬ (false = true) by decide)] at H; exact H
                 by_cases c59 : (rd l0_2 (ji3)) = 2
                 ·rw [if_pos c59] at H
                  have c59b0 : ((rd l0_2 (ji3)) == 2) = true := beq_iff_eq.mpr c59
                  have c59b1 : ((rd l0_2 (ji3)) != 2) = false := bne_eq_false_iff_eq.mpr c59
                  clear c59; obtain rfl := Option.some.inj H
                  go_wp2
                  go_ret
                  exact ⟨by first | rfl | (simp [zam, zal] <;> rfl) | (simp only [← hji3]; first | rfl | (simp [zam, zal] <;> rfl)) | (simp [*, zam, zal] <;> rfl), by repeat (first | (with_reducible first | exact HB.out | apply zac | apply zaa | apply zad | refine zas ?_ GE253.out) | exact HB.out)⟩
                 rw [if_neg c59] at H
                 have c59b0 : ((rd l0_2 (ji3)) == 2) = false := beq_eq_false_iff_ne.mpr c59
                 have c59b1 : ((rd l0_2 (ji3)) != 2) = true := bne_iff_ne.mpr c59
                 have HC60 := zab.mk H; clear H
                 go_upto_region 19 with (fail)
                 go_cut [98] (fun v98 wc => ∃ (kq : Nat) (x98_59 : Bool), v98 = .bool x98_59 ∧ zab (zaj.j5 kq a1 (rd l0_2 (ji3)) (rd l0_2 a1) x7_7 t258 x98_59 l0_0 l0_1 l0_2 l0_3 = some r) ∧ zab (kq ≤ kj46) ∧ zab (wc.heap[zbO]? = some (.cells #[(.slice A0_0 l0_0.length c0_0), (.slice A0_1 l0_1.length c0_1), (.slice (some ad254) l0_2.length c0_2), (.slice (some ad259) l0_3.length c0_3)] 128 (0, 0))) ∧ zab (Below w.heap.size w wc))
                 case first => as_aux_lemma =>
                  have H := HC60.out; clear HC60
                  by_cases c61 : (rd l0_2 (ji3)) = 8
                  ·rw [if_pos c61] at H
                   have c61b0 : ((rd l0_2 (ji3)) == 8) = true := beq_iff_eq.mpr c61
                   have c61b1 : ((rd l0_2 (ji3)) != 8) = false := bne_eq_false_iff_eq.mpr c61
                   clear c61
                   (first | rw [c61b0] | rw [c61b1] | (simp only [zbo, i32_w]; rw [c61b0]) | skip)
                   have H' := zab.mk H; clear H
                   go_wp2
                   go_meet
                   case rel => exact ⟨_, (true), (by first | rfl | (simp; done) | (simp [*]; done)), H', ⟨by have := HJ7.out; have := HJ21.out; have := HJ32.out; have := HJ42.out; have := HJ46.out; first | omega | exact Nat.le_refl _⟩, ⟨by (with_reducible repeat (first | refine zar ?_ _ | refine zat ?_ | refine zai ?_ _)); exact za1.out⟩, ⟨by repeat (first | (with_reducible first | exact HB.out | apply zac | apply zaa | apply zad | refine zas ?_ GE253.out) | exact HB.out)⟩⟩
                  rw [if_neg c61] at H
                  have c61b0 : ((rd l0_2 (ji3)) == 8) = false := beq_eq_false_iff_ne.mpr c61
                  have c61b1 : ((rd l0_2 (ji3)) != 8) = true := bne_iff_ne.mpr c61
                  (first | rw [c61b0] | rw [c61b1] | (simp only [zbo, i32_w]; rw [c61b0]) | skip)
                  have H' := zab.mk H; clear H
                  go_wp2
                  go_meet
                  case rel => exact ⟨_, (((rd l0_2 a1) == 8)), (by first | rfl | (simp; done) | (simp [*]; done)), H', ⟨by have := HJ7.out; have := HJ21.out; have := HJ32.out; have := HJ42.out; have := HJ46.out; first | omega | exact Nat.le_refl _⟩, ⟨by (with_reducible repeat (first | refine zar ?_ _ | refine zat ?_ | refine zai ?_ _)); exact za1.out⟩, ⟨by repeat (first | (with_reducible first | exact HB.out | apply zac | apply zaa | apply zad | refine zas ?_ GE253.out) | exact HB.out)⟩⟩
                 case rest => as_aux_lemma =>
                  clear HC60
                  try clear c4b0
                  try clear c5b0
                  try clear c6b0
                  try clear c7b0
                  try clear c15b0
                  try clear c16b0
                  try clear c18
                  try clear c28
                  try clear c30
                  try clear c42
                  try clear c46
                  try clear c58
                  try clear c59
                  try clear c59b0
                  try clear c59b1
                  try clear hcz10_0
                  try clear hcz10_1
                  try clear hcz10_2
                  try clear hcz10_3
                  try clear hcz23_0
                  try clear hcz23_1
                  try clear hcz23_2
                  try clear hcz23_3
                  try clear hcz25_0
                  try clear hcz25_1
                  try clear hcz25_2
                  try clear hcz25_3
                  try clear hcz34_0
                  try clear hcz34_1
                  try clear hcz34_2
                  try clear hcz34_3
                  try clear hfz10_0
                  try clear hfz10_1
                  try clear hfz10_2
                  try clear hfz10_3
                  try clear hfz23_0
                  try clear hfz23_1
                  try clear hfz23_2
                  try clear hfz23_3
                  try clear hfz25_0
                  try clear hfz25_1
                  try clear hfz25_2
                  try clear hfz25_3
                  try clear hfz34_0
                  try clear hfz34_1
                  try clear hfz34_2
                  try clear hfz34_3
                  try clear hx254_0
                  try clear hx255_0
                  try clear hx259_0
                  try clear p254
                  try clear p255
                  try clear p259
                  try clear q254
                  try clear q255
                  try clear q259
                  obtain ⟨kq, x98_59, rfl, HA, HJ59, za1, HB⟩ := hcut
                  cases kq with
                  | zero => exact absurd HA.out (by simp [zaj.j5])
                  | succ kj59 =>
                   have H := HA.out; clear HA
                   simp only [zaj.j5] at H
                   by_cases c62 : x98_59 = true
                   ·subst c62
                    replace H : (some false) = some r := by rw [if_pos rfl] at H; exact H
                    obtain rfl := Option.some.inj H
                    go_wp2
                    go_ret
                    exact ⟨by first | rfl | (simp [zam, zal] <;> rfl) | (simp only [← hji3]; first | rfl | (simp [zam, zal] <;> rfl)) | (simp [*, zam, zal] <;> rfl), by repeat (first | (with_reducible first | exact HB.out | apply zac | apply zaa | apply zad | refine zas ?_ GE253.out) | exact HB.out)⟩
                   replace c62 := Bool.eq_false_iff.mpr c62
                   subst c62
                   replace H : (if (rd l0_2 (ji3)) = 5 then (some ((rd l0_2 a1) != 9)) else (if x7_7 = true then (zaj.j6 kj59 a1 (rd l0_2 (ji3)) (rd l0_2 a1) t258 true l0_0 l0_1 l0_2 l0_3) else (if (rd l0_2 (ji3)) = 11 then (zaj.j6 kj59 a1 (rd l0_2 (ji3)) (rd l0_2 a1) t258 ((rd l0_2 a1) == 11) l0_0 l0_1 l0_2 l0_3) else (zaj.j6 kj59 a1 (rd l0_2 (ji3)) (rd l0_2 a1) t258 false l0_0 l0_1 l0_2 l0_3)))) = some r := by rw [if_neg (show ¬ (false = true) by decide)] at H; exact H
                   by_cases c63 : (rd l0_2 (ji3)) = 5
                   ·rw [if_pos c63] at H
                    have c63b0 : ((rd l0_2 (ji3)) == 5) = true := beq_iff_eq.mpr c63
                    have c63b1 : ((rd l0_2 (ji3)) != 5) = false := bne_eq_false_iff_eq.mpr c63
                    clear c63; obtain rfl := Option.some.inj H
                    go_wp2
                    go_ret
                    exact ⟨by first | rfl | (simp [zam, zal] <;> rfl) | (simp only [← hji3]; first | rfl | (simp [zam, zal] <;> rfl)) | (simp [*, zam, zal] <;> rfl), by repeat (first | (with_reducible first | exact HB.out | apply zac | apply zaa | apply zad | refine zas ?_ GE253.out) | exact HB.out)⟩
                   rw [if_neg c63] at H
                   have c63b0 : ((rd l0_2 (ji3)) == 5) = false := beq_eq_false_iff_ne.mpr c63
                   have c63b1 : ((rd l0_2 (ji3)) != 5) = true := bne_iff_ne.mpr c63
                   have HC64 := zab.mk H; clear H
                   go_upto_region 23 with (fail)
                   go_cut [110] (fun v110 wc => ∃ (kq : Nat) (x110_63 : Bool), v110 = .bool x110_63 ∧ zab (zaj.j6 kq a1 (rd l0_2 (ji3)) (rd l0_2 a1) t258 x110_63 l0_0 l0_1 l0_2 l0_3 = some r) ∧ zab (kq ≤ kj59) ∧ zab (wc.heap[zbO]? = some (.cells #[(.slice A0_0 l0_0.length c0_0), (.slice A0_1 l0_1.length c0_1), (.slice (some ad254) l0_2.length c0_2), (.slice (some ad259) l0_3.length c0_3)] 128 (0, 0))) ∧ zab (Below w.heap.size w wc))
                   case first => as_aux_lemma =>
                    have H := HC64.out; clear HC64
                    by_cases c65 : x7_7 = true
                    ·subst c65
                     replace H : (zaj.j6 kj59 a1 (rd l0_2 (ji3)) (rd l0_2 a1) t258 true l0_0 l0_1 l0_2 l0_3) = some r := by rw [if_pos rfl] at H; exact H
                     have H' := zab.mk H; clear H
                     go_wp2
                     go_meet
                     case rel => exact ⟨_, (true), (by first | rfl | (simp; done) | (simp [*]; done)), H', ⟨by have := HJ7.out; have := HJ21.out; have := HJ32.out; have := HJ42.out; have := HJ46.out; have := HJ59.out; first | omega | exact Nat.le_refl _⟩, ⟨by (with_reducible repeat (first | refine zar ?_ _ | refine zat ?_ | refine zai ?_ _)); exact za1.out⟩, ⟨by repeat (first | (with_reducible first | exact HB.out | apply zac | apply zaa | apply zad | refine zas ?_ GE253.out) | exact HB.out)⟩⟩
                    replace c65 := Bool.eq_false_iff.mpr c65
                    subst c65
                    replace H : (if (rd l0_2 (ji3)) = 11 then (zaj.j6 kj59 a1 (rd l0_2 (ji3)) (rd l0_2 a1) t258 ((rd l0_2 a1) == 11) l0_0 l0_1 l0_2 l0_3) else (zaj.j6 kj59 a1 (rd l0_2 (ji3)) (rd l0_2 a1) t258 false l0_0 l0_1 l0_2 l0_3)) = some r := by rw [if_neg (show ¬ (false = true) by decide)] at H; exact H
                    by_cases c66 : (rd l0_2 (ji3)) = 11
                    ·rw [if_pos c66] at H
                     have c66b0 : ((rd l0_2 (ji3)) == 11) = true := beq_iff_eq.mpr c66
                     have c66b1 : ((rd l0_2 (ji3)) != 11) = false := bne_eq_false_iff_eq.mpr c66
                     clear c66
                     (first | rw [c66b0] | rw [c66b1] | (simp only [zbo, i32_w]; rw [c66b0]) | skip)
                     have H' := zab.mk H; clear H
                     go_wp2
                     go_meet
                     case rel => exact ⟨_, (((rd l0_2 a1) == 11)), (by first | rfl | (simp; done) | (simp [*]; done)), H', ⟨by have := HJ7.out; have := HJ21.out; have := HJ32.out; have := HJ42.out; have := HJ46.out; have := HJ59.out; first | omega | exact Nat.le_refl _⟩, ⟨by (with_reducible repeat (first | refine zar ?_ _ | refine zat ?_ | refine zai ?_ _)); exact za1.out⟩, ⟨by repeat (first | (with_reducible first | exact HB.out | apply zac | apply zaa | apply zad | refine zas ?_ GE253.out) | exact HB.out)⟩⟩
                    rw [if_neg c66] at H
                    have c66b0 : ((rd l0_2 (ji3)) == 11) = false := beq_eq_false_iff_ne.mpr c66
                    have c66b1 : ((rd l0_2 (ji3)) != 11) = true := bne_iff_ne.mpr c66
                    (first | rw [c66b0] | rw [c66b1] | (simp only [zbo, i32_w]; rw [c66b0]) | skip)
                    have H' := zab.mk H; clear H
                    go_wp2
                    go_meet
                    case rel => exact ⟨_, (false), (by first | rfl | (simp; done) | (simp [*]; done)), H', ⟨by have := HJ7.out; have := HJ21.out; have := HJ32.out; have := HJ42.out; have := HJ46.out; have := HJ59.out; first | omega | exact Nat.le_refl _⟩, ⟨by (with_reducible repeat (first | refine zar ?_ _ | refine zat ?_ | refine zai ?_ _)); exact za1.out⟩, ⟨by repeat (first | (with_reducible first | exact HB.out | apply zac | apply zaa | apply zad | refine zas ?_ GE253.out) | exact HB.out)⟩⟩
                   case rest => as_aux_lemma =>
                    clear HC64
                    try clear c4b0
                    try clear c5b0
                    try clear c6b0
                    try clear c7b0
                    try clear c15b0
                    try clear c16b0
                    try clear c18
                    try clear c28
                    try clear c30
                    try clear c42
                    try clear c46
                    try clear c58
                    try clear c59
                    try clear c59b0
                    try clear c59b1
                    try clear c62
                    try clear c63
                    try clear c63b0
                    try clear c63b1
                    try clear hcz10_0
                    try clear hcz10_1
                    try clear hcz10_2
                    try clear hcz10_3
                    try clear hcz23_0
                    try clear hcz23_1
                    try clear hcz23_2
                    try clear hcz23_3
                    try clear hcz25_0
                    try clear hcz25_1
                    try clear hcz25_2
                    try clear hcz25_3
                    try clear hcz34_0
                    try clear hcz34_1
                    try clear hcz34_2
                    try clear hcz34_3
                    try clear hfz10_0
                    try clear hfz10_1
                    try clear hfz10_2
                    try clear hfz10_3
                    try clear hfz23_0
                    try clear hfz23_1
                    try clear hfz23_2
                    try clear hfz23_3
                    try clear hfz25_0
                    try clear hfz25_1
                    try clear hfz25_2
                    try clear hfz25_3
                    try clear hfz34_0
                    try clear hfz34_1
                    try clear hfz34_2
                    try clear hfz34_3
                    try clear hx254_0
                    try clear hx255_0
                    try clear hx259_0
                    try clear p254
                    try clear p255
                    try clear p259
                    try clear q254
                    try clear q255
                    try clear q259
                    obtain ⟨kq, x110_63, rfl, HA, HJ63, za1, HB⟩ := hcut
                    cases kq with
                    | zero => exact absurd HA.out (by simp [zaj.j6])
                    | succ kj63 =>
                     have H := HA.out; clear HA
                     simp only [zaj.j6] at H
                     by_cases c67 : x110_63 = true
                     ·subst c67
                      replace H : (some false) = some r := by rw [if_pos rfl] at H; exact H
                      obtain rfl := Option.some.inj H
                      go_wp2
                      go_ret
                      exact ⟨by first | rfl | (simp [zam, zal] <;> rfl) | (simp only [← hji3]; first | rfl | (simp [zam, zal] <;> rfl)) | (simp [*, zam, zal] <;> rfl), by repeat (first | (with_reducible first | exact HB.out | apply zac | apply zaa | apply zad | refine zas ?_ GE253.out) | exact HB.out)⟩
                     replace c67 := Bool.eq_false_iff.mpr c67
                     subst c67
                     replace H : (if (rd l0_2 a1) = 9 then (if 0 ≤ t258 then (if t258 < (l0_0.length : Int) then ((za7.f kj63 (rd l0_0 t258) (⟨#[44, 46]⟩ : ByteArray)).bind fun t265 => (if t265 = true then (if t258 > 0 then (if 0 ≤ (wrap64 (t258 - 1)) then (if (wrap64 (t258 - 1)) < (l0_2.length : Int) then (zaj.j7 kj63 a1 (rd l0_2 (ji3)) (rd l0_2 a1) ((rd l0_2 (wrap64 (t258 - 1))) == 9) l0_0 l0_1 l0_2 l0_3) else (none)) else (none)) else (zaj.j7 kj63 a1 (rd l0_2 (ji3)) (rd l0_2 a1) false l0_0 l0_1 l0_2 l0_3)) else (zaj.j7 kj63 a1 (rd l0_2 (ji3)) (rd l0_2 a1) false l0_0 l0_1 l0_2 l0_3))) else (none)) else (none)) else (zaj.j7 kj63 a1 (rd l0_2 (ji3)) (rd l0_2 a1) false l0_0 l0_1 l0_2 l0_3)) = some r := by rw [if_neg (show ¬ (false = true) by decide)] at H; exact H
                     have HC68 := zab.mk H; clear H
                     go_upto_region 25 with (fail)
                     go_cut [120] (fun v120 wc => ∃ (kq : Nat) (x120_67 : Bool), v120 = .bool x120_67 ∧ zab (zaj.j7 kq a1 (rd l0_2 (ji3)) (rd l0_2 a1) x120_67 l0_0 l0_1 l0_2 l0_3 = some r) ∧ zab (kq ≤ kj63) ∧ zab (wc.heap[zbO]? = some (.cells #[(.slice A0_0 l0_0.length c0_0), (.slice A0_1 l0_1.length c0_1), (.slice (some ad254) l0_2.length c0_2), (.slice (some ad259) l0_3.length c0_3)] 128 (0, 0))) ∧ zab (Below w.heap.size w wc))
                     case first => as_aux_lemma =>
                      have H := HC68.out; clear HC68
                      by_cases c69 : (rd l0_2 a1) = 9
                      ·rw [if_pos c69] at H
                       have c69b0 : ((rd l0_2 a1) == 9) = true := beq_iff_eq.mpr c69
                       have c69b1 : ((rd l0_2 a1) != 9) = false := bne_eq_false_iff_eq.mpr c69
                       clear c69
                       (first | rw [c69b0] | rw [c69b1] | (simp only [zbo, i32_w]; rw [c69b0]) | skip)
                       by_cases c70 : 0 ≤ t258
                       ·rw [if_pos c70] at H
                        have c70b0 : decide (0 ≤ t258) = true := decide_eq_true c70
                        clear c70
                        by_cases c71 : t258 < (l0_0.length : Int)
                        ·rw [if_pos c71] at H
                         have c71b0 : decide (t258 < (l0_0.length : Int)) = true := decide_eq_true c71
                         clear c71; replace H := Option.bind_eq_some_iff.mp H
                         obtain ⟨t265, A720, H⟩ := H
                         try rw [hji3] at A720
                         replace H : (if t265 = true then (if t258 > 0 then (if 0 ≤ (wrap64 (t258 - 1)) then (if (wrap64 (t258 - 1)) < (l0_2.length : Int) then (zaj.j7 kj63 a1 (rd l0_2 (ji3)) (rd l0_2 a1) ((rd l0_2 (wrap64 (t258 - 1))) == 9) l0_0 l0_1 l0_2 l0_3) else (none)) else (none)) else (zaj.j7 kj63 a1 (rd l0_2 (ji3)) (rd l0_2 a1) false l0_0 l0_1 l0_2 l0_3)) else (zaj.j7 kj63 a1 (rd l0_2 (ji3)) (rd l0_2 a1) false l0_0 l0_1 l0_2 l0_3)) = some r := H
                         have A72 := zab.mk A720; clear A720
                         by_cases c73 : t265 = true
                         ·subst c73
                          replace H : (if t258 > 0 then (if 0 ≤ (wrap64 (t258 - 1)) then (if (wrap64 (t258 - 1)) < (l0_2.length : Int) then (zaj.j7 kj63 a1 (rd l0_2 (ji3)) (rd l0_2 a1) ((rd l0_2 (wrap64 (t258 - 1))) == 9) l0_0 l0_1 l0_2 l0_3) else (none)) else (none)) else (zaj.j7 kj63 a1 (rd l0_2 (ji3)) (rd l0_2 a1) false l0_0 l0_1 l0_2 l0_3)) = some r := by rw [if_pos rfl] at H; exact H
                          by_cases c74 : t258 > 0
                          ·rw [if_pos c74] at H
                           have c74b0 : decide (0 < t258) = true := decide_eq_true c74
                           clear c74
                           obtain ⟨ji75, hji75⟩ : ∃ j_ : Int, (wrap64 (t258 - 1)) = j_ := ⟨_, rfl⟩
                           replace H : (if 0 ≤ (ji75) then (if (ji75) < (l0_2.length : Int) then (zaj.j7 kj63 a1 (rd l0_2 (ji3)) (rd l0_2 a1) ((rd l0_2 (ji75)) == 9) l0_0 l0_1 l0_2 l0_3) else (none)) else (none)) = some r := by first | (rw [hji75] at H; exact H) | (simp only [hji75] at H ⊢; exact H)
                           (try rw [hji75] at A72)
                           have hji75w : (IntKind.i64.wrap (t258 - 1)) = ji75 := (zbo _).trans hji75
                           by_cases c76 : 0 ≤ (ji75)
                           ·rw [if_pos c76] at H
                            have c76b0 : decide (0 ≤ (ji75)) = true := decide_eq_true c76
                            clear c76
                            by_cases c77 : (ji75) < (l0_2.length : Int)
                            ·rw [if_pos c77] at H
                             have c77b0 : decide ((ji75) < (l0_2.length : Int)) = true := decide_eq_true c77
                             clear c77; have H' := zab.mk H; clear H
                             have hcz78_0 : wc.cell? ⟨zbO, 0, none⟩ = some (.slice A0_0 l0_0.length c0_0) := (zak za1.out 0).trans rfl
                             have hcz78_1 : wc.cell? ⟨zbO, 1, none⟩ = some (.slice A0_1 l0_1.length c0_1) := (zak za1.out 1).trans rfl
                             have hcz78_2 : wc.cell? ⟨zbO, 2, none⟩ = some (.slice (some ad254) l0_2.length c0_2) := (zak za1.out 2).trans rfl
                             have hcz78_3 : wc.cell? ⟨zbO, 3, none⟩ = some (.slice (some ad259) l0_3.length c0_3) := (zak za1.out 3).trans rfl
                             have hfz78_0 := zaf za1.out 0
                             have hfz78_1 := zaf za1.out 1
                             have hfz78_2 := zaf za1.out 2
                             have hfz78_3 := zaf za1.out 3
                             have p264 : 0 ≤ (t258 : Int) := of_decide_eq_true (by first | (with_reducible assumption) | assumption)
                             have q264 : t258 < (l0_0.length : Int) := of_decide_eq_true (by first | (with_reducible assumption) | assumption)
                             obtain ⟨ad264, e264, hx264_0⟩ := Kd.zbF HR0_0.out t258 p264 q264
                             cases e264
                             replace hx264_0 := (HB.out.cell (World.block_lt_of_cell? w _ hx264_0)).trans hx264_0
                             replace p264 := eq_true p264
                             replace q264 := eq_true q264
                             go_wp2_with (first | (go_at_call 164; (with_reducible refine (za7.calls kj63 (rd l0_0 t258) (⟨#[44, 46]⟩ : ByteArray) true _ A72.out).mono ?_); rintro e w' ⟨rfl, ⟨nd, rfl⟩⟩; have p266 : 0 ≤ ((ji75) : Int) := of_decide_eq_true (by first | (with_reducible assumption) | assumption); have q266 : (ji75) < (l0_2.length : Int) := of_decide_eq_true (by first | (with_reducible assumption) | assumption); obtain ⟨ad266, e266, hx266_0⟩ := Kd.zbF HR0_2.out (ji75) p266 q266; obtain rfl : ad254 = ad266 := (by injection e266); replace hx266_0 := (HB.out.cell (World.block_lt_of_cell? w _ hx266_0)).trans hx266_0; replace p266 := eq_true p266; replace q266 := eq_true q266))
                             go_meet
                             case rel => exact ⟨_, (((rd l0_2 (ji75)) == 9)), (by first | rfl | (simp; done) | (simp only [← hji75] <;> (first | rfl | simp)) | (simp [*]; done)), H', ⟨by have := HJ7.out; have := HJ21.out; have := HJ32.out; have := HJ42.out; have := HJ46.out; have := HJ59.out; have := HJ63.out; first | omega | exact Nat.le_refl _⟩, ⟨by (with_reducible repeat (first | refine zar ?_ _ | refine zat ?_ | refine zai ?_ _)); exact za1.out⟩, ⟨by repeat (first | (with_reducible first | exact HB.out | apply zac | apply zaa | apply zad | refine zas ?_ GE253.out) | exact HB.out)⟩⟩
                            rw [if_neg c77] at H
                            exact absurd H (by simp)
                           rw [if_neg c76] at H
                           exact absurd H (by simp)
                          rw [if_neg c74] at H
                          have c74b0 : decide (0 < t258) = false := decide_eq_false c74
                          clear c74; have H' := zab.mk H; clear H
                          have hcz79_0 : wc.cell? ⟨zbO, 0, none⟩ = some (.slice A0_0 l0_0.length c0_0) := (zak za1.out 0).trans rfl
                          have hcz79_1 : wc.cell? ⟨zbO, 1, none⟩ = some (.slice A0_1 l0_1.length c0_1) := (zak za1.out 1).trans rfl
                          have hcz79_2 : wc.cell? ⟨zbO, 2, none⟩ = some (.slice (some ad254) l0_2.length c0_2) := (zak za1.out 2).trans rfl
                          have hcz79_3 : wc.cell? ⟨zbO, 3, none⟩ = some (.slice (some ad259) l0_3.length c0_3) := (zak za1.out 3).trans rfl
                          have hfz79_0 := zaf za1.out 0
                          have hfz79_1 := zaf za1.out 1
                          have hfz79_2 := zaf za1.out 2
                          have hfz79_3 := zaf za1.out 3
                          have p264 : 0 ≤ (t258 : Int) := of_decide_eq_true (by first | (with_reducible assumption) | assumption)
                          have q264 : t258 < (l0_0.length : Int) := of_decide_eq_true (by first | (with_reducible assumption) | assumption)
                          obtain ⟨ad264, e264, hx264_0⟩ := Kd.zbF HR0_0.out t258 p264 q264
                          cases e264
                          replace hx264_0 := (HB.out.cell (World.block_lt_of_cell? w _ hx264_0)).trans hx264_0
                          replace p264 := eq_true p264
                          replace q264 := eq_true q264
                          go_wp2_with (first | (go_at_call 164; (with_reducible refine (za7.calls kj63 (rd l0_0 t258) (⟨#[44, 46]⟩ : ByteArray) true _ A72.out).mono ?_); rintro e w' ⟨rfl, ⟨nd, rfl⟩⟩))
                          go_meet
                          case rel => exact ⟨_, (false), (by first | rfl | (simp; done) | (simp [*]; done)), H', ⟨by have := HJ7.out; have := HJ21.out; have := HJ32.out; have := HJ42.out; have := HJ46.out; have := HJ59.out; have := HJ63.out; first | omega | exact Nat.le_refl _⟩, ⟨by (with_reducible repeat (first | refine zar ?_ _ | refine zat ?_ | refine zai ?_ _)); exact za1.out⟩, ⟨by repeat (first | (with_reducible first | exact HB.out | apply zac | apply zaa | apply zad | refine zas ?_ GE253.out) | exact HB.out)⟩⟩
                         replace c73 := Bool.eq_false_iff.mpr c73
                         subst c73
                         replace H : (zaj.j7 kj63 a1 (rd l0_2 (ji3)) (rd l0_2 a1) false l0_0 l0_1 l0_2 l0_3) = some r := by rw [if_neg (show ¬ (false = true) by decide)] at H; exact H
                         have H' := zab.mk H; clear H
                         have hcz80_0 : wc.cell? ⟨zbO, 0, none⟩ = some (.slice A0_0 l0_0.length c0_0) := (zak za1.out 0).trans rfl
                         have hcz80_1 : wc.cell? ⟨zbO, 1, none⟩ = some (.slice A0_1 l0_1.length c0_1) := (zak za1.out 1).trans rfl
                         have hcz80_2 : wc.cell? ⟨zbO, 2, none⟩ = some (.slice (some ad254) l0_2.length c0_2) := (zak za1.out 2).trans rfl
                         have hcz80_3 : wc.cell? ⟨zbO, 3, none⟩ = some (.slice (some ad259) l0_3.length c0_3) := (zak za1.out 3).trans rfl
                         have hfz80_0 := zaf za1.out 0
                         have hfz80_1 := zaf za1.out 1
                         have hfz80_2 := zaf za1.out 2
                         have hfz80_3 := zaf za1.out 3
                         have p264 : 0 ≤ (t258 : Int) := of_decide_eq_true (by first | (with_reducible assumption) | assumption)
                         have q264 : t258 < (l0_0.length : Int) := of_decide_eq_true (by first | (with_reducible assumption) | assumption)
                         obtain ⟨ad264, e264, hx264_0⟩ := Kd.zbF HR0_0.out t258 p264 q264
                         cases e264
                         replace hx264_0 := (HB.out.cell (World.block_lt_of_cell? w _ hx264_0)).trans hx264_0
                         replace p264 := eq_true p264
                         replace q264 := eq_true q264
                         go_wp2_with (first | (go_at_call 164; (with_reducible refine (za7.calls kj63 (rd l0_0 t258) (⟨#[44, 46]⟩ : ByteArray) false _ A72.out).mono ?_); rintro e w' ⟨rfl, ⟨nd, rfl⟩⟩))
                         go_meet
                         case rel => exact ⟨_, (false), (by first | rfl | (simp; done) | (simp [*]; done)), H', ⟨by have := HJ7.out; have := HJ21.out; have := HJ32.out; have := HJ42.out; have := HJ46.out; have := HJ59.out; have := HJ63.out; first | omega | exact Nat.le_refl _⟩, ⟨by (with_reducible repeat (first | refine zar ?_ _ | refine zat ?_ | refine zai ?_ _)); exact za1.out⟩, ⟨by repeat (first | (with_reducible first | exact HB.out | apply zac | apply zaa | apply zad | refine zas ?_ GE253.out) | exact HB.out)⟩⟩
                        rw [if_neg c71] at H
                        exact absurd H (by simp)
                       rw [if_neg c70] at H
                       exact absurd H (by simp)
                      rw [if_neg c69] at H
                      have c69b0 : ((rd l0_2 a1) == 9) = false := beq_eq_false_iff_ne.mpr c69
                      have c69b1 : ((rd l0_2 a1) != 9) = true := bne_iff_ne.mpr c69
                      (first | rw [c69b0] | rw [c69b1] | (simp only [zbo, i32_w]; rw [c69b0]) | skip)
                      have H' := zab.mk H; clear H
                      go_wp2
                      go_meet
                      case rel => exact ⟨_, (false), (by first | rfl | (simp; done) | (simp [*]; done)), H', ⟨by have := HJ7.out; have := HJ21.out; have := HJ32.out; have := HJ42.out; have := HJ46.out; have := HJ59.out; have := HJ63.out; first | omega | exact Nat.le_refl _⟩, ⟨by (with_reducible repeat (first | refine zar ?_ _ | refine zat ?_ | refine zai ?_ _)); exact za1.out⟩, ⟨by repeat (first | (with_reducible first | exact HB.out | apply zac | apply zaa | apply zad | refine zas ?_ GE253.out) | exact HB.out)⟩⟩
                     case rest => as_aux_lemma =>
                      clear HC68
                      try clear c4b0
                      try clear c5b0
                      try clear c6b0
                      try clear c7b0
                      try clear c15b0
                      try clear c16b0
                      try clear c18
                      try clear c28
                      try clear c30
                      try clear c42
                      try clear c46
                      try clear c58
                      try clear c59
                      try clear c59b0
                      try clear c59b1
                      try clear c62
                      try clear c63
                      try clear c63b0
                      try clear c63b1
                      try clear c67
                      try clear hcz10_0
                      try clear hcz10_1
                      try clear hcz10_2
                      try clear hcz10_3
                      try clear hcz23_0
                      try clear hcz23_1
                      try clear hcz23_2
                      try clear hcz23_3
                      try clear hcz25_0
                      try clear hcz25_1
                      try clear hcz25_2
                      try clear hcz25_3
                      try clear hcz34_0
                      try clear hcz34_1
                      try clear hcz34_2
                      try clear hcz34_3
                      try clear hfz10_0
                      try clear hfz10_1
                      try clear hfz10_2
                      try clear hfz10_3
                      try clear hfz23_0
                      try clear hfz23_1
                      try clear hfz23_2
                      try clear hfz23_3
                      try clear hfz25_0
                      try clear hfz25_1
                      try clear hfz25_2
                      try clear hfz25_3
                      try clear hfz34_0
                      try clear hfz34_1
                      try clear hfz34_2
                      try clear hfz34_3
                      try clear hx254_0
                      try clear hx255_0
                      try clear hx259_0
                      try clear p254
                      try clear p255
                      try clear p259
                      try clear q254
                      try clear q255
                      try clear q259
                      obtain ⟨kq, x120_67, rfl, HA, HJ67, za1, HB⟩ := hcut
                      cases kq with
                      | zero => exact absurd HA.out (by simp [zaj.j7])
                      | succ kj67 =>
                       have H := HA.out; clear HA
                       simp only [zaj.j7] at H
                       by_cases c81 : x120_67 = true
                       ·subst c81
                        replace H : (some false) = some r := by rw [if_pos rfl] at H; exact H
                        obtain rfl := Option.some.inj H
                        go_wp2
                        go_ret
                        exact ⟨by first | rfl | (simp [zam, zal] <;> rfl) | (simp only [← hji3]; first | rfl | (simp [zam, zal] <;> rfl)) | (simp [*, zam, zal] <;> rfl), by repeat (first | (with_reducible first | exact HB.out | apply zac | apply zaa | apply zad | refine zas ?_ GE253.out) | exact HB.out)⟩
                       replace c81 := Bool.eq_false_iff.mpr c81
                       subst c81
                       replace H : (if (rd l0_2 (ji3)) = 12 then (if (rd l0_2 a1) = 12 then ((zaL.f kj67 l0_0 l0_1 l0_2 l0_3 (wrap64 (a1 - 1))).bind fun t267 => (some ((Int.tmod t267 2) == 0))) else (some true)) else (some true)) = some r := by rw [if_neg (show ¬ (false = true) by decide)] at H; exact H
                       by_cases c82 : (rd l0_2 (ji3)) = 12
                       ·rw [if_pos c82] at H
                        have c82b0 : ((rd l0_2 (ji3)) == 12) = true := beq_iff_eq.mpr c82
                        have c82b1 : ((rd l0_2 (ji3)) != 12) = false := bne_eq_false_iff_eq.mpr c82
                        clear c82
                        by_cases c83 : (rd l0_2 a1) = 12
                        ·rw [if_pos c83] at H
                         have c83b0 : ((rd l0_2 a1) == 12) = true := beq_iff_eq.mpr c83
                         have c83b1 : ((rd l0_2 a1) != 12) = false := bne_eq_false_iff_eq.mpr c83
                         clear c83; replace H := Option.bind_eq_some_iff.mp H
                         obtain ⟨t267, A840, H⟩ := H
                         try rw [hji3] at A840
                         replace H : (some ((Int.tmod t267 2) == 0)) = some r := H
                         have A84 := zab.mk A840; clear A840; obtain rfl := Option.some.inj H
                         have hcz85_0 : wc.cell? ⟨zbO, 0, none⟩ = some (.slice A0_0 l0_0.length c0_0) := (zak za1.out 0).trans rfl
                         have hcz85_1 : wc.cell? ⟨zbO, 1, none⟩ = some (.slice A0_1 l0_1.length c0_1) := (zak za1.out 1).trans rfl
                         have hcz85_2 : wc.cell? ⟨zbO, 2, none⟩ = some (.slice (some ad254) l0_2.length c0_2) := (zak za1.out 2).trans rfl
                         have hcz85_3 : wc.cell? ⟨zbO, 3, none⟩ = some (.slice (some ad259) l0_3.length c0_3) := (zak za1.out 3).trans rfl
                         have hfz85_0 := zaf za1.out 0
                         have hfz85_1 := zaf za1.out 1
                         have hfz85_2 := zaf za1.out 2
                         have hfz85_3 := zaf za1.out 3
                         go_wp2_with (first | ((with_reducible refine zae (f := 165) rfl ?_); refine zaB (some 155) rfl rfl Tryd.func165 (by kernel_rfl) rfl #[.agg #[.slice A0_0 l0_0.length c0_0, .slice A0_1 l0_1.length c0_1, .slice (some ad254) l0_2.length c0_2, .slice (some ad259) l0_3.length c0_3], .int .i64 ji3] rfl (by (try simp only [List.map_toArray, List.map_cons, List.map_nil]); first | done | rfl | (simp only [List.length_drop, List.length_take]; rfl)) ?_; (with_reducible refine (zaL.calls kj67 _ _ l0_0 _ _ l0_1 _ _ l0_2 _ _ l0_3 ji3 t267 _ ?side1 ?side2 ?side3 ?side4 ?side5 ?side6 ?side7 ?side8 A84.out).mono ?_); (case side1 => repeat (first | exact (Kd.C_below HR0_0.out HB.out) | (with_reducible refine Kd.C_alloc ?_ _) | (with_reducible refine Kd.C_drewN ?_ _) | (with_reducible refine Kd.C_drew ?_))); (case side2 => exact HC0_0.out); (case side3 => repeat (first | exact (Kd.C_below HR0_1.out HB.out) | (with_reducible refine Kd.C_alloc ?_ _) | (with_reducible refine Kd.C_drewN ?_ _) | (with_reducible refine Kd.C_drew ?_))); (case side4 => exact HC0_1.out); (case side5 => repeat (first | exact (Kd.C_below HR0_2.out HB.out) | (with_reducible refine Kd.C_alloc ?_ _) | (with_reducible refine Kd.C_drewN ?_ _) | (with_reducible refine Kd.C_drew ?_))); (case side6 => exact HC0_2.out); (case side7 => repeat (first | exact (Kd.C_below HR0_3.out HB.out) | (with_reducible refine Kd.C_alloc ?_ _) | (with_reducible refine Kd.C_drewN ?_ _) | (with_reducible refine Kd.C_drew ?_))); (case side8 => exact HC0_3.out); rintro e w86 ⟨rfl, hb⟩; refine ⟨_, rfl, ?_⟩; have n0_ := zab.mk (za8 (g := zbO) (o := .cells #[.slice A0_0 l0_0.length c0_0, .slice A0_1 l0_1.length c0_1, .slice (some ad254) l0_2.length c0_2, .slice (some ad259) l0_3.length c0_3] 128 (0, 0)) (by (with_reducible repeat (first | refine zar ?_ _ | refine zat ?_ | refine zai ?_ _)); exact za1.out) hb); have n1_ := zab.mk (zaw (by repeat (first | (with_reducible first | exact HB.out | apply zac | apply zaa | apply zad | refine zas ?_ GE253.out) | exact HB.out)) hb); clear za1 HB; have za1 := n0_; have HB := n1_; clear n0_ n1_; (try clear hb); (try clear hb2); (try clear hk); (try clear hi)))
                         go_ret
                         exact ⟨by first | rfl | (simp [zam, zal] <;> rfl) | (simp only [← hji3]; first | rfl | (simp [zam, zal] <;> rfl)) | (simp [*, zam, zal] <;> rfl), by repeat (first | (with_reducible first | exact HB.out | apply zac | apply zaa | apply zad | refine zas ?_ GE253.out) | exact HB.out)⟩
                        rw [if_neg c83] at H
                        have c83b0 : ((rd l0_2 a1) == 12) = false := beq_eq_false_iff_ne.mpr c83
                        have c83b1 : ((rd l0_2 a1) != 12) = true := bne_iff_ne.mpr c83
                        obtain rfl := Option.some.inj H
                        go_wp2
                        go_ret
                        exact ⟨by first | rfl | (simp [zam, zal] <;> rfl) | (simp only [← hji3]; first | rfl | (simp [zam, zal] <;> rfl)) | (simp [*, zam, zal] <;> rfl), by repeat (first | (with_reducible first | exact HB.out | apply zac | apply zaa | apply zad | refine zas ?_ GE253.out) | exact HB.out)⟩
                       rw [if_neg c82] at H
                       have c82b0 : ((rd l0_2 (ji3)) == 12) = false := beq_eq_false_iff_ne.mpr c82
                       have c82b1 : ((rd l0_2 (ji3)) != 12) = true := bne_iff_ne.mpr c82
                       obtain rfl := Option.some.inj H
                       go_wp2
                       go_ret
                       exact ⟨by first | rfl | (simp [zam, zal] <;> rfl) | (simp only [← hji3]; first | rfl | (simp [zam, zal] <;> rfl)) | (simp [*, zam, zal] <;> rfl), by repeat (first | (with_reducible first | exact HB.out | apply zac | apply zaa | apply zad | refine zas ?_ GE253.out) | exact HB.out)⟩
        rw [if_neg c16] at H
        exact absurd H (by simp)
       rw [if_neg c15] at H
       exact absurd H (by simp)
    rw [if_neg c7] at H
    exact absurd H (by simp)
   rw [if_neg c6] at H
   exact absurd H (by simp)
  rw [if_neg c5] at H
  exact absurd H (by simp)
 rw [if_neg c4] at H
 exact absurd H (by simp)
end Go.Proofs.YtbppeepihlajoaaDoor.P
