/- Written by a program of this session: plain Lean functions for Go functions, and for each the proof that the call comes to what the function says. -/
import Derived.Test.YtfafjbolmeimmaaGreatDoorAb
import Derived.Test.YtfafjbolmeimmaaGreatDoorF4
import Derived.Test.YtfafjbolmeimmaaGreatDoorF11
namespace Go.Proofs.YtfafjbolmeimmaaGreatDoor.P
open Go.RowKit Go.Proofs.YtfafjbolmeimmaaGreatDoorW.PrintWords Go.Proofs.YtfafjbolmeimmaaGreatDoorW.PrintLast Go.Proofs.YtfafjbolmeimmaaGreatDoorW.PrintMore
attribute [local go_sem] zbm zbn max_two min_two za9 za8 zbk zbj
set_option linter.unusedVariables false
set_option linter.unusedSimpArgs false
def zat.f (s0_0 : ByteArray) (s0_1 : Int) (s0_2 : Bool) (a1 : Int) : Option (ByteArray × Int × Bool) := if s0_2 = true then (some (s0_0, s0_1, s0_2)) else (some (s0_0, a1, true))
set_option maxHeartbeats 8000000 in
set_option maxRecDepth 100000 in
theorem zat.calls (g : Nat) (s0_0 : ByteArray) (s0_1 : Int) (s0_2 : Bool) (a1 : Int) (r1 : ByteArray) (r2 : Int) (r3 : Bool) (w0 w : World) (hI : zae w0 w g s0_0 s0_1 s0_2) (hB : Below w0.heap.size w0 w) (h : zat.f s0_0 s0_1 s0_2 a1 = some (r1, r2, r3)) :
  Calls Tryz.prog 122 #[.pointer (some ⟨g, 0, none⟩), .int .i64 a1] w fun e w' => e = .returned (.tuple #[]) ∧ zae w0 w' g r1 r2 r3 ∧ Below w0.heap.size w0 w' ∧ KeepBut w w' g none := by
 have HI0 := zaa.mk hI
 have HK := zaa.mk (KeepBut.refl w g none)
 have HL := zaa.mk hB.size; clear hI; have HW0 := zaa.mk hB.size; have HB := zaa.mk hB; clear hB
 have H : (if s0_2 = true then (some (s0_0, s0_1, s0_2)) else (some (s0_0, a1, true))) = some (r1, r2, r3) := h
 clear h
 by_cases c3 : s0_2 = true
 ·subst c3
  replace H : (some (s0_0, s0_1, true)) = some (r1, r2, r3) := by rw [if_pos rfl] at H; exact H
  simp only [Option.some.injEq, Prod.mk.injEq] at H
  obtain ⟨rfl, rfl, rfl⟩ := H
  obtain ⟨HGz4, hgz4⟩ := HI0.out
  have hcz4_0 := cellS119_0 HGz4
  have hcz4_1 := cellS119_1 HGz4
  have hcz4_2 := cellS119_2 HGz4
  have hfz4_0 := zah HGz4 0
  have hfz4_1 := zah HGz4 1
  have hfz4_2 := zah HGz4 2
  clear HGz4 hgz4
  go_enter Tryz.func122, Tryz.ntmps122
  go_wp2
  first | go_end0 | ((try simp only [Exit.inBlock, Exit.then]); refine bodyPost_ret (results_none rfl _ _ _) rfl ?_)
  exact ⟨yq4, yq12 HI0.out, yq13 HB.out HI0.out, yq6 HK.out⟩
 replace c3 := Bool.eq_false_iff.mpr c3
 subst c3
 replace H : (some (s0_0, a1, true)) = some (r1, r2, r3) := by rw [if_neg (show ¬ (false = true) by decide)] at H; exact H
 simp only [Option.some.injEq, Prod.mk.injEq] at H
 obtain ⟨rfl, rfl, rfl⟩ := H
 obtain ⟨HGz5, hgz5⟩ := HI0.out
 have hcz5_0 := cellS119_0 HGz5
 have hcz5_1 := cellS119_1 HGz5
 have hcz5_2 := cellS119_2 HGz5
 have hfz5_0 := zah HGz5 0
 have hfz5_1 := zah HGz5 1
 have hfz5_2 := zah HGz5 2
 clear HGz5 hgz5
 go_enter Tryz.func122, Tryz.ntmps122
 go_wp2
 first | go_end0 | ((try simp only [Exit.inBlock, Exit.then]); refine bodyPost_ret (results_none rfl _ _ _) rfl ?_)
 exact ⟨yq4, yq12 HI0.out, yq13 HB.out HI0.out, yq6 HK.out⟩
mutual
def zaf.l0 : Nat → Int → Int → Int → Int → ByteArray → Int → Bool → Option (Int × ByteArray × Int × Bool)
 | 0, _, _, _, _, _, _, _ => none
 | k + 1, x1, x5, x6, x7, x1000, x1001, x1002 => if x1002 = true then (zaf.j1 k x1 x5 x6 x7 false x1000 x1001 x1002) else (if x1001 < (x1000.size : Int) then (if 0 ≤ x1001 then (if (bt x1000 x1001) ≥ 48 then (if (bt x1000 x1001) ≤ 57 then (if x7 = 0 then (zaf.j1 k x1 x5 x6 x7 true x1000 x1001 x1002) else (if 0 ≤ x5 then (if x5 < (x1000.size : Int) then (zaf.j1 k x1 x5 x6 x7 ((bt x1000 x5) != 48) x1000 x1001 x1002) else (none)) else (none))) else (zaf.j1 k x1 x5 x6 x7 false x1000 x1001 x1002)) else (zaf.j1 k x1 x5 x6 x7 false x1000 x1001 x1002)) else (none)) else (zaf.j1 k x1 x5 x6 x7 false x1000 x1001 x1002))
def zaf.j1 : Nat → Int → Int → Int → Int → Bool → ByteArray → Int → Bool → Option (Int × ByteArray × Int × Bool)
 | 0, _, _, _, _, _, _, _, _ => none
 | k + 1, x1, x5, x6, x7, x65, x1000, x1001, x1002 => if x65 = true then (if x6 ≤ x1 then (if 0 ≤ x1001 then (if x1001 < (x1000.size : Int) then (zaf.l0 k x1 x5 (wrap64 ((wrap64 (10 * x6)) + (((bt x1000 x1001) - 48) % 256))) (wrap64 (x7 + 1)) x1000 (wrap64 (x1001 + 1)) x1002) else (none)) else (none)) else (zaf.l0 k x1 x5 x6 (wrap64 (x7 + 1)) x1000 (wrap64 (x1001 + 1)) x1002)) else (if x7 = 0 then ((zat.f x1000 x1001 x1002 x1001).bind fun bt185 => (if x6 > x1 then ((zat.f bt185.1 bt185.2.1 bt185.2.2 x5).bind fun bt188 => (some (x6, bt188.1, bt188.2.1, bt188.2.2))) else (some (x6, bt185.1, bt185.2.1, bt185.2.2)))) else (if x6 > x1 then ((zat.f x1000 x1001 x1002 x5).bind fun bt191 => (some (x6, bt191.1, bt191.2.1, bt191.2.2))) else (some (x6, x1000, x1001, x1002))))
end
def zaf.f (k : Nat) (s0_0 : ByteArray) (s0_1 : Int) (s0_2 : Bool) (a1 : Int) : Option (Int × ByteArray × Int × Bool) := zaf.l0 k a1 s0_1 0 0 s0_0 s0_1 s0_2
set_option maxHeartbeats 8000000 in
set_option maxRecDepth 100000 in
theorem zaf.calls (k : Nat) (g : Nat) (s0_0 : ByteArray) (s0_1 : Int) (s0_2 : Bool) (a1 : Int) (r1 : Int) (r2 : ByteArray) (r3 : Int) (r4 : Bool) (w0 w : World) (hI : zae w0 w g s0_0 s0_1 s0_2) (hB : Below w0.heap.size w0 w) (h : zaf.f k s0_0 s0_1 s0_2 a1 = some (r1, r2, r3, r4)) :
  Calls Tryz.prog 123 #[.pointer (some ⟨g, 0, none⟩), .int .i64 a1] w fun e w' => e = .returned (.int .i64 r1) ∧ zae w0 w' g r2 r3 r4 ∧ Below w0.heap.size w0 w' ∧ KeepBut w w' g none := by
 have HI0 := zaa.mk hI
 have HK := zaa.mk (KeepBut.refl w g none)
 have HL := zaa.mk hB.size; clear hI; have HW0 := zaa.mk hB.size; have HB := zaa.mk hB; clear hB
 have H : (zaf.l0 k a1 s0_1 0 0 s0_0 s0_1 s0_2) = some (r1, r2, r3, r4) := h
 clear h; have H' := zaa.mk H; clear H
 obtain ⟨HGz3, hgz3⟩ := HI0.out
 have hcz3_0 := cellS119_0 HGz3
 have hcz3_1 := cellS119_1 HGz3
 have hcz3_2 := cellS119_2 HGz3
 have hfz3_0 := zah HGz3 0
 have hfz3_1 := zah HGz3 1
 have hfz3_2 := zah HGz3 2
 clear HGz3 hgz3
 go_enter Tryz.func123, Tryz.ntmps123
 go_wp2
 repeat (go_quiet (fail); try go_wp2)
 go_loopg [6, 7] k (fun kq v6 v7 w' => ∃ (x6_1 : Int) (x7_1 : Int) (zaG : Int), v6 = .int .i64 x6_1 ∧ v7 = .int .i64 x7_1 ∧ zaa (zaf.l0 kq a1 s0_1 x6_1 x7_1 s0_0 zaG s0_2 = some (r1, r2, r3, r4)) ∧ zaa (kq ≤ k) ∧ zaa (zae w0 w' g s0_0 zaG s0_2) ∧ zaa (KeepBut w w' g none) ∧ zaa (Below w0.heap.size w0 w'))
 case atStart => exact ⟨(0), (0), (s0_1), yq3, yq3, H', ⟨Nat.le_refl _⟩, ⟨yq12 HI0.out⟩, ⟨yq6 HK.out⟩, ⟨yq13 HB.out HI0.out⟩⟩
 case round =>
  clear H'
  try clear hcz3_0
  try clear hcz3_1
  try clear hcz3_2
  try clear hfz3_0
  try clear hfz3_1
  try clear hfz3_2
  obtain ⟨x6_1, x7_1, zaG, rfl, rfl, HA, HK1, HI0, HK, HB⟩ := hrel
  cases gk with
  | zero => exact absurd HA.out (by simp [zaf.l0])
  | succ k1 =>
   have H := HA.out; clear HA
   simp only [zaf.l0] at H
   have HC4 := zaa.mk H; clear H
   go_upto_region 4 with (fail)
   repeat (go_quiet (fail); go_upto_region 4 with (fail))
   go_cut [65] (fun v65 wc => ∃ (kq : Nat) (x65_3 : Bool), v65 = .bool x65_3 ∧ zaa (zaf.j1 kq a1 s0_1 x6_1 x7_1 x65_3 s0_0 zaG s0_2 = some (r1, r2, r3, r4)) ∧ zaa (kq ≤ k1) ∧ zaa (zae w0 wc g s0_0 zaG s0_2) ∧ zaa (KeepBut w wc g none) ∧ zaa (Below w0.heap.size w0 wc))
   case first =>
    have H := HC4.out; clear HC4
    by_cases c5 : s0_2 = true
    ·subst c5
     replace H : (zaf.j1 k1 a1 s0_1 x6_1 x7_1 false s0_0 zaG true) = some (r1, r2, r3, r4) := by rw [if_pos rfl] at H; exact H
     have H' := zaa.mk H; clear H
     obtain ⟨HGz6, hgz6⟩ := HI0.out
     have hcz6_0 := cellS119_0 HGz6
     have hcz6_1 := cellS119_1 HGz6
     have hcz6_2 := cellS119_2 HGz6
     have hfz6_0 := zah HGz6 0
     have hfz6_1 := zah HGz6 1
     have hfz6_2 := zah HGz6 2
     clear HGz6 hgz6
     go_wp2
     repeat (go_quiet (fail); try go_wp2)
     go_meet
     case rel => exact ⟨_, (false), yq3, H', ⟨yq24 HK1.out⟩, ⟨yq12 HI0.out⟩, ⟨yq6 HK.out⟩, ⟨yq13 HB.out HI0.out⟩⟩
    replace c5 := Bool.eq_false_iff.mpr c5
    subst c5
    replace H : (if zaG < (s0_0.size : Int) then (if 0 ≤ zaG then (if (bt s0_0 zaG) ≥ 48 then (if (bt s0_0 zaG) ≤ 57 then (if x7_1 = 0 then (zaf.j1 k1 a1 s0_1 x6_1 x7_1 true s0_0 zaG false) else (if 0 ≤ s0_1 then (if s0_1 < (s0_0.size : Int) then (zaf.j1 k1 a1 s0_1 x6_1 x7_1 ((bt s0_0 s0_1) != 48) s0_0 zaG false) else (none)) else (none))) else (zaf.j1 k1 a1 s0_1 x6_1 x7_1 false s0_0 zaG false)) else (zaf.j1 k1 a1 s0_1 x6_1 x7_1 false s0_0 zaG false)) else (none)) else (zaf.j1 k1 a1 s0_1 x6_1 x7_1 false s0_0 zaG false)) = some (r1, r2, r3, r4) := by rw [if_neg (show ¬ (false = true) by decide)] at H; exact H
    by_cases c7 : zaG < (s0_0.size : Int)
    ·rw [if_pos c7] at H
     have c7b0 : decide (zaG < (s0_0.size : Int)) = true := decide_eq_true c7
     clear c7
     (first | rw [c7b0] | rw [c7b1] | (simp only [zaE, zaH]; rw [c7b0]) | skip)
     by_cases c8 : 0 ≤ zaG
     ·rw [if_pos c8] at H
      have c8b0 : decide (0 ≤ zaG) = true := decide_eq_true c8
      clear c8
      by_cases c10 : (bt s0_0 zaG) ≥ 48
      ·rw [if_pos c10] at H
       have c10b0 : decide (48 ≤ (bt s0_0 zaG)) = true := decide_eq_true c10
       clear c10
       by_cases c12 : (bt s0_0 zaG) ≤ 57
       ·rw [if_pos c12] at H
        have c12b0 : decide ((bt s0_0 zaG) ≤ 57) = true := decide_eq_true c12
        clear c12
        by_cases c13 : x7_1 = 0
        ·rw [if_pos c13] at H
         have c13b0 : (x7_1 == 0) = true := beq_iff_eq.mpr c13
         have c13b1 : (x7_1 != 0) = false := bne_eq_false_iff_eq.mpr c13
         clear c13; have H' := zaa.mk H; clear H
         obtain ⟨HGz14, hgz14⟩ := HI0.out
         have hcz14_0 := cellS119_0 HGz14
         have hcz14_1 := cellS119_1 HGz14
         have hcz14_2 := cellS119_2 HGz14
         have hfz14_0 := zah HGz14 0
         have hfz14_1 := zah HGz14 1
         have hfz14_2 := zah HGz14 2
         clear HGz14 hgz14
         have p9 : 0 ≤ (zaG : Int) := of_decide_eq_true yq1
         have q9 : zaG < (s0_0.size : Int) := of_decide_eq_true yq1
         have hx9 := bt_at s0_0 zaG
         replace p9 := eq_true p9
         replace q9 := eq_true q9
         have p11 : 0 ≤ (zaG : Int) := of_decide_eq_true yq1
         have q11 : zaG < (s0_0.size : Int) := of_decide_eq_true yq1
         have hx11 := bt_at s0_0 zaG
         replace p11 := eq_true p11
         replace q11 := eq_true q11
         go_wp2
         repeat (go_quiet (fail); try go_wp2)
         go_meet
         case rel => exact ⟨_, (true), yq3, H', ⟨yq24 HK1.out⟩, ⟨yq12 HI0.out⟩, ⟨yq6 HK.out⟩, ⟨yq13 HB.out HI0.out⟩⟩
        rw [if_neg c13] at H
        have c13b0 : (x7_1 == 0) = false := beq_eq_false_iff_ne.mpr c13
        have c13b1 : (x7_1 != 0) = true := bne_iff_ne.mpr c13
        by_cases c15 : 0 ≤ s0_1
        ·rw [if_pos c15] at H
         have c15b0 : decide (0 ≤ s0_1) = true := decide_eq_true c15
         clear c15
         by_cases c16 : s0_1 < (s0_0.size : Int)
         ·rw [if_pos c16] at H
          have c16b0 : decide (s0_1 < (s0_0.size : Int)) = true := decide_eq_true c16
          clear c16; have H' := zaa.mk H; clear H
          obtain ⟨HGz18, hgz18⟩ := HI0.out
          have hcz18_0 := cellS119_0 HGz18
          have hcz18_1 := cellS119_1 HGz18
          have hcz18_2 := cellS119_2 HGz18
          have hfz18_0 := zah HGz18 0
          have hfz18_1 := zah HGz18 1
          have hfz18_2 := zah HGz18 2
          clear HGz18 hgz18
          have p9 : 0 ≤ (zaG : Int) := of_decide_eq_true yq1
          have q9 : zaG < (s0_0.size : Int) := of_decide_eq_true yq1
          have hx9 := bt_at s0_0 zaG
          replace p9 := eq_true p9
          replace q9 := eq_true q9
          have p11 : 0 ≤ (zaG : Int) := of_decide_eq_true yq1
          have q11 : zaG < (s0_0.size : Int) := of_decide_eq_true yq1
          have hx11 := bt_at s0_0 zaG
          replace p11 := eq_true p11
          replace q11 := eq_true q11
          have p17 : 0 ≤ (s0_1 : Int) := of_decide_eq_true yq1
          have q17 : s0_1 < (s0_0.size : Int) := of_decide_eq_true yq1
          have hx17 := bt_at s0_0 s0_1
          replace p17 := eq_true p17
          replace q17 := eq_true q17
          go_wp2
          repeat (go_quiet (fail); try go_wp2)
          go_meet
          case rel => exact ⟨_, (((bt s0_0 s0_1) != 48)), yq3, H', ⟨yq24 HK1.out⟩, ⟨yq12 HI0.out⟩, ⟨yq6 HK.out⟩, ⟨yq13 HB.out HI0.out⟩⟩
         rw [if_neg c16] at H
         exact absurd H yq21
        rw [if_neg c15] at H
        exact absurd H yq21
       rw [if_neg c12] at H
       have c12b0 : decide ((bt s0_0 zaG) ≤ 57) = false := decide_eq_false c12
       clear c12; have H' := zaa.mk H; clear H
       obtain ⟨HGz19, hgz19⟩ := HI0.out
       have hcz19_0 := cellS119_0 HGz19
       have hcz19_1 := cellS119_1 HGz19
       have hcz19_2 := cellS119_2 HGz19
       have hfz19_0 := zah HGz19 0
       have hfz19_1 := zah HGz19 1
       have hfz19_2 := zah HGz19 2
       clear HGz19 hgz19
       have p9 : 0 ≤ (zaG : Int) := of_decide_eq_true yq1
       have q9 : zaG < (s0_0.size : Int) := of_decide_eq_true yq1
       have hx9 := bt_at s0_0 zaG
       replace p9 := eq_true p9
       replace q9 := eq_true q9
       have p11 : 0 ≤ (zaG : Int) := of_decide_eq_true yq1
       have q11 : zaG < (s0_0.size : Int) := of_decide_eq_true yq1
       have hx11 := bt_at s0_0 zaG
       replace p11 := eq_true p11
       replace q11 := eq_true q11
       go_wp2
       repeat (go_quiet (fail); try go_wp2)
       go_meet
       case rel => exact ⟨_, (false), yq3, H', ⟨yq24 HK1.out⟩, ⟨yq12 HI0.out⟩, ⟨yq6 HK.out⟩, ⟨yq13 HB.out HI0.out⟩⟩
      rw [if_neg c10] at H
      have c10b0 : decide (48 ≤ (bt s0_0 zaG)) = false := decide_eq_false c10
      clear c10; have H' := zaa.mk H; clear H
      obtain ⟨HGz20, hgz20⟩ := HI0.out
      have hcz20_0 := cellS119_0 HGz20
      have hcz20_1 := cellS119_1 HGz20
      have hcz20_2 := cellS119_2 HGz20
      have hfz20_0 := zah HGz20 0
      have hfz20_1 := zah HGz20 1
      have hfz20_2 := zah HGz20 2
      clear HGz20 hgz20
      have p9 : 0 ≤ (zaG : Int) := of_decide_eq_true yq1
      have q9 : zaG < (s0_0.size : Int) := of_decide_eq_true yq1
      have hx9 := bt_at s0_0 zaG
      replace p9 := eq_true p9
      replace q9 := eq_true q9
      go_wp2
      repeat (go_quiet (fail); try go_wp2)
      go_meet
      case rel => exact ⟨_, (false), yq3, H', ⟨yq24 HK1.out⟩, ⟨yq12 HI0.out⟩, ⟨yq6 HK.out⟩, ⟨yq13 HB.out HI0.out⟩⟩
     rw [if_neg c8] at H
     exact absurd H yq21
    rw [if_neg c7] at H
    have c7b0 : decide (zaG < (s0_0.size : Int)) = false := decide_eq_false c7
    clear c7
    (first | rw [c7b0] | rw [c7b1] | (simp only [zaE, zaH]; rw [c7b0]) | skip)
    have H' := zaa.mk H; clear H
    obtain ⟨HGz21, hgz21⟩ := HI0.out
    have hcz21_0 := cellS119_0 HGz21
    have hcz21_1 := cellS119_1 HGz21
    have hcz21_2 := cellS119_2 HGz21
    have hfz21_0 := zah HGz21 0
    have hfz21_1 := zah HGz21 1
    have hfz21_2 := zah HGz21 2
    clear HGz21 hgz21
    go_wp2
    repeat (go_quiet (fail); try go_wp2)
    go_meet
    case rel => exact ⟨_, (false), yq3, H', ⟨yq24 HK1.out⟩, ⟨yq12 HI0.out⟩, ⟨yq6 HK.out⟩, ⟨yq13 HB.out HI0.out⟩⟩
   case rest =>
    clear HC4
    try clear hcz3_0
    try clear hcz3_1
    try clear hcz3_2
    try clear hfz3_0
    try clear hfz3_1
    try clear hfz3_2
    obtain ⟨kq, x65_3, rfl, HA, HJ3, HI0, HK, HB⟩ := hcut
    cases kq with
    | zero => exact absurd HA.out (by simp [zaf.j1])
    | succ kj3 =>
     have H := HA.out; clear HA
     simp only [zaf.j1] at H
     by_cases c22 : x65_3 = true
     ·subst c22
      replace H : (if x6_1 ≤ a1 then (if 0 ≤ zaG then (if zaG < (s0_0.size : Int) then (zaf.l0 kj3 a1 s0_1 (wrap64 ((wrap64 (10 * x6_1)) + (((bt s0_0 zaG) - 48) % 256))) (wrap64 (x7_1 + 1)) s0_0 (wrap64 (zaG + 1)) s0_2) else (none)) else (none)) else (zaf.l0 kj3 a1 s0_1 x6_1 (wrap64 (x7_1 + 1)) s0_0 (wrap64 (zaG + 1)) s0_2)) = some (r1, r2, r3, r4) := by rw [if_pos rfl] at H; exact H
      by_cases c23 : x6_1 ≤ a1
      ·rw [if_pos c23] at H
       have c23b0 : decide (x6_1 ≤ a1) = true := decide_eq_true c23
       clear c23
       by_cases c24 : 0 ≤ zaG
       ·rw [if_pos c24] at H
        have c24b0 : decide (0 ≤ zaG) = true := decide_eq_true c24
        clear c24
        by_cases c25 : zaG < (s0_0.size : Int)
        ·rw [if_pos c25] at H
         have c25b0 : decide (zaG < (s0_0.size : Int)) = true := decide_eq_true c25
         clear c25; have H' := zaa.mk H; clear H
         obtain ⟨HGz27, hgz27⟩ := HI0.out
         have hcz27_0 := cellS119_0 HGz27
         have hcz27_1 := cellS119_1 HGz27
         have hcz27_2 := cellS119_2 HGz27
         have hfz27_0 := zah HGz27 0
         have hfz27_1 := zah HGz27 1
         have hfz27_2 := zah HGz27 2
         clear HGz27 hgz27
         have p26 : 0 ≤ (zaG : Int) := of_decide_eq_true yq1
         have q26 : zaG < (s0_0.size : Int) := of_decide_eq_true yq1
         have hx26 := bt_at s0_0 zaG
         replace p26 := eq_true p26
         replace q26 := eq_true q26
         go_wp2
         repeat (go_quiet (fail); try go_wp2)
         go_roundg kj3
         case measure => have := HK1.out; have := HJ3.out; omega
         case rel => exact ⟨(wrap64 ((wrap64 (10 * x6_1)) + (((bt s0_0 zaG) - 48) % 256))), (wrap64 (x7_1 + 1)), (wrap64 (zaG + 1)), yq3, yq3, H', ⟨yq19 HK1.out HJ3.out⟩, ⟨yq12 HI0.out⟩, ⟨yq6 HK.out⟩, ⟨yq13 HB.out HI0.out⟩⟩
        rw [if_neg c25] at H
        exact absurd H yq21
       rw [if_neg c24] at H
       exact absurd H yq21
      rw [if_neg c23] at H
      have c23b0 : decide (x6_1 ≤ a1) = false := decide_eq_false c23
      clear c23; have H' := zaa.mk H; clear H
      obtain ⟨HGz28, hgz28⟩ := HI0.out
      have hcz28_0 := cellS119_0 HGz28
      have hcz28_1 := cellS119_1 HGz28
      have hcz28_2 := cellS119_2 HGz28
      have hfz28_0 := zah HGz28 0
      have hfz28_1 := zah HGz28 1
      have hfz28_2 := zah HGz28 2
      clear HGz28 hgz28
      go_wp2
      repeat (go_quiet (fail); try go_wp2)
      go_roundg kj3
      case measure => have := HK1.out; have := HJ3.out; omega
      case rel => exact ⟨(x6_1), (wrap64 (x7_1 + 1)), (wrap64 (zaG + 1)), yq3, yq3, H', ⟨yq19 HK1.out HJ3.out⟩, ⟨yq12 HI0.out⟩, ⟨yq6 HK.out⟩, ⟨yq13 HB.out HI0.out⟩⟩
     replace c22 := Bool.eq_false_iff.mpr c22
     subst c22
     replace H : (if x7_1 = 0 then ((zat.f s0_0 zaG s0_2 zaG).bind fun bt185 => (if x6_1 > a1 then ((zat.f bt185.1 bt185.2.1 bt185.2.2 s0_1).bind fun bt188 => (some (x6_1, bt188.1, bt188.2.1, bt188.2.2))) else (some (x6_1, bt185.1, bt185.2.1, bt185.2.2)))) else (if x6_1 > a1 then ((zat.f s0_0 zaG s0_2 s0_1).bind fun bt191 => (some (x6_1, bt191.1, bt191.2.1, bt191.2.2))) else (some (x6_1, s0_0, zaG, s0_2)))) = some (r1, r2, r3, r4) := by rw [if_neg (show ¬ (false = true) by decide)] at H; exact H
     by_cases c29 : x7_1 = 0
     ·rw [if_pos c29] at H
      have c29b0 : (x7_1 == 0) = true := beq_iff_eq.mpr c29
      have c29b1 : (x7_1 != 0) = false := bne_eq_false_iff_eq.mpr c29
      clear c29; replace H := Option.bind_eq_some_iff.mp H
      obtain ⟨⟨t185, t186, t187⟩, A300, H⟩ := H
      replace H : (if x6_1 > a1 then ((zat.f t185 t186 t187 s0_1).bind fun bt188 => (some (x6_1, bt188.1, bt188.2.1, bt188.2.2))) else (some (x6_1, t185, t186, t187))) = some (r1, r2, r3, r4) := H
      have A30 := zaa.mk A300; clear A300
      by_cases c31 : x6_1 > a1
      ·rw [if_pos c31] at H
       have c31b0 : decide (a1 < x6_1) = true := decide_eq_true c31
       clear c31; replace H := Option.bind_eq_some_iff.mp H
       obtain ⟨⟨t188, t189, t190⟩, A320, H⟩ := H
       replace H : (some (x6_1, t188, t189, t190)) = some (r1, r2, r3, r4) := H
       have A32 := zaa.mk A320; clear A320
       simp only [Option.some.injEq, Prod.mk.injEq] at H
       obtain ⟨rfl, rfl, rfl, rfl⟩ := H
       obtain ⟨HGz33, hgz33⟩ := HI0.out
       have hcz33_0 := cellS119_0 HGz33
       have hcz33_1 := cellS119_1 HGz33
       have hcz33_2 := cellS119_2 HGz33
       have hfz33_0 := zah HGz33 0
       have hfz33_1 := zah HGz33 1
       have hfz33_2 := zah HGz33 2
       clear HGz33 hgz33
       go_wp2_with (first | (go_at_call 122; (with_reducible refine (zat.calls g s0_0 zaG s0_2 zaG t185 t186 t187 w0 _ ?side1 ?side2 A30.out).mono ?_); (case side1 => repeat (first | (with_reducible first | exact HI0.out | apply zae.alloc | apply zae.drewN | apply zae.drew | apply zae.set_0 | apply zae.set_1 | apply zae.set_2) | exact HI0.out)); (case side2 => repeat (first | (with_reducible first | exact HB.out | apply zad | apply zab | apply zac | refine zai ?_ (zae.ge HI0.out)) | exact HB.out)); rintro e w34 ⟨rfl, hi, hb, hk⟩; have n0_ := zaa.mk (KeepBut.trans (yq6 HK.out) hk (.inl rfl)); have n1_ := zaa.mk (hb); have n2_ := zaa.mk (hi); clear HK HB HI0; have HK := n0_; have HB := n1_; have HI0 := n2_; clear n0_ n1_ n2_; (try clear hb); (try clear hb2); (try clear hk); (try clear hi)) | (go_at_call 122; (with_reducible refine (zat.calls g t185 t186 t187 s0_1 t188 t189 t190 w0 _ ?side1 ?side2 A32.out).mono ?_); (case side1 => repeat (first | (with_reducible first | exact HI0.out | apply zae.alloc | apply zae.drewN | apply zae.drew | apply zae.set_0 | apply zae.set_1 | apply zae.set_2) | exact HI0.out)); (case side2 => repeat (first | (with_reducible first | exact HB.out | apply zad | apply zab | apply zac | refine zai ?_ (zae.ge HI0.out)) | exact HB.out)); rintro e w35 ⟨rfl, hi, hb, hk⟩; have n0_ := zaa.mk (KeepBut.trans (yq6 HK.out) hk (.inl rfl)); have n1_ := zaa.mk (hb); have n2_ := zaa.mk (hi); clear HK HB HI0; have HK := n0_; have HB := n1_; have HI0 := n2_; clear n0_ n1_ n2_; (try clear hb); (try clear hb2); (try clear hk); (try clear hi)))
       repeat (go_quiet (first | (go_at_call 122; (with_reducible refine (zat.calls g s0_0 zaG s0_2 zaG t185 t186 t187 w0 _ ?side1 ?side2 A30.out).mono ?_); (case side1 => repeat (first | (with_reducible first | exact HI0.out | apply zae.alloc | apply zae.drewN | apply zae.drew | apply zae.set_0 | apply zae.set_1 | apply zae.set_2) | exact HI0.out)); (case side2 => repeat (first | (with_reducible first | exact HB.out | apply zad | apply zab | apply zac | refine zai ?_ (zae.ge HI0.out)) | exact HB.out)); rintro e w34 ⟨rfl, hi, hb, hk⟩; have n0_ := zaa.mk (KeepBut.trans (yq6 HK.out) hk (.inl rfl)); have n1_ := zaa.mk (hb); have n2_ := zaa.mk (hi); clear HK HB HI0; have HK := n0_; have HB := n1_; have HI0 := n2_; clear n0_ n1_ n2_; (try clear hb); (try clear hb2); (try clear hk); (try clear hi)) | (go_at_call 122; (with_reducible refine (zat.calls g t185 t186 t187 s0_1 t188 t189 t190 w0 _ ?side1 ?side2 A32.out).mono ?_); (case side1 => repeat (first | (with_reducible first | exact HI0.out | apply zae.alloc | apply zae.drewN | apply zae.drew | apply zae.set_0 | apply zae.set_1 | apply zae.set_2) | exact HI0.out)); (case side2 => repeat (first | (with_reducible first | exact HB.out | apply zad | apply zab | apply zac | refine zai ?_ (zae.ge HI0.out)) | exact HB.out)); rintro e w35 ⟨rfl, hi, hb, hk⟩; have n0_ := zaa.mk (KeepBut.trans (yq6 HK.out) hk (.inl rfl)); have n1_ := zaa.mk (hb); have n2_ := zaa.mk (hi); clear HK HB HI0; have HK := n0_; have HB := n1_; have HI0 := n2_; clear n0_ n1_ n2_; (try clear hb); (try clear hb2); (try clear hk); (try clear hi))); try go_wp2_with (first | (go_at_call 122; (with_reducible refine (zat.calls g s0_0 zaG s0_2 zaG t185 t186 t187 w0 _ ?side1 ?side2 A30.out).mono ?_); (case side1 => repeat (first | (with_reducible first | exact HI0.out | apply zae.alloc | apply zae.drewN | apply zae.drew | apply zae.set_0 | apply zae.set_1 | apply zae.set_2) | exact HI0.out)); (case side2 => repeat (first | (with_reducible first | exact HB.out | apply zad | apply zab | apply zac | refine zai ?_ (zae.ge HI0.out)) | exact HB.out)); rintro e w34 ⟨rfl, hi, hb, hk⟩; have n0_ := zaa.mk (KeepBut.trans (yq6 HK.out) hk (.inl rfl)); have n1_ := zaa.mk (hb); have n2_ := zaa.mk (hi); clear HK HB HI0; have HK := n0_; have HB := n1_; have HI0 := n2_; clear n0_ n1_ n2_; (try clear hb); (try clear hb2); (try clear hk); (try clear hi)) | (go_at_call 122; (with_reducible refine (zat.calls g t185 t186 t187 s0_1 t188 t189 t190 w0 _ ?side1 ?side2 A32.out).mono ?_); (case side1 => repeat (first | (with_reducible first | exact HI0.out | apply zae.alloc | apply zae.drewN | apply zae.drew | apply zae.set_0 | apply zae.set_1 | apply zae.set_2) | exact HI0.out)); (case side2 => repeat (first | (with_reducible first | exact HB.out | apply zad | apply zab | apply zac | refine zai ?_ (zae.ge HI0.out)) | exact HB.out)); rintro e w35 ⟨rfl, hi, hb, hk⟩; have n0_ := zaa.mk (KeepBut.trans (yq6 HK.out) hk (.inl rfl)); have n1_ := zaa.mk (hb); have n2_ := zaa.mk (hi); clear HK HB HI0; have HK := n0_; have HB := n1_; have HI0 := n2_; clear n0_ n1_ n2_; (try clear hb); (try clear hb2); (try clear hk); (try clear hi))))
       go_ret
       exact ⟨yq4, yq12 HI0.out, yq13 HB.out HI0.out, yq6 HK.out⟩
      rw [if_neg c31] at H
      have c31b0 : decide (a1 < x6_1) = false := decide_eq_false c31
      clear c31
      simp only [Option.some.injEq, Prod.mk.injEq] at H
      obtain ⟨rfl, rfl, rfl, rfl⟩ := H
      obtain ⟨HGz36, hgz36⟩ := HI0.out
      have hcz36_0 := cellS119_0 HGz36
      have hcz36_1 := cellS119_1 HGz36
      have hcz36_2 := cellS119_2 HGz36
      have hfz36_0 := zah HGz36 0
      have hfz36_1 := zah HGz36 1
      have hfz36_2 := zah HGz36 2
      clear HGz36 hgz36
      go_wp2_with (first | (go_at_call 122; (with_reducible refine (zat.calls g s0_0 zaG s0_2 zaG t185 t186 t187 w0 _ ?side1 ?side2 A30.out).mono ?_); (case side1 => repeat (first | (with_reducible first | exact HI0.out | apply zae.alloc | apply zae.drewN | apply zae.drew | apply zae.set_0 | apply zae.set_1 | apply zae.set_2) | exact HI0.out)); (case side2 => repeat (first | (with_reducible first | exact HB.out | apply zad | apply zab | apply zac | refine zai ?_ (zae.ge HI0.out)) | exact HB.out)); rintro e w37 ⟨rfl, hi, hb, hk⟩; have n0_ := zaa.mk (KeepBut.trans (yq6 HK.out) hk (.inl rfl)); have n1_ := zaa.mk (hb); have n2_ := zaa.mk (hi); clear HK HB HI0; have HK := n0_; have HB := n1_; have HI0 := n2_; clear n0_ n1_ n2_; (try clear hb); (try clear hb2); (try clear hk); (try clear hi)))
      repeat (go_quiet (first | (go_at_call 122; (with_reducible refine (zat.calls g s0_0 zaG s0_2 zaG t185 t186 t187 w0 _ ?side1 ?side2 A30.out).mono ?_); (case side1 => repeat (first | (with_reducible first | exact HI0.out | apply zae.alloc | apply zae.drewN | apply zae.drew | apply zae.set_0 | apply zae.set_1 | apply zae.set_2) | exact HI0.out)); (case side2 => repeat (first | (with_reducible first | exact HB.out | apply zad | apply zab | apply zac | refine zai ?_ (zae.ge HI0.out)) | exact HB.out)); rintro e w37 ⟨rfl, hi, hb, hk⟩; have n0_ := zaa.mk (KeepBut.trans (yq6 HK.out) hk (.inl rfl)); have n1_ := zaa.mk (hb); have n2_ := zaa.mk (hi); clear HK HB HI0; have HK := n0_; have HB := n1_; have HI0 := n2_; clear n0_ n1_ n2_; (try clear hb); (try clear hb2); (try clear hk); (try clear hi))); try go_wp2_with (first | (go_at_call 122; (with_reducible refine (zat.calls g s0_0 zaG s0_2 zaG t185 t186 t187 w0 _ ?side1 ?side2 A30.out).mono ?_); (case side1 => repeat (first | (with_reducible first | exact HI0.out | apply zae.alloc | apply zae.drewN | apply zae.drew | apply zae.set_0 | apply zae.set_1 | apply zae.set_2) | exact HI0.out)); (case side2 => repeat (first | (with_reducible first | exact HB.out | apply zad | apply zab | apply zac | refine zai ?_ (zae.ge HI0.out)) | exact HB.out)); rintro e w37 ⟨rfl, hi, hb, hk⟩; have n0_ := zaa.mk (KeepBut.trans (yq6 HK.out) hk (.inl rfl)); have n1_ := zaa.mk (hb); have n2_ := zaa.mk (hi); clear HK HB HI0; have HK := n0_; have HB := n1_; have HI0 := n2_; clear n0_ n1_ n2_; (try clear hb); (try clear hb2); (try clear hk); (try clear hi))))
      go_ret
      exact ⟨yq4, yq12 HI0.out, yq13 HB.out HI0.out, yq6 HK.out⟩
     rw [if_neg c29] at H
     have c29b0 : (x7_1 == 0) = false := beq_eq_false_iff_ne.mpr c29
     have c29b1 : (x7_1 != 0) = true := bne_iff_ne.mpr c29
     by_cases c38 : x6_1 > a1
     ·rw [if_pos c38] at H
      have c38b0 : decide (a1 < x6_1) = true := decide_eq_true c38
      clear c38; replace H := Option.bind_eq_some_iff.mp H
      obtain ⟨⟨t191, t192, t193⟩, A390, H⟩ := H
      replace H : (some (x6_1, t191, t192, t193)) = some (r1, r2, r3, r4) := H
      have A39 := zaa.mk A390; clear A390
      simp only [Option.some.injEq, Prod.mk.injEq] at H
      obtain ⟨rfl, rfl, rfl, rfl⟩ := H
      go_wp2_with (first | (go_at_call 122; (with_reducible refine (zat.calls g s0_0 zaG s0_2 s0_1 t191 t192 t193 w0 _ ?side1 ?side2 A39.out).mono ?_); (case side1 => repeat (first | (with_reducible first | exact HI0.out | apply zae.alloc | apply zae.drewN | apply zae.drew | apply zae.set_0 | apply zae.set_1 | apply zae.set_2) | exact HI0.out)); (case side2 => repeat (first | (with_reducible first | exact HB.out | apply zad | apply zab | apply zac | refine zai ?_ (zae.ge HI0.out)) | exact HB.out)); rintro e w40 ⟨rfl, hi, hb, hk⟩; have n0_ := zaa.mk (KeepBut.trans (yq6 HK.out) hk (.inl rfl)); have n1_ := zaa.mk (hb); have n2_ := zaa.mk (hi); clear HK HB HI0; have HK := n0_; have HB := n1_; have HI0 := n2_; clear n0_ n1_ n2_; (try clear hb); (try clear hb2); (try clear hk); (try clear hi)))
      repeat (go_quiet (first | (go_at_call 122; (with_reducible refine (zat.calls g s0_0 zaG s0_2 s0_1 t191 t192 t193 w0 _ ?side1 ?side2 A39.out).mono ?_); (case side1 => repeat (first | (with_reducible first | exact HI0.out | apply zae.alloc | apply zae.drewN | apply zae.drew | apply zae.set_0 | apply zae.set_1 | apply zae.set_2) | exact HI0.out)); (case side2 => repeat (first | (with_reducible first | exact HB.out | apply zad | apply zab | apply zac | refine zai ?_ (zae.ge HI0.out)) | exact HB.out)); rintro e w40 ⟨rfl, hi, hb, hk⟩; have n0_ := zaa.mk (KeepBut.trans (yq6 HK.out) hk (.inl rfl)); have n1_ := zaa.mk (hb); have n2_ := zaa.mk (hi); clear HK HB HI0; have HK := n0_; have HB := n1_; have HI0 := n2_; clear n0_ n1_ n2_; (try clear hb); (try clear hb2); (try clear hk); (try clear hi))); try go_wp2_with (first | (go_at_call 122; (with_reducible refine (zat.calls g s0_0 zaG s0_2 s0_1 t191 t192 t193 w0 _ ?side1 ?side2 A39.out).mono ?_); (case side1 => repeat (first | (with_reducible first | exact HI0.out | apply zae.alloc | apply zae.drewN | apply zae.drew | apply zae.set_0 | apply zae.set_1 | apply zae.set_2) | exact HI0.out)); (case side2 => repeat (first | (with_reducible first | exact HB.out | apply zad | apply zab | apply zac | refine zai ?_ (zae.ge HI0.out)) | exact HB.out)); rintro e w40 ⟨rfl, hi, hb, hk⟩; have n0_ := zaa.mk (KeepBut.trans (yq6 HK.out) hk (.inl rfl)); have n1_ := zaa.mk (hb); have n2_ := zaa.mk (hi); clear HK HB HI0; have HK := n0_; have HB := n1_; have HI0 := n2_; clear n0_ n1_ n2_; (try clear hb); (try clear hb2); (try clear hk); (try clear hi))))
      go_ret
      exact ⟨yq4, yq12 HI0.out, yq13 HB.out HI0.out, yq6 HK.out⟩
     rw [if_neg c38] at H
     have c38b0 : decide (a1 < x6_1) = false := decide_eq_false c38
     clear c38
     simp only [Option.some.injEq, Prod.mk.injEq] at H
     obtain ⟨rfl, rfl, rfl, rfl⟩ := H
     go_wp2
     repeat (go_quiet (fail); try go_wp2)
     go_ret
     exact ⟨yq4, yq12 HI0.out, yq13 HB.out HI0.out, yq6 HK.out⟩
def zaK.f (s0_0 : ByteArray) (s0_1 : Int) (s0_2 : Bool) (a1 : Int) : Option (ByteArray × Int × Bool) := (zav.f s0_0 s0_1 s0_2 a1).bind fun bt194 => (if bt194.1 = true then (some (bt194.2.1, bt194.2.2.1, bt194.2.2.2)) else ((zat.f bt194.2.1 bt194.2.2.1 bt194.2.2.2 bt194.2.2.1).bind fun bt198 => (some (bt198.1, bt198.2.1, bt198.2.2))))
set_option maxHeartbeats 8000000 in
set_option maxRecDepth 100000 in
theorem zaK.calls (g : Nat) (s0_0 : ByteArray) (s0_1 : Int) (s0_2 : Bool) (a1 : Int) (r1 : ByteArray) (r2 : Int) (r3 : Bool) (w0 w : World) (hI : zae w0 w g s0_0 s0_1 s0_2) (hB : Below w0.heap.size w0 w) (h : zaK.f s0_0 s0_1 s0_2 a1 = some (r1, r2, r3)) :
  Calls Tryz.prog 124 #[.pointer (some ⟨g, 0, none⟩), .int .u8 a1] w fun e w' => e = .returned (.tuple #[]) ∧ zae w0 w' g r1 r2 r3 ∧ Below w0.heap.size w0 w' ∧ KeepBut w w' g none := by
 have HI0 := zaa.mk hI
 have HK := zaa.mk (KeepBut.refl w g none)
 have HL := zaa.mk hB.size; clear hI; have HW0 := zaa.mk hB.size; have HB := zaa.mk hB; clear hB
 have H : ((zav.f s0_0 s0_1 s0_2 a1).bind fun bt194 => (if bt194.1 = true then (some (bt194.2.1, bt194.2.2.1, bt194.2.2.2)) else ((zat.f bt194.2.1 bt194.2.2.1 bt194.2.2.2 bt194.2.2.1).bind fun bt198 => (some (bt198.1, bt198.2.1, bt198.2.2))))) = some (r1, r2, r3) := h
 clear h; replace H := Option.bind_eq_some_iff.mp H
 obtain ⟨⟨t194, t195, t196, t197⟩, A30, H⟩ := H
 replace H : (if t194 = true then (some (t195, t196, t197)) else ((zat.f t195 t196 t197 t196).bind fun bt198 => (some (bt198.1, bt198.2.1, bt198.2.2)))) = some (r1, r2, r3) := H
 have A3 := zaa.mk A30; clear A30
 by_cases c4 : t194 = true
 ·subst c4
  replace H : (some (t195, t196, t197)) = some (r1, r2, r3) := by rw [if_pos rfl] at H; exact H
  simp only [Option.some.injEq, Prod.mk.injEq] at H
  obtain ⟨rfl, rfl, rfl⟩ := H
  go_enter Tryz.func124, Tryz.ntmps124
  go_wp2_with (first | ((with_reducible refine zaD (f := 100) rfl ?_); refine zbr (some 6) rfl rfl Tryz.func100 yq10 rfl #[.pointer (some ⟨g, 0, none⟩), .int .u8 a1] rfl yq2 ?_; (with_reducible refine (zav.calls g s0_0 s0_1 s0_2 a1 true t195 t196 t197 w0 _ ?side1 ?side2 A3.out).mono ?_); (case side1 => repeat (first | (with_reducible first | exact HI0.out | apply zae.alloc | apply zae.drewN | apply zae.drew | apply zae.set_0 | apply zae.set_1 | apply zae.set_2) | exact HI0.out)); (case side2 => repeat (first | (with_reducible first | exact HB.out | apply zad | apply zab | apply zac | refine zai ?_ (zae.ge HI0.out)) | exact HB.out)); rintro e w5 ⟨rfl, hi, hb, hk⟩; refine ⟨_, rfl, ?_⟩; have n0_ := zaa.mk (KeepBut.trans (yq6 HK.out) hk (.inl rfl)); have n1_ := zaa.mk (hb); have n2_ := zaa.mk (hi); clear HK HB HI0; have HK := n0_; have HB := n1_; have HI0 := n2_; clear n0_ n1_ n2_; (try clear hb); (try clear hb2); (try clear hk); (try clear hi)))
  first | go_end0 | ((try simp only [Exit.inBlock, Exit.then]); refine bodyPost_ret (results_none rfl _ _ _) rfl ?_)
  exact ⟨yq4, yq12 HI0.out, yq13 HB.out HI0.out, yq6 HK.out⟩
 replace c4 := Bool.eq_false_iff.mpr c4
 subst c4
 replace H : ((zat.f t195 t196 t197 t196).bind fun bt198 => (some (bt198.1, bt198.2.1, bt198.2.2))) = some (r1, r2, r3) := by rw [if_neg (show ¬ (false = true) by decide)] at H; exact H
 replace H := Option.bind_eq_some_iff.mp H
 obtain ⟨⟨t198, t199, t200⟩, A60, H⟩ := H
 replace H : (some (t198, t199, t200)) = some (r1, r2, r3) := H
 have A6 := zaa.mk A60; clear A60
 simp only [Option.some.injEq, Prod.mk.injEq] at H
 obtain ⟨rfl, rfl, rfl⟩ := H
 go_enter Tryz.func124, Tryz.ntmps124
 go_wp2_with (first | ((with_reducible refine zaD (f := 100) rfl ?_); refine zbr (some 6) rfl rfl Tryz.func100 yq10 rfl #[.pointer (some ⟨g, 0, none⟩), .int .u8 a1] rfl yq2 ?_; (with_reducible refine (zav.calls g s0_0 s0_1 s0_2 a1 false t195 t196 t197 w0 _ ?side1 ?side2 A3.out).mono ?_); (case side1 => repeat (first | (with_reducible first | exact HI0.out | apply zae.alloc | apply zae.drewN | apply zae.drew | apply zae.set_0 | apply zae.set_1 | apply zae.set_2) | exact HI0.out)); (case side2 => repeat (first | (with_reducible first | exact HB.out | apply zad | apply zab | apply zac | refine zai ?_ (zae.ge HI0.out)) | exact HB.out)); rintro e w7 ⟨rfl, hi, hb, hk⟩; refine ⟨_, rfl, ?_⟩; have n0_ := zaa.mk (KeepBut.trans (yq6 HK.out) hk (.inl rfl)); have n1_ := zaa.mk (hb); have n2_ := zaa.mk (hi); clear HK HB HI0; have HK := n0_; have HB := n1_; have HI0 := n2_; clear n0_ n1_ n2_; (try clear hb); (try clear hb2); (try clear hk); (try clear hi); obtain ⟨HGz8, hgz8⟩ := HI0.out; have hcz8_0 := cellS119_0 HGz8; have hcz8_1 := cellS119_1 HGz8; have hcz8_2 := cellS119_2 HGz8; have hfz8_0 := zah HGz8 0; have hfz8_1 := zah HGz8 1; have hfz8_2 := zah HGz8 2; clear HGz8 hgz8) | ((with_reducible refine zaD (f := 122) rfl ?_); refine zbr (some 13) rfl rfl Tryz.func122 yq10 rfl #[.pointer (some ⟨g, 0, none⟩), .int .i64 t196] rfl yq2 ?_; (with_reducible refine (zat.calls g t195 t196 t197 t196 t198 t199 t200 w0 _ ?side1 ?side2 A6.out).mono ?_); (case side1 => repeat (first | (with_reducible first | exact HI0.out | apply zae.alloc | apply zae.drewN | apply zae.drew | apply zae.set_0 | apply zae.set_1 | apply zae.set_2) | exact HI0.out)); (case side2 => repeat (first | (with_reducible first | exact HB.out | apply zad | apply zab | apply zac | refine zai ?_ (zae.ge HI0.out)) | exact HB.out)); rintro e w9 ⟨rfl, hi, hb, hk⟩; refine ⟨_, rfl, ?_⟩; have n0_ := zaa.mk (KeepBut.trans (yq6 HK.out) hk (.inl rfl)); have n1_ := zaa.mk (hb); have n2_ := zaa.mk (hi); clear HK HB HI0; have HK := n0_; have HB := n1_; have HI0 := n2_; clear n0_ n1_ n2_; (try clear hb); (try clear hb2); (try clear hk); (try clear hi)))
 first | go_end0 | ((try simp only [Exit.inBlock, Exit.then]); refine bodyPost_ret (results_none rfl _ _ _) rfl ?_)
 exact ⟨yq4, yq12 HI0.out, yq13 HB.out HI0.out, yq6 HK.out⟩
end Go.Proofs.YtfafjbolmeimmaaGreatDoor.P
