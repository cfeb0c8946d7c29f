/- impl's bias.adapt writes what spec's l19Bias answers. -/
import Derived.Test.YtbppeepihlajoaaDoorB9
import Derived.Test.YtbppeepihlajoaaDoorB10
namespace Go.Proofs.YtbppeepihlajoaaDoor.P
open Go.RowKit Go.Proofs.YtbppeepihlajoaaDoorW.PrintWords Go.Proofs.YtbppeepihlajoaaDoorW.PrintLast Go.Proofs.YtbppeepihlajoaaDoorW.PrintMore
attribute [local go_sem] max2_int min2_int max_two min_two
set_option linter.unusedVariables false
set_option linter.unusedSimpArgs false
def impl_bias_adapt.f (k : Nat) (s0_0 a1 a2 : Int) (a3 : Bool) : Option Int := zas.f k a1 a2 a3
theorem impl_bias_adapt.mono : ∀ s0_0 a1 a2 a3 k, LeO (impl_bias_adapt.f k s0_0 a1 a2 a3) (impl_bias_adapt.f (k + 1) s0_0 a1 a2 a3) := fun _ a1 a2 a3 k => zas.mono a1 a2 a3 k
set_option maxHeartbeats 8000000 in
set_option maxRecDepth 100000 in
theorem impl_bias_adapt.calls (k : Nat) (g : Nat) (s0_0 a1 a2 : Int) (a3 : Bool) (r1 : Int) (w0 w : World) (hI : zaK w0 w g s0_0) (hB : Below w0.heap.size w0 w) (h : impl_bias_adapt.f k s0_0 a1 a2 a3 = some r1) :
  Calls Tryd.prog 98 #[.pointer (some ⟨g, 0, none⟩), .int .i64 a1, .int .i64 a2, .bool a3] w fun e w' => e = .returned (.tuple #[]) ∧ zaK w0 w' g r1 ∧ Below w0.heap.size w0 w' ∧ KeepBut w w' g none := by
 have HI0 := zac.mk hI
 have HK := zac.mk (KeepBut.refl w g none)
 clear hI; have HB := zac.mk hB; clear hB
 have H : (if a3 = true then (zas.j0 k (wrap64 (Int.tdiv a1 700)) a2) else (zas.j0 k (wrap64 (Int.tdiv a1 2)) a2)) = some r1 := h
 clear h; have HC4 := zac.mk H; clear H
 go_enter Tryd.func98, Tryd.ntmps98
 go_upto_if 9 with (fail)
 go_cut [1] (fun v0 wc => ∃ (kq : Nat) (x0_3 : Int), v0 = .int .i64 x0_3 ∧ zac (zas.j0 kq x0_3 a2 = some r1) ∧ zac (kq ≤ k) ∧ zaQ w wc)
 case first =>
  have H := HC4.out; clear HC4
  by_cases c5 : a3 = true
  ·subst c5
   have H1 : (zas.j0 k (wrap64 (Int.tdiv a1 700)) a2) = some r1 := by rw [if_pos rfl] at H; exact H
   clear H; have H' := zac.mk H1; clear H1
   go_wp2
   go_meet
   case rel => exact ⟨_, (wrap64 (Int.tdiv a1 700)), (by first | rfl | (simp; done) | (simp [*]; done)), H', ⟨by first | omega | exact Nat.le_refl _⟩, by repeat (first | exact zaQ.refl _ | apply zaQ.step)⟩
  replace c5 := Bool.eq_false_iff.mpr c5
  subst c5
  have H1 : (zas.j0 k (wrap64 (Int.tdiv a1 2)) a2) = some r1 := by rw [if_neg (show ¬ (false = true) by decide)] at H; exact H
  clear H; have H' := zac.mk H1; clear H1
  go_wp2
  go_meet
  case rel => exact ⟨_, (wrap64 (Int.tdiv a1 2)), (by first | rfl | (simp; done) | (simp [*]; done)), H', ⟨by first | omega | exact Nat.le_refl _⟩, by repeat (first | exact zaQ.refl _ | apply zaQ.step)⟩
 case rest =>
  clear HC4
  obtain ⟨kq, x0_3, rfl, HA, HJ3, ⟨mc3, rfl⟩⟩ := hcut
  cases kq with
  | zero => exact absurd HA.out (by simp [zas.j0])
  | succ kj3 =>
   have H := HA.out; clear HA
   simp only [zas.j0] at H
   by_cases c6 : a2 = 0
   ·rw [if_pos c6] at H
    exact absurd H (by simp)
   rw [if_neg c6] at H
   have c6b0 : (a2 == 0) = false := beq_eq_false_iff_ne.mpr c6
   have c6b1 : (a2 != 0) = true := bne_iff_ne.mpr c6
   have H' := zac.mk H; clear H
   go_wp2
   go_loopg [1, 8] kj3 (fun kq v0 v7 w' => ∃ (x0_2 : Int) (x7_2 : Int), v0 = .int .i64 x0_2 ∧ v7 = .int .i64 x7_2 ∧ zac (zas.l0 kq x0_2 x7_2 = some r1) ∧ zac (kq ≤ kj3) ∧ zaQ w w')
   case atStart => exact ⟨(wrap64 (x0_3 + (wrap64 (Int.tdiv x0_3 a2)))), (0), (by first | rfl | (simp; done) | (simp [*]; done)), (by first | rfl | (simp; done) | (simp [*]; done)), H', ⟨Nat.le_refl _⟩, by repeat (first | exact zaQ.refl _ | apply zaQ.step)⟩
   case round =>
    clear H'
    try clear c6
    try clear c6b0
    try clear c6b1
    obtain ⟨x0_2, x7_2, rfl, rfl, HA, HK2, ⟨m2, rfl⟩⟩ := hrel
    cases gk with
    | zero => exact absurd HA.out (by simp [zas.l0])
    | succ k2 =>
     have H := HA.out; clear HA
     simp only [zas.l0] at H
     by_cases c7 : x0_2 > 455
     ·rw [if_pos c7] at H
      have c7b0 : decide (455 < x0_2) = true := decide_eq_true c7
      clear c7; have H' := zac.mk H; clear H
      go_wp2
      go_roundg k2
      case measure => have := HJ3.out; have := HK2.out; omega
      case rel => exact ⟨(wrap64 (Int.tdiv x0_2 35)), (wrap64 (x7_2 + 36)), (by first | rfl | (simp; done) | (simp [*]; done)), (by first | rfl | (simp; done) | (simp [*]; done)), H', ⟨by have := HJ3.out; have := HK2.out; omega⟩, by repeat (first | exact zaQ.refl _ | apply zaQ.step)⟩
     rw [if_neg c7] at H
     have c7b0 : decide (455 < x0_2) = false := decide_eq_false c7
     clear c7
     by_cases c8 : (wrap64 (x0_2 + 38)) = 0
     ·rw [if_pos c8] at H
      exact absurd H (by simp)
     rw [if_neg c8] at H
     have c8b0 : ((wrap64 (x0_2 + 38)) == 0) = false := beq_eq_false_iff_ne.mpr c8
     have c8b1 : ((wrap64 (x0_2 + 38)) != 0) = true := bne_iff_ne.mpr c8
     obtain rfl := Option.some.inj H
     obtain ⟨HGz, hgz⟩ := HI0.out
     have hcz := cellS113_0 HGz
     have hfz := zaA HGz 0
     clear HGz hgz
     go_wp2
     first | go_end0 | ((try simp only [Exit.inBlock, Exit.then]); refine bodyPost_ret (results_none rfl _ _ _) rfl ?_)
     exact ⟨rfl, by repeat (first | (with_reducible first | exact HI0.out | apply zaK.drewN | apply zaK.drew | apply zaK.set_0) | exact HI0.out), by repeat (first | (with_reducible first | exact HB.out | apply zaa | apply zad | refine zai ?_ (zaK.ge HI0.out)) | exact HB.out), by repeat (first | (with_reducible first | exact HK.out | apply KeepBut.set_ | apply zah | apply zaj) | exact HK.out)⟩
end Go.Proofs.YtbppeepihlajoaaDoor.P
