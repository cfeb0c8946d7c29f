/- Parts of a proof: words of the print tool that this claim uses, or plain lists. -/
import Derived.Test.YtfafjbolmeimmaaGreatDoorF4
import Derived.Test.YtfafjbolmeimmaaGreatDoorY5
import Derived.Test.YtfafjbolmeimmaaGreatDoorF10
import Derived.Test.YtfafjbolmeimmaaGreatDoorXKdB
import Derived.Test.YtfafjbolmeimmaaGreatDoorXKdC
namespace Go.Proofs.YtfafjbolmeimmaaGreatDoor.P
open Go.RowKit Go.Proofs.YtfafjbolmeimmaaGreatDoorW.PrintWords Go.Proofs.YtfafjbolmeimmaaGreatDoorW.PrintLast Go.Proofs.YtfafjbolmeimmaaGreatDoorW.PrintMore
attribute [local go_sem] max2_int min2_int max_two min_two zbk zbl max_four min_four
set_option linter.unusedVariables false
set_option linter.unusedSimpArgs false
def za2.f (k : Nat) (a0 : ByteArray) : Option (Bool) := (zaZ.f k a0).bind fun t171 => ((za7.f k t171).bind fun t174 => (some (t174.toList == a0.toList)))
set_option maxHeartbeats 8000000 in
set_option maxRecDepth 100000 in
theorem za2.calls (k : Nat) (a0 : ByteArray) (r : Bool) (w : World) (h : za2.f k a0 = some r) :
  Calls Tryz.prog 37 #[.string a0] w fun e w' => e = .returned (.bool r) ∧ Below w.heap.size w w' := by
 have HB := zab.mk (Below.refl w.heap.size w)
 have H : ((zaZ.f k a0).bind fun t171 => ((za7.f k t171).bind fun t174 => (some (t174.toList == a0.toList)))) = some r := h
 clear h; replace H := Option.bind_eq_some_iff.mp H
 obtain ⟨t171, A20, H⟩ := H
 replace H : ((za7.f k t171).bind fun t174 => (some (t174.toList == a0.toList))) = some r := H
 have A2 := zab.mk A20; clear A20; replace H := Option.bind_eq_some_iff.mp H
 obtain ⟨t174, A30, H⟩ := H
 replace H : (some (t174.toList == a0.toList)) = some r := H
 have A3 := zab.mk A30; clear A30; obtain rfl := Option.some.inj H
 go_enter Tryz.func37, Tryz.ntmps37
 go_wp2_with (first | ((with_reducible refine zav (f := 68) rfl ?_); refine za3 (some 4) rfl rfl Tryz.func68 (by kernel_rfl) rfl #[.string a0] rfl (by (try simp only [List.map_toArray, List.map_cons, List.map_nil]); first | done | rfl | (simp only [List.length_drop, List.length_take]; rfl)) ?_; (with_reducible refine (zaZ.calls k a0 t171 _ A2.out).mono ?_); rintro e w4 ⟨v172, rfl, ho0, hb⟩; refine ⟨_, rfl, ?_⟩; have n0_ := zab.mk (Kd.R_lower ho0 (zat (by repeat (first | (with_reducible first | exact HB.out | apply zaf | apply zac | apply zae) | exact HB.out)))); have n1_ := zab.mk (zaq (by repeat (first | (with_reducible first | exact HB.out | apply zaf | apply zac | apply zae) | exact HB.out)) hb); clear HB; have HO173 := n0_; have HB := n1_; clear n0_ n1_; (try clear hb); (try clear hb2); (try clear hk); (try clear hi); (try clear ho0); obtain ⟨Ao5, co5, eo5⟩ := Kd.R_slice HO173.out; subst eo5) | ((with_reducible refine zav (f := 70) rfl ?_); refine za3 (some 5) rfl rfl Tryz.func70 (by kernel_rfl) rfl #[.slice Ao5 t171.length co5] rfl (by (try simp only [List.map_toArray, List.map_cons, List.map_nil]); first | done | rfl | (simp only [List.length_drop, List.length_take]; rfl)) ?_; (with_reducible refine (za7.calls k _ _ t171 t174 _ ?side1 ?side2 A3.out).mono ?_); (case side1 => repeat (first | exact (Kd.za9 HO173.out).2.2 | (with_reducible refine Kd.C_alloc ?_ _) | (with_reducible refine Kd.C_drewN ?_ _) | (with_reducible refine Kd.C_drew ?_))); (case side2 => exact (Kd.za9 HO173.out).2.1); rintro e w6 ⟨rfl, hb⟩; refine ⟨_, rfl, ?_⟩; have n0_ := zab.mk (Kd.R_below (by (with_reducible repeat (first | apply Kd.R_alloc | apply Kd.R_drewN | apply Kd.R_drew)); exact HO173.out) hb); have n1_ := zab.mk (zaq (by repeat (first | (with_reducible first | exact HB.out | apply zaf | apply zac | apply zae) | exact HB.out)) hb); clear HO173 HB; have HO173 := n0_; have HB := n1_; clear n0_ n1_; (try clear hb); (try clear hb2); (try clear hk); (try clear hi)))
 go_ret
 exact ⟨by first | rfl | (simp [zam, zan] <;> rfl) | (simp [*, zam, zan] <;> rfl), by repeat (first | (with_reducible first | exact HB.out | apply zaf | apply zac | apply zae) | exact HB.out)⟩
end Go.Proofs.YtfafjbolmeimmaaGreatDoor.P
namespace Go.Proofs.YtfafjbolmeimmaaGreatDoor.P
open Go.RowKit Go.Proofs.YtfafjbolmeimmaaGreatDoorW.PrintWords Go.Proofs.YtfafjbolmeimmaaGreatDoorW.PrintLast Go.Proofs.YtfafjbolmeimmaaGreatDoorW.PrintMore
attribute [local go_sem] max2_int min2_int max_two min_two zbk zbl max_four min_four
set_option linter.unusedVariables false
set_option linter.unusedSimpArgs false
def zbd.l0 : Nat → List ByteArray → Int → Int → Option (Bool)
 | 0, _, _, _ => none
 | k + 1, x0, x1, x5 => if x5 < (x0.length : Int) then (if 0 ≤ x5 then (if ((rdOf ByteArray.empty x0 x5).size : Int) < 1 then (some false) else (if ((rdOf ByteArray.empty x0 x5).size : Int) > 30 then (some false) else ((za2.f k (rdOf ByteArray.empty x0 x5)).bind fun t183 => (if t183 = true then (zbd.l0 k x0 x1 (wrap64 (x5 + 1))) else (some false))))) else (none)) else (if (x0.length : Int) = 0 then (some true) else (some ((x0.length : Int) == x1)))
def zbd.f (k : Nat) (l0 : List ByteArray) (a1 : Int) : Option (Bool) := zbd.l0 k l0 a1 0
set_option maxHeartbeats 8000000 in
set_option maxRecDepth 100000 in
theorem zbd.calls (k : Nat) (A0 : Option Addr) (c0 : Nat) (l0 : List ByteArray) (a1 : Int) (r : Bool) (w : World) (hr0 : Kd.C Kd.string w A0 l0.length l0) (hc0 : l0.length ≤ c0) (h : zbd.f k l0 a1 = some r) :
  Calls Tryz.prog 36 #[.slice A0 l0.length c0, .int .i64 a1] w fun e w' => e = .returned (.bool r) ∧ Below w.heap.size w w' := by
 have HR0 := zab.mk hr0; have HC0 := zab.mk hc0; clear hr0 hc0
 have HB := zab.mk (Below.refl w.heap.size w)
 have H : (zbd.l0 k l0 a1 0) = some r := h
 clear h; have H' := zab.mk H; clear H
 go_enter Tryz.func36, Tryz.ntmps36
 go_wp2
 go_loopg [5] k (fun kq v5 w' => ∃ (x5_1 : Int), v5 = .int .i64 x5_1 ∧ zab (zbd.l0 kq l0 a1 x5_1 = some r) ∧ zab (kq ≤ k) ∧ zab (Below w.heap.size w w'))
 case atStart => exact ⟨(0), (by first | rfl | (simp; done) | (simp [*]; done)), H', ⟨Nat.le_refl _⟩, ⟨by repeat (first | (with_reducible first | exact HB.out | apply zaf | apply zac | apply zae) | exact HB.out)⟩⟩
 case round =>
  clear H'
  obtain ⟨x5_1, rfl, HA, HK1, HB⟩ := hrel
  cases gk with
  | zero => exact absurd HA.out (by simp [zbd.l0])
  | succ k1 =>
   have H := HA.out; clear HA
   simp only [zbd.l0] at H
   by_cases c3 : x5_1 < (l0.length : Int)
   ·rw [if_pos c3] at H
    have c3b0 : decide (x5_1 < (l0.length : Int)) = true := decide_eq_true c3
    clear c3
    by_cases c4 : 0 ≤ x5_1
    ·rw [if_pos c4] at H
     have c4b0 : decide (0 ≤ x5_1) = true := decide_eq_true c4
     clear c4
     by_cases c5 : ((rdOf ByteArray.empty l0 x5_1).size : Int) < 1
     ·rw [if_pos c5] at H
      have c5b0 : decide (((rdOf ByteArray.empty l0 x5_1).size : Int) < 1) = true := decide_eq_true c5
      have c5b1 : decide ((rdOf ByteArray.empty l0 x5_1).size < 1) = true := decide_eq_true (by omega)
      clear c5; obtain rfl := Option.some.inj H
      have p180 : 0 ≤ (x5_1 : Int) := of_decide_eq_true (by first | (with_reducible assumption) | assumption)
      have q180 : x5_1 < (l0.length : Int) := of_decide_eq_true (by first | (with_reducible assumption) | assumption)
      obtain ⟨ad180, e180, hx180_0⟩ := Kd.at_string HR0.out x5_1 p180 q180
      cases e180
      replace hx180_0 := (HB.out.cell (World.block_lt_of_cell? w _ hx180_0)).trans hx180_0
      replace p180 := eq_true p180
      replace q180 := eq_true q180
      go_wp2
      go_ret
      exact ⟨by first | rfl | (simp [zam, zan] <;> rfl) | (simp [*, zam, zan] <;> rfl), by repeat (first | (with_reducible first | exact HB.out | apply zaf | apply zac | apply zae) | exact HB.out)⟩
     rw [if_neg c5] at H
     have c5b0 : decide (((rdOf ByteArray.empty l0 x5_1).size : Int) < 1) = false := decide_eq_false c5
     have c5b1 : decide ((rdOf ByteArray.empty l0 x5_1).size < 1) = false := decide_eq_false (by omega)
     clear c5
     by_cases c6 : ((rdOf ByteArray.empty l0 x5_1).size : Int) > 30
     ·rw [if_pos c6] at H
      have c6b0 : decide (30 < ((rdOf ByteArray.empty l0 x5_1).size : Int)) = true := decide_eq_true c6
      have c6b1 : decide (30 < (rdOf ByteArray.empty l0 x5_1).size) = true := decide_eq_true (by omega)
      clear c6; obtain rfl := Option.some.inj H
      have p180 : 0 ≤ (x5_1 : Int) := of_decide_eq_true (by first | (with_reducible assumption) | assumption)
      have q180 : x5_1 < (l0.length : Int) := of_decide_eq_true (by first | (with_reducible assumption) | assumption)
      obtain ⟨ad180, e180, hx180_0⟩ := Kd.at_string HR0.out x5_1 p180 q180
      cases e180
      replace hx180_0 := (HB.out.cell (World.block_lt_of_cell? w _ hx180_0)).trans hx180_0
      replace p180 := eq_true p180
      replace q180 := eq_true q180
      have p181 : 0 ≤ (x5_1 : Int) := of_decide_eq_true (by first | (with_reducible assumption) | assumption)
      have q181 : x5_1 < (l0.length : Int) := of_decide_eq_true (by first | (with_reducible assumption) | assumption)
      obtain ⟨ad181, e181, hx181_0⟩ := Kd.at_string HR0.out x5_1 p181 q181
      obtain rfl : ad180 = ad181 := (by injection e181)
      replace hx181_0 := (HB.out.cell (World.block_lt_of_cell? w _ hx181_0)).trans hx181_0
      replace p181 := eq_true p181
      replace q181 := eq_true q181
      go_wp2
      go_ret
      exact ⟨by first | rfl | (simp [zam, zan] <;> rfl) | (simp [*, zam, zan] <;> rfl), by repeat (first | (with_reducible first | exact HB.out | apply zaf | apply zac | apply zae) | exact HB.out)⟩
     rw [if_neg c6] at H
     have c6b0 : decide (30 < ((rdOf ByteArray.empty l0 x5_1).size : Int)) = false := decide_eq_false c6
     have c6b1 : decide (30 < (rdOf ByteArray.empty l0 x5_1).size) = false := decide_eq_false (by omega)
     clear c6; replace H := Option.bind_eq_some_iff.mp H
     obtain ⟨t183, A70, H⟩ := H
     replace H : (if t183 = true then (zbd.l0 k1 l0 a1 (wrap64 (x5_1 + 1))) else (some false)) = some r := H
     have A7 := zab.mk A70; clear A70
     by_cases c8 : t183 = true
     ·subst c8
      replace H : (zbd.l0 k1 l0 a1 (wrap64 (x5_1 + 1))) = some r := by rw [if_pos rfl] at H; exact H
      have H' := zab.mk H; clear H
      have p180 : 0 ≤ (x5_1 : Int) := of_decide_eq_true (by first | (with_reducible assumption) | assumption)
      have q180 : x5_1 < (l0.length : Int) := of_decide_eq_true (by first | (with_reducible assumption) | assumption)
      obtain ⟨ad180, e180, hx180_0⟩ := Kd.at_string HR0.out x5_1 p180 q180
      cases e180
      replace hx180_0 := (HB.out.cell (World.block_lt_of_cell? w _ hx180_0)).trans hx180_0
      replace p180 := eq_true p180
      replace q180 := eq_true q180
      have p181 : 0 ≤ (x5_1 : Int) := of_decide_eq_true (by first | (with_reducible assumption) | assumption)
      have q181 : x5_1 < (l0.length : Int) := of_decide_eq_true (by first | (with_reducible assumption) | assumption)
      obtain ⟨ad181, e181, hx181_0⟩ := Kd.at_string HR0.out x5_1 p181 q181
      obtain rfl : ad180 = ad181 := (by injection e181)
      replace hx181_0 := (HB.out.cell (World.block_lt_of_cell? w _ hx181_0)).trans hx181_0
      replace p181 := eq_true p181
      replace q181 := eq_true q181
      have p182 : 0 ≤ (x5_1 : Int) := of_decide_eq_true (by first | (with_reducible assumption) | assumption)
      have q182 : x5_1 < (l0.length : Int) := of_decide_eq_true (by first | (with_reducible assumption) | assumption)
      obtain ⟨ad182, e182, hx182_0⟩ := Kd.at_string HR0.out x5_1 p182 q182
      obtain rfl : ad180 = ad182 := (by injection e182)
      replace hx182_0 := (HB.out.cell (World.block_lt_of_cell? w _ hx182_0)).trans hx182_0
      replace p182 := eq_true p182
      replace q182 := eq_true q182
      go_wp2_with (first | (go_at_call 37; (with_reducible refine (za2.calls k1 (rdOf ByteArray.empty l0 x5_1) true _ A7.out).mono ?_); rintro e w9 ⟨rfl, hb⟩; have n0_ := zab.mk (zaq (by repeat (first | (with_reducible first | exact HB.out | apply zaf | apply zac | apply zae) | exact HB.out)) hb); clear HB; have HB := n0_; clear n0_; (try clear hb); (try clear hb2); (try clear hk); (try clear hi)))
      go_roundg k1
      case measure => have := HK1.out; omega
      case rel => exact ⟨(wrap64 (x5_1 + 1)), (by first | rfl | (simp; done) | (simp [*]; done)), H', ⟨by have := HK1.out; omega⟩, ⟨by repeat (first | (with_reducible first | exact HB.out | apply zaf | apply zac | apply zae) | exact HB.out)⟩⟩
     replace c8 := Bool.eq_false_iff.mpr c8
     subst c8
     replace H : (some false) = some r := by rw [if_neg (show ¬ (false = true) by decide)] at H; exact H
     obtain rfl := Option.some.inj H
     have p180 : 0 ≤ (x5_1 : Int) := of_decide_eq_true (by first | (with_reducible assumption) | assumption)
     have q180 : x5_1 < (l0.length : Int) := of_decide_eq_true (by first | (with_reducible assumption) | assumption)
     obtain ⟨ad180, e180, hx180_0⟩ := Kd.at_string HR0.out x5_1 p180 q180
     cases e180
     replace hx180_0 := (HB.out.cell (World.block_lt_of_cell? w _ hx180_0)).trans hx180_0
     replace p180 := eq_true p180
     replace q180 := eq_true q180
     have p181 : 0 ≤ (x5_1 : Int) := of_decide_eq_true (by first | (with_reducible assumption) | assumption)
     have q181 : x5_1 < (l0.length : Int) := of_decide_eq_true (by first | (with_reducible assumption) | assumption)
     obtain ⟨ad181, e181, hx181_0⟩ := Kd.at_string HR0.out x5_1 p181 q181
     obtain rfl : ad180 = ad181 := (by injection e181)
     replace hx181_0 := (HB.out.cell (World.block_lt_of_cell? w _ hx181_0)).trans hx181_0
     replace p181 := eq_true p181
     replace q181 := eq_true q181
     have p182 : 0 ≤ (x5_1 : Int) := of_decide_eq_true (by first | (with_reducible assumption) | assumption)
     have q182 : x5_1 < (l0.length : Int) := of_decide_eq_true (by first | (with_reducible assumption) | assumption)
     obtain ⟨ad182, e182, hx182_0⟩ := Kd.at_string HR0.out x5_1 p182 q182
     obtain rfl : ad180 = ad182 := (by injection e182)
     replace hx182_0 := (HB.out.cell (World.block_lt_of_cell? w _ hx182_0)).trans hx182_0
     replace p182 := eq_true p182
     replace q182 := eq_true q182
     go_wp2_with (first | (go_at_call 37; (with_reducible refine (za2.calls k1 (rdOf ByteArray.empty l0 x5_1) false _ A7.out).mono ?_); rintro e w10 ⟨rfl, hb⟩; have n0_ := zab.mk (zaq (by repeat (first | (with_reducible first | exact HB.out | apply zaf | apply zac | apply zae) | exact HB.out)) hb); clear HB; have HB := n0_; clear n0_; (try clear hb); (try clear hb2); (try clear hk); (try clear hi)))
     go_ret
     exact ⟨by first | rfl | (simp [zam, zan] <;> rfl) | (simp [*, zam, zan] <;> rfl), by repeat (first | (with_reducible first | exact HB.out | apply zaf | apply zac | apply zae) | exact HB.out)⟩
    rw [if_neg c4] at H
    exact absurd H (by simp)
   rw [if_neg c3] at H
   have c3b0 : decide (x5_1 < (l0.length : Int)) = false := decide_eq_false c3
   clear c3
   by_cases c11 : (l0.length : Int) = 0
   ·rw [if_pos c11] at H
    have c11b0 : ((l0.length : Int) == 0) = true := beq_iff_eq.mpr c11
    have c11b1 : ((l0.length : Int) != 0) = false := bne_eq_false_iff_eq.mpr c11
    clear c11; obtain rfl := Option.some.inj H
    go_wp2
    go_ret
    exact ⟨by first | rfl | (simp [zam, zan] <;> rfl) | (simp [*, zam, zan] <;> rfl), by repeat (first | (with_reducible first | exact HB.out | apply zaf | apply zac | apply zae) | exact HB.out)⟩
   rw [if_neg c11] at H
   have c11b0 : ((l0.length : Int) == 0) = false := beq_eq_false_iff_ne.mpr c11
   have c11b1 : ((l0.length : Int) != 0) = true := bne_iff_ne.mpr c11
   have c11b2 : ¬ (l0 = []) := fun h_ => c11 (by rw [h_]; rfl)
   obtain rfl := Option.some.inj H
   go_wp2
   go_ret
   exact ⟨by first | rfl | (simp [zam, zan] <;> rfl) | (simp [*, zam, zan] <;> rfl), by repeat (first | (with_reducible first | exact HB.out | apply zaf | apply zac | apply zae) | exact HB.out)⟩
end Go.Proofs.YtfafjbolmeimmaaGreatDoor.P
namespace Go.Proofs.YtfafjbolmeimmaaGreatDoor.P
open Go.RowKit Go.Proofs.YtfafjbolmeimmaaGreatDoorW.PrintWords Go.Proofs.YtfafjbolmeimmaaGreatDoorW.PrintMore
set_option linter.unusedVariables false
theorem kd_low (m : Nat) (h : m < 9728) : kdGood m = true := by
 have : m < 0 + 2 ^ 10 ∨ (1024 ≤ m ∧ m < 1024 + 2 ^ 10) ∨ (2048 ≤ m ∧ m < 2048 + 2 ^ 10) ∨ (3072 ≤ m ∧ m < 3072 + 2 ^ 10) ∨ (4096 ≤ m ∧ m < 4096 + 2 ^ 10) ∨ (5120 ≤ m ∧ m < 5120 + 2 ^ 10) ∨ (6144 ≤ m ∧ m < 6144 + 2 ^ 10) ∨ (7168 ≤ m ∧ m < 7168 + 2 ^ 10) ∨ (8192 ≤ m ∧ m < 8192 + 2 ^ 10) ∨ (9216 ≤ m ∧ m < 9216 + 2 ^ 9) := by omega
 rcases this with h | ⟨h1, h2⟩ | ⟨h1, h2⟩ | ⟨h1, h2⟩ | ⟨h1, h2⟩ | ⟨h1, h2⟩ | ⟨h1, h2⟩ | ⟨h1, h2⟩ | ⟨h1, h2⟩ | ⟨h1, h2⟩
 ·exact kdAll_get 10 _ m kd_0 (by omega) h
 ·exact kdAll_get 10 _ m kd_1 h1 h2
 ·exact kdAll_get 10 _ m kd_2 h1 h2
 ·exact kdAll_get 10 _ m kd_3 h1 h2
 ·exact kdAll_get 10 _ m kd_4 h1 h2
 ·exact kdAll_get 10 _ m kd_5 h1 h2
 ·exact kdAll_get 10 _ m kd_6 h1 h2
 ·exact kdAll_get 10 _ m kd_7 h1 h2
 ·exact kdAll_get 10 _ m kd_8 h1 h2
 exact kdAll_get 9 _ m kd_9 h1 h2
theorem kind_hi (p : Int) (h : 9728 ≤ p) : kindP p = kd p := by
 have : p ≤ 9753 ∨ (9753 < p ∧ p < 9984) ∨ (9984 ≤ p ∧ p ≤ 10009) ∨ (10009 < p ∧ p < 10016) ∨ (10016 ≤ p ∧ p ≤ 10025) ∨ (10025 < p ∧ p < 10032) ∨ (10032 ≤ p ∧ p ≤ 10035) ∨ (10035 < p ∧ p < 12288) ∨ (12288 ≤ p ∧ p ≤ 23459) ∨ (23459 < p ∧ p < 24576) ∨ (24576 ≤ p ∧ p ≤ 26623) ∨ 26623 < p := by omega
 rw [kd_hi h]
 unfold kindP kdHi
 rcases this with h | h | h | h | h | h | h | h | h | h | h | h <;> (simp only [rowIn]; repeat (first | rw [if_pos (by omega)] | rw [if_neg (by omega)]))
theorem kind_f (p : Int) (h0 : 0 ≤ p) : kindP p = kd p := by
 by_cases h : 9728 ≤ p
 ·exact kind_hi p h
 have := kd_low p.toNat (by omega)
 unfold kdGood at this
 have e : ((p.toNat : Nat) : Int) = p := by omega
 rw [e] at this
 simpa using this
theorem kind_ev (p : Int) (h0 : 0 ≤ p) : Ev (fun k => impl_kind.f k p) (kd p) := ⟨0, fun k hk => congrArg some (kind_f p h0)⟩
theorem known_ev (p : Int) (h0 : 0 ≤ p) (h1 : p < 1000000000) : Ev (fun k => zax.f k p) (kd p) := ⟨40, fun k hk => by obtain ⟨m, rfl⟩ : ∃ m, k = m + 40 := ⟨k - 40, by omega⟩; exact known_f p h0 h1 m⟩
end Go.Proofs.YtfafjbolmeimmaaGreatDoor.P
