/- Parts of a proof: words of the print tool that this claim uses, or plain lists. -/
import Derived.Test.YtfafjbolmeimmaaGreatDoorAb
import Derived.Test.YtfafjbolmeimmaaGreatDoorF4
import Derived.Test.YtfafjbolmeimmaaGreatDoorJ7
import Derived.Test.YtfafjbolmeimmaaGreatDoorF9
import Derived.Test.YtfafjbolmeimmaaGreatDoorXKdB
import Derived.Test.YtfafjbolmeimmaaGreatDoorXKdC
namespace Go.Proofs.YtfafjbolmeimmaaGreatDoor.P
open Go.RowKit Go.Proofs.YtfafjbolmeimmaaGreatDoorW.PrintWords Go.Proofs.YtfafjbolmeimmaaGreatDoorW.PrintLast Go.Proofs.YtfafjbolmeimmaaGreatDoorW.PrintMore
attribute [local go_sem] zbm zbn max_two min_two za9 za8 zbk zbj
set_option linter.unusedVariables false
set_option linter.unusedSimpArgs false
def zaX.f (k : Nat) (a0 : ByteArray) : Option (Bool) := (zaT.f k a0).bind fun t168 => ((za6.f k t168).bind fun t171 => (some (t171.toList == a0.toList)))
set_option maxHeartbeats 8000000 in
set_option maxRecDepth 100000 in
theorem zaX.calls (k : Nat) (a0 : ByteArray) (r : Bool) (w : World) (h : zaX.f k a0 = some r) :
  Calls Tryz.prog 37 #[.string a0] w fun e w' => e = .returned (.bool r) ∧ Below w.heap.size w w' := by
 have HB := zaa.mk (Below.refl w.heap.size w)
 have H : ((zaT.f k a0).bind fun t168 => ((za6.f k t168).bind fun t171 => (some (t171.toList == a0.toList)))) = some r := h
 clear h; replace H := Option.bind_eq_some_iff.mp H
 obtain ⟨t168, A20, H⟩ := H
 replace H : ((za6.f k t168).bind fun t171 => (some (t171.toList == a0.toList))) = some r := H
 have A2 := zaa.mk A20; clear A20; replace H := Option.bind_eq_some_iff.mp H
 obtain ⟨t171, A30, H⟩ := H
 replace H : (some (t171.toList == a0.toList)) = some r := H
 have A3 := zaa.mk A30; clear A30; obtain rfl := Option.some.inj H
 go_enter Tryz.func37, Tryz.ntmps37
 go_wp2_with (first | ((with_reducible refine zaD (f := 68) rfl ?_); refine zbr (some 4) rfl rfl Tryz.func68 yq10 rfl #[.string a0] rfl yq2 ?_; (with_reducible refine (zaT.calls k a0 t168 _ A2.out).mono ?_); rintro e w4 ⟨v169, rfl, ho0, hb⟩; refine ⟨_, rfl, ?_⟩; have n0_ := zaa.mk (Kd.R_lower ho0 (zaq (yq0 HB.out))); have n1_ := zaa.mk (zam (yq0 HB.out) hb); clear HB; have HO170 := n0_; have HB := n1_; clear n0_ n1_; (try clear hb); (try clear hb2); (try clear hk); (try clear hi); (try clear ho0); obtain ⟨Ao5, co5, eo5⟩ := Kd.R_slice HO170.out; subst eo5) | ((with_reducible refine zaD (f := 70) rfl ?_); refine zbr (some 5) rfl rfl Tryz.func70 yq10 rfl #[.slice Ao5 t168.length co5] rfl yq2 ?_; (with_reducible refine (za6.calls k _ _ t168 t171 _ ?side1 ?side2 A3.out).mono ?_); (case side1 => repeat (first | exact (Kd.zbl HO170.out).2.2 | (with_reducible refine Kd.C_alloc ?_ _) | (with_reducible refine Kd.C_drewN ?_ _) | (with_reducible refine Kd.C_drew ?_))); (case side2 => exact (Kd.zbl HO170.out).2.1); rintro e w6 ⟨rfl, hb⟩; refine ⟨_, rfl, ?_⟩; have n0_ := zaa.mk (Kd.za3 (yq7 HO170.out) hb); have n1_ := zaa.mk (zam (yq0 HB.out) hb); clear HO170 HB; have HO170 := n0_; have HB := n1_; clear n0_ n1_; (try clear hb); (try clear hb2); (try clear hk); (try clear hi)))
 go_ret
 exact ⟨yq4, yq0 HB.out⟩
end Go.Proofs.YtfafjbolmeimmaaGreatDoor.P
namespace Go.Proofs.YtfafjbolmeimmaaGreatDoor.P
open Go.RowKit Go.Proofs.YtfafjbolmeimmaaGreatDoorW.PrintWords Go.Proofs.YtfafjbolmeimmaaGreatDoorW.PrintLast Go.Proofs.YtfafjbolmeimmaaGreatDoorW.PrintMore
attribute [local go_sem] zbm zbn max_two min_two za9 za8 zbk zbj
set_option linter.unusedVariables false
set_option linter.unusedSimpArgs false
def zaP.l0 : Nat → ByteArray → ByteArray → Int → Int → Option (Int)
 | 0, _, _, _, _ => none
 | k + 1, x0, x1, x5, x6 => if (wrap64 (x6 + (x1.size : Int))) ≤ (x0.size : Int) then (if 0 ≤ x6 then (if x6 ≤ (wrap64 (x6 + (x1.size : Int))) then (if (x0.extract (x6 : Int).toNat ((wrap64 (x6 + (x1.size : Int))) : Int).toNat).toList = x1.toList then (zaP.l0 k x0 x1 (wrap64 (x5 + 1)) (wrap64 (x6 + 1))) else (zaP.l0 k x0 x1 x5 (wrap64 (x6 + 1)))) else (none)) else (none)) else (some x5)
def zaP.f (k : Nat) (a0 : ByteArray) (a1 : ByteArray) : Option (Int) := zaP.l0 k a0 a1 0 0
set_option maxHeartbeats 8000000 in
set_option maxRecDepth 100000 in
theorem zaP.calls (k : Nat) (a0 : ByteArray) (a1 : ByteArray) (r : Int) (w : World) (h : zaP.f k a0 a1 = some r) :
  Calls Tryz.prog 72 #[.string a0, .string a1] w fun e w' => e = .returned (.int .i64 r) ∧ zas w w' := by
 have H : (zaP.l0 k a0 a1 0 0) = some r := h
 clear h; have H' := zaa.mk H; clear H
 go_enter Tryz.func72, Tryz.ntmps72
 go_wp2
 go_loopg [5, 6] k (fun kq v5 v6 w' => ∃ (x5_1 : Int) (x6_1 : Int), v5 = .int .i64 x5_1 ∧ v6 = .int .i64 x6_1 ∧ zaa (zaP.l0 kq a0 a1 x5_1 x6_1 = some r) ∧ zaa (kq ≤ k) ∧ zas w w')
 case atStart => exact ⟨(0), (0), yq3, yq3, H', ⟨Nat.le_refl _⟩, yq11⟩
 case round =>
  clear H'
  obtain ⟨x5_1, x6_1, rfl, rfl, HA, HK1, ⟨m1, rfl⟩⟩ := hrel
  cases gk with
  | zero => exact absurd HA.out (by simp [zaP.l0])
  | succ k1 =>
   have H := HA.out; clear HA
   simp only [zaP.l0] at H
   by_cases c3 : (wrap64 (x6_1 + (a1.size : Int))) ≤ (a0.size : Int)
   ·rw [if_pos c3] at H
    have c3b0 : decide ((wrap64 (x6_1 + (a1.size : Int))) ≤ (a0.size : Int)) = true := decide_eq_true c3
    clear c3
    by_cases c4 : 0 ≤ x6_1
    ·rw [if_pos c4] at H
     have c4b0 := eq_true c4
     have c4b1 : decide (0 ≤ x6_1) = true := decide_eq_true c4
     clear c4
     by_cases c5 : x6_1 ≤ (wrap64 (x6_1 + (a1.size : Int)))
     ·rw [if_pos c5] at H
      have c5b0 := eq_true c5
      have c5b1 : decide (x6_1 ≤ (wrap64 (x6_1 + (a1.size : Int)))) = true := decide_eq_true c5
      have c6b0 := eq_true (of_decide_eq_true yq1 : (wrap64 (x6_1 + (a1.size : Int))) ≤ (a0.size : Int))
      by_cases c7 : (a0.extract (x6_1 : Int).toNat ((wrap64 (x6_1 + (a1.size : Int))) : Int).toNat).toList = a1.toList
      ·rw [if_pos c7] at H
       have c7b0 : ((a0.extract (x6_1 : Int).toNat ((wrap64 (x6_1 + (a1.size : Int))) : Int).toNat).toList == a1.toList) = true := beq_iff_eq.mpr c7
       have c7b1 : ((a0.extract (x6_1 : Int).toNat ((wrap64 (x6_1 + (a1.size : Int))) : Int).toNat).toList != a1.toList) = false := bne_eq_false_iff_eq.mpr c7
       clear c7; have H' := zaa.mk H; clear H
       go_wp2
       go_roundg k1
       case measure => have := HK1.out; omega
       case rel => exact ⟨(wrap64 (x5_1 + 1)), (wrap64 (x6_1 + 1)), yq3, yq3, H', ⟨yq15 HK1.out⟩, yq11⟩
      rw [if_neg c7] at H
      have c7b0 : ((a0.extract (x6_1 : Int).toNat ((wrap64 (x6_1 + (a1.size : Int))) : Int).toNat).toList == a1.toList) = false := beq_eq_false_iff_ne.mpr c7
      have c7b1 : ((a0.extract (x6_1 : Int).toNat ((wrap64 (x6_1 + (a1.size : Int))) : Int).toNat).toList != a1.toList) = true := bne_iff_ne.mpr c7
      have H' := zaa.mk H; clear H
      go_wp2
      go_roundg k1
      case measure => have := HK1.out; omega
      case rel => exact ⟨(x5_1), (wrap64 (x6_1 + 1)), yq3, yq3, H', ⟨yq15 HK1.out⟩, yq11⟩
     rw [if_neg c5] at H
     exact absurd H yq21
    rw [if_neg c4] at H
    exact absurd H yq21
   rw [if_neg c3] at H
   have c3b0 : decide ((wrap64 (x6_1 + (a1.size : Int))) ≤ (a0.size : Int)) = false := decide_eq_false c3
   clear c3; obtain rfl := Option.some.inj H
   go_wp2
   go_ret
   exact ⟨yq3, yq11⟩
def zaQ.l0 : Nat → ByteArray → ByteArray → Int → Option (Int)
 | 0, _, _, _ => none
 | k + 1, x0, x1, x5 => if (wrap64 (x5 + (x1.size : Int))) ≤ (x0.size : Int) then (if 0 ≤ x5 then (if x5 ≤ (wrap64 (x5 + (x1.size : Int))) then (if (x0.extract (x5 : Int).toNat ((wrap64 (x5 + (x1.size : Int))) : Int).toNat).toList = x1.toList then (some x5) else (zaQ.l0 k x0 x1 (wrap64 (x5 + 1)))) else (none)) else (none)) else (some (-1))
def zaQ.f (k : Nat) (a0 : ByteArray) (a1 : ByteArray) : Option (Int) := zaQ.l0 k a0 a1 0
set_option maxHeartbeats 8000000 in
set_option maxRecDepth 100000 in
theorem zaQ.calls (k : Nat) (a0 : ByteArray) (a1 : ByteArray) (r : Int) (w : World) (h : zaQ.f k a0 a1 = some r) :
  Calls Tryz.prog 73 #[.string a0, .string a1] w fun e w' => e = .returned (.int .i64 r) ∧ zas w w' := by
 have H : (zaQ.l0 k a0 a1 0) = some r := h
 clear h; have H' := zaa.mk H; clear H
 go_enter Tryz.func73, Tryz.ntmps73
 go_wp2
 go_loopg [5] k (fun kq v5 w' => ∃ (x5_1 : Int), v5 = .int .i64 x5_1 ∧ zaa (zaQ.l0 kq a0 a1 x5_1 = some r) ∧ zaa (kq ≤ k) ∧ zas w w')
 case atStart => exact ⟨(0), yq3, H', ⟨Nat.le_refl _⟩, yq11⟩
 case round =>
  clear H'
  obtain ⟨x5_1, rfl, HA, HK1, ⟨m1, rfl⟩⟩ := hrel
  cases gk with
  | zero => exact absurd HA.out (by simp [zaQ.l0])
  | succ k1 =>
   have H := HA.out; clear HA
   simp only [zaQ.l0] at H
   by_cases c3 : (wrap64 (x5_1 + (a1.size : Int))) ≤ (a0.size : Int)
   ·rw [if_pos c3] at H
    have c3b0 : decide ((wrap64 (x5_1 + (a1.size : Int))) ≤ (a0.size : Int)) = true := decide_eq_true c3
    clear c3
    by_cases c4 : 0 ≤ x5_1
    ·rw [if_pos c4] at H
     have c4b0 := eq_true c4
     have c4b1 : decide (0 ≤ x5_1) = true := decide_eq_true c4
     clear c4
     by_cases c5 : x5_1 ≤ (wrap64 (x5_1 + (a1.size : Int)))
     ·rw [if_pos c5] at H
      have c5b0 := eq_true c5
      have c5b1 : decide (x5_1 ≤ (wrap64 (x5_1 + (a1.size : Int)))) = true := decide_eq_true c5
      have c6b0 := eq_true (of_decide_eq_true yq1 : (wrap64 (x5_1 + (a1.size : Int))) ≤ (a0.size : Int))
      by_cases c7 : (a0.extract (x5_1 : Int).toNat ((wrap64 (x5_1 + (a1.size : Int))) : Int).toNat).toList = a1.toList
      ·rw [if_pos c7] at H
       have c7b0 : ((a0.extract (x5_1 : Int).toNat ((wrap64 (x5_1 + (a1.size : Int))) : Int).toNat).toList == a1.toList) = true := beq_iff_eq.mpr c7
       have c7b1 : ((a0.extract (x5_1 : Int).toNat ((wrap64 (x5_1 + (a1.size : Int))) : Int).toNat).toList != a1.toList) = false := bne_eq_false_iff_eq.mpr c7
       clear c7; obtain rfl := Option.some.inj H
       go_wp2
       go_ret
       exact ⟨yq3, yq11⟩
      rw [if_neg c7] at H
      have c7b0 : ((a0.extract (x5_1 : Int).toNat ((wrap64 (x5_1 + (a1.size : Int))) : Int).toNat).toList == a1.toList) = false := beq_eq_false_iff_ne.mpr c7
      have c7b1 : ((a0.extract (x5_1 : Int).toNat ((wrap64 (x5_1 + (a1.size : Int))) : Int).toNat).toList != a1.toList) = true := bne_iff_ne.mpr c7
      have H' := zaa.mk H; clear H
      go_wp2
      go_roundg k1
      case measure => have := HK1.out; omega
      case rel => exact ⟨(wrap64 (x5_1 + 1)), yq3, H', ⟨yq15 HK1.out⟩, yq11⟩
     rw [if_neg c5] at H
     exact absurd H yq21
    rw [if_neg c4] at H
    exact absurd H yq21
   rw [if_neg c3] at H
   have c3b0 : decide ((wrap64 (x5_1 + (a1.size : Int))) ≤ (a0.size : Int)) = false := decide_eq_false c3
   clear c3; obtain rfl := Option.some.inj H
   go_wp2
   go_ret
   exact ⟨yq3, yq11⟩
def spec_l17Frame.f (k : Nat) (a0 : ByteArray) : Option (Bool) := if a0.toList = ([] : List UInt8) then (some true) else (if (a0.size : Int) ≤ 50 then ((zaX.f k a0).bind fun t172 => (if t172 = true then ((zaP.f k a0 (⟨#[123, 48, 125]⟩ : ByteArray)).bind fun t173 => (if t173 = 1 then ((zaP.f k a0 (⟨#[123, 49, 125]⟩ : ByteArray)).bind fun t174 => (if t174 = 1 then ((zaQ.f k a0 (⟨#[123, 48, 125]⟩ : ByteArray)).bind fun t175 => ((zaQ.f k a0 (⟨#[123, 49, 125]⟩ : ByteArray)).bind fun t176 => (some (decide (t175 < t176))))) else (some false))) else (some false))) else (some false))) else (some false))
set_option maxHeartbeats 8000000 in
set_option maxRecDepth 100000 in
theorem spec_l17Frame.calls (k : Nat) (a0 : ByteArray) (r : Bool) (w : World) (h : spec_l17Frame.f k a0 = some r) :
  Calls Tryz.prog 35 #[.string a0] w fun e w' => e = .returned (.bool r) ∧ Below w.heap.size w w' := by
 have HB := zaa.mk (Below.refl w.heap.size w)
 have H : (if a0.toList = ([] : List UInt8) then (some true) else (if (a0.size : Int) ≤ 50 then ((zaX.f k a0).bind fun t172 => (if t172 = true then ((zaP.f k a0 (⟨#[123, 48, 125]⟩ : ByteArray)).bind fun t173 => (if t173 = 1 then ((zaP.f k a0 (⟨#[123, 49, 125]⟩ : ByteArray)).bind fun t174 => (if t174 = 1 then ((zaQ.f k a0 (⟨#[123, 48, 125]⟩ : ByteArray)).bind fun t175 => ((zaQ.f k a0 (⟨#[123, 49, 125]⟩ : ByteArray)).bind fun t176 => (some (decide (t175 < t176))))) else (some false))) else (some false))) else (some false))) else (some false))) = some r := h
 clear h
 by_cases c2 : a0.toList = ([] : List UInt8)
 ·rw [if_pos c2] at H
  have c2b0 : (a0.toList == ([] : List UInt8)) = true := beq_iff_eq.mpr c2
  have c2b1 : (a0.toList != ([] : List UInt8)) = false := bne_eq_false_iff_eq.mpr c2
  clear c2; obtain rfl := Option.some.inj H
  go_enter Tryz.func35, Tryz.ntmps35
  go_wp2
  go_ret
  exact ⟨yq4, yq0 HB.out⟩
 rw [if_neg c2] at H
 have c2b0 : (a0.toList == ([] : List UInt8)) = false := beq_eq_false_iff_ne.mpr c2
 have c2b1 : (a0.toList != ([] : List UInt8)) = true := bne_iff_ne.mpr c2
 by_cases c3 : (a0.size : Int) ≤ 50
 ·rw [if_pos c3] at H
  have c3b0 : decide ((a0.size : Int) ≤ 50) = true := decide_eq_true c3
  have c3b1 : decide (a0.size ≤ 50) = true := decide_eq_true yq9
  clear c3; replace H := Option.bind_eq_some_iff.mp H
  obtain ⟨t172, A40, H⟩ := H
  replace H : (if t172 = true then ((zaP.f k a0 (⟨#[123, 48, 125]⟩ : ByteArray)).bind fun t173 => (if t173 = 1 then ((zaP.f k a0 (⟨#[123, 49, 125]⟩ : ByteArray)).bind fun t174 => (if t174 = 1 then ((zaQ.f k a0 (⟨#[123, 48, 125]⟩ : ByteArray)).bind fun t175 => ((zaQ.f k a0 (⟨#[123, 49, 125]⟩ : ByteArray)).bind fun t176 => (some (decide (t175 < t176))))) else (some false))) else (some false))) else (some false)) = some r := H
  have A4 := zaa.mk A40; clear A40
  by_cases c5 : t172 = true
  ·subst c5
   replace H : ((zaP.f k a0 (⟨#[123, 48, 125]⟩ : ByteArray)).bind fun t173 => (if t173 = 1 then ((zaP.f k a0 (⟨#[123, 49, 125]⟩ : ByteArray)).bind fun t174 => (if t174 = 1 then ((zaQ.f k a0 (⟨#[123, 48, 125]⟩ : ByteArray)).bind fun t175 => ((zaQ.f k a0 (⟨#[123, 49, 125]⟩ : ByteArray)).bind fun t176 => (some (decide (t175 < t176))))) else (some false))) else (some false))) = some r := by rw [if_pos rfl] at H; exact H
   replace H := Option.bind_eq_some_iff.mp H
   obtain ⟨t173, A60, H⟩ := H
   replace H : (if t173 = 1 then ((zaP.f k a0 (⟨#[123, 49, 125]⟩ : ByteArray)).bind fun t174 => (if t174 = 1 then ((zaQ.f k a0 (⟨#[123, 48, 125]⟩ : ByteArray)).bind fun t175 => ((zaQ.f k a0 (⟨#[123, 49, 125]⟩ : ByteArray)).bind fun t176 => (some (decide (t175 < t176))))) else (some false))) else (some false)) = some r := H
   have A6 := zaa.mk A60; clear A60
   by_cases c7 : t173 = 1
   ·rw [if_pos c7] at H
    have c7b0 : (t173 == 1) = true := beq_iff_eq.mpr c7
    have c7b1 : (t173 != 1) = false := bne_eq_false_iff_eq.mpr c7
    clear c7; replace H := Option.bind_eq_some_iff.mp H
    obtain ⟨t174, A80, H⟩ := H
    replace H : (if t174 = 1 then ((zaQ.f k a0 (⟨#[123, 48, 125]⟩ : ByteArray)).bind fun t175 => ((zaQ.f k a0 (⟨#[123, 49, 125]⟩ : ByteArray)).bind fun t176 => (some (decide (t175 < t176))))) else (some false)) = some r := H
    have A8 := zaa.mk A80; clear A80
    by_cases c9 : t174 = 1
    ·rw [if_pos c9] at H
     have c9b0 : (t174 == 1) = true := beq_iff_eq.mpr c9
     have c9b1 : (t174 != 1) = false := bne_eq_false_iff_eq.mpr c9
     clear c9; replace H := Option.bind_eq_some_iff.mp H
     obtain ⟨t175, A100, H⟩ := H
     replace H : ((zaQ.f k a0 (⟨#[123, 49, 125]⟩ : ByteArray)).bind fun t176 => (some (decide (t175 < t176)))) = some r := H
     have A10 := zaa.mk A100; clear A100; replace H := Option.bind_eq_some_iff.mp H
     obtain ⟨t176, A110, H⟩ := H
     replace H : (some (decide (t175 < t176))) = some r := H
     have A11 := zaa.mk A110; clear A110; obtain rfl := Option.some.inj H
     go_enter Tryz.func35, Tryz.ntmps35
     go_wp2_with (first | (go_at_call 37; (with_reducible refine (zaX.calls k a0 true _ A4.out).mono ?_); rintro e w12 ⟨rfl, hb⟩; have n0_ := zaa.mk (zam (yq0 HB.out) hb); clear HB; have HB := n0_; clear n0_; (try clear hb); (try clear hb2); (try clear hk); (try clear hi)) | (go_at_call 72; (with_reducible refine (zaP.calls k a0 (⟨#[123, 48, 125]⟩ : ByteArray) t173 _ A6.out).mono ?_); rintro e w' ⟨rfl, ⟨nd, rfl⟩⟩) | (go_at_call 72; (with_reducible refine (zaP.calls k a0 (⟨#[123, 49, 125]⟩ : ByteArray) t174 _ A8.out).mono ?_); rintro e w' ⟨rfl, ⟨nd, rfl⟩⟩) | (go_at_call 73; (with_reducible refine (zaQ.calls k a0 (⟨#[123, 48, 125]⟩ : ByteArray) t175 _ A10.out).mono ?_); rintro e w' ⟨rfl, ⟨nd, rfl⟩⟩) | (go_at_call 73; (with_reducible refine (zaQ.calls k a0 (⟨#[123, 49, 125]⟩ : ByteArray) t176 _ A11.out).mono ?_); rintro e w' ⟨rfl, ⟨nd, rfl⟩⟩))
     go_ret
     exact ⟨yq4, yq0 HB.out⟩
    rw [if_neg c9] at H
    have c9b0 : (t174 == 1) = false := beq_eq_false_iff_ne.mpr c9
    have c9b1 : (t174 != 1) = true := bne_iff_ne.mpr c9
    obtain rfl := Option.some.inj H
    go_enter Tryz.func35, Tryz.ntmps35
    go_wp2_with (first | (go_at_call 37; (with_reducible refine (zaX.calls k a0 true _ A4.out).mono ?_); rintro e w13 ⟨rfl, hb⟩; have n0_ := zaa.mk (zam (yq0 HB.out) hb); clear HB; have HB := n0_; clear n0_; (try clear hb); (try clear hb2); (try clear hk); (try clear hi)) | (go_at_call 72; (with_reducible refine (zaP.calls k a0 (⟨#[123, 48, 125]⟩ : ByteArray) t173 _ A6.out).mono ?_); rintro e w' ⟨rfl, ⟨nd, rfl⟩⟩) | (go_at_call 72; (with_reducible refine (zaP.calls k a0 (⟨#[123, 49, 125]⟩ : ByteArray) t174 _ A8.out).mono ?_); rintro e w' ⟨rfl, ⟨nd, rfl⟩⟩))
    go_ret
    exact ⟨yq4, yq0 HB.out⟩
   rw [if_neg c7] at H
   have c7b0 : (t173 == 1) = false := beq_eq_false_iff_ne.mpr c7
   have c7b1 : (t173 != 1) = true := bne_iff_ne.mpr c7
   obtain rfl := Option.some.inj H
   go_enter Tryz.func35, Tryz.ntmps35
   go_wp2_with (first | (go_at_call 37; (with_reducible refine (zaX.calls k a0 true _ A4.out).mono ?_); rintro e w14 ⟨rfl, hb⟩; have n0_ := zaa.mk (zam (yq0 HB.out) hb); clear HB; have HB := n0_; clear n0_; (try clear hb); (try clear hb2); (try clear hk); (try clear hi)) | (go_at_call 72; (with_reducible refine (zaP.calls k a0 (⟨#[123, 48, 125]⟩ : ByteArray) t173 _ A6.out).mono ?_); rintro e w' ⟨rfl, ⟨nd, rfl⟩⟩))
   go_ret
   exact ⟨yq4, yq0 HB.out⟩
  replace c5 := Bool.eq_false_iff.mpr c5
  subst c5
  replace H : (some false) = some r := by rw [if_neg (show ¬ (false = true) by decide)] at H; exact H
  obtain rfl := Option.some.inj H
  go_enter Tryz.func35, Tryz.ntmps35
  go_wp2_with (first | (go_at_call 37; (with_reducible refine (zaX.calls k a0 false _ A4.out).mono ?_); rintro e w15 ⟨rfl, hb⟩; have n0_ := zaa.mk (zam (yq0 HB.out) hb); clear HB; have HB := n0_; clear n0_; (try clear hb); (try clear hb2); (try clear hk); (try clear hi)))
  go_ret
  exact ⟨yq4, yq0 HB.out⟩
 rw [if_neg c3] at H
 have c3b0 : decide ((a0.size : Int) ≤ 50) = false := decide_eq_false c3
 have c3b1 : decide (a0.size ≤ 50) = false := decide_eq_false yq9
 clear c3; obtain rfl := Option.some.inj H
 go_enter Tryz.func35, Tryz.ntmps35
 go_wp2
 go_ret
 exact ⟨yq4, yq0 HB.out⟩
end Go.Proofs.YtfafjbolmeimmaaGreatDoor.P
namespace Go.Proofs.YtfafjbolmeimmaaGreatDoor.P
open Go.RowKit Go.Proofs.YtfafjbolmeimmaaGreatDoorW.PrintWords Go.Proofs.YtfafjbolmeimmaaGreatDoorW.PrintLast Go.Proofs.YtfafjbolmeimmaaGreatDoorW.PrintMore
attribute [local go_sem] zbm zbn max_two min_two za9 za8 zbk zbj
set_option linter.unusedVariables false
set_option linter.unusedSimpArgs false
def zbd.l0 : Nat → List ByteArray → Int → Int → Option (Bool)
 | 0, _, _, _ => none
 | k + 1, x0, x1, x5 => if x5 < (x0.length : Int) then (if 0 ≤ x5 then (if ((rdOf ByteArray.empty x0 x5).size : Int) < 1 then (some false) else (if ((rdOf ByteArray.empty x0 x5).size : Int) > 30 then (some false) else ((zaX.f k (rdOf ByteArray.empty x0 x5)).bind fun t180 => (if t180 = true then (zbd.l0 k x0 x1 (wrap64 (x5 + 1))) else (some false))))) else (none)) else (if (x0.length : Int) = 0 then (some true) else (some ((x0.length : Int) == x1)))
def zbd.f (k : Nat) (l0 : List ByteArray) (a1 : Int) : Option (Bool) := zbd.l0 k l0 a1 0
set_option maxHeartbeats 8000000 in
set_option maxRecDepth 100000 in
theorem zbd.calls (k : Nat) (A0 : Option Addr) (c0 : Nat) (l0 : List ByteArray) (a1 : Int) (r : Bool) (w : World) (hr0 : Kd.C Kd.string w A0 l0.length l0) (hc0 : l0.length ≤ c0) (h : zbd.f k l0 a1 = some r) :
  Calls Tryz.prog 36 #[.slice A0 l0.length c0, .int .i64 a1] w fun e w' => e = .returned (.bool r) ∧ Below w.heap.size w w' := by
 have HR0 := zaa.mk hr0; have HC0 := zaa.mk hc0; clear hr0 hc0
 have HB := zaa.mk (Below.refl w.heap.size w)
 have H : (zbd.l0 k l0 a1 0) = some r := h
 clear h; have H' := zaa.mk H; clear H
 go_enter Tryz.func36, Tryz.ntmps36
 go_wp2
 go_loopg [5] k (fun kq v5 w' => ∃ (x5_1 : Int), v5 = .int .i64 x5_1 ∧ zaa (zbd.l0 kq l0 a1 x5_1 = some r) ∧ zaa (kq ≤ k) ∧ zaa (Below w.heap.size w w'))
 case atStart => exact ⟨(0), yq3, H', ⟨Nat.le_refl _⟩, ⟨yq0 HB.out⟩⟩
 case round =>
  clear H'
  obtain ⟨x5_1, rfl, HA, HK1, HB⟩ := hrel
  cases gk with
  | zero => exact absurd HA.out (by simp [zbd.l0])
  | succ k1 =>
   have H := HA.out; clear HA
   simp only [zbd.l0] at H
   by_cases c3 : x5_1 < (l0.length : Int)
   ·rw [if_pos c3] at H
    have c3b0 : decide (x5_1 < (l0.length : Int)) = true := decide_eq_true c3
    clear c3
    by_cases c4 : 0 ≤ x5_1
    ·rw [if_pos c4] at H
     have c4b0 : decide (0 ≤ x5_1) = true := decide_eq_true c4
     clear c4
     by_cases c5 : ((rdOf ByteArray.empty l0 x5_1).size : Int) < 1
     ·rw [if_pos c5] at H
      have c5b0 : decide (((rdOf ByteArray.empty l0 x5_1).size : Int) < 1) = true := decide_eq_true c5
      have c5b1 : decide ((rdOf ByteArray.empty l0 x5_1).size < 1) = true := decide_eq_true yq9
      clear c5; obtain rfl := Option.some.inj H
      have p177 : 0 ≤ (x5_1 : Int) := of_decide_eq_true yq1
      have q177 : x5_1 < (l0.length : Int) := of_decide_eq_true yq1
      obtain ⟨ad177, e177, hx177_0⟩ := Kd.at_string HR0.out x5_1 p177 q177
      cases e177
      replace hx177_0 := (HB.out.cell (World.block_lt_of_cell? w _ hx177_0)).trans hx177_0
      replace p177 := eq_true p177
      replace q177 := eq_true q177
      go_wp2
      go_ret
      exact ⟨yq4, yq0 HB.out⟩
     rw [if_neg c5] at H
     have c5b0 : decide (((rdOf ByteArray.empty l0 x5_1).size : Int) < 1) = false := decide_eq_false c5
     have c5b1 : decide ((rdOf ByteArray.empty l0 x5_1).size < 1) = false := decide_eq_false yq9
     clear c5
     by_cases c6 : ((rdOf ByteArray.empty l0 x5_1).size : Int) > 30
     ·rw [if_pos c6] at H
      have c6b0 : decide (30 < ((rdOf ByteArray.empty l0 x5_1).size : Int)) = true := decide_eq_true c6
      have c6b1 : decide (30 < (rdOf ByteArray.empty l0 x5_1).size) = true := decide_eq_true yq9
      clear c6; obtain rfl := Option.some.inj H
      have p177 : 0 ≤ (x5_1 : Int) := of_decide_eq_true yq1
      have q177 : x5_1 < (l0.length : Int) := of_decide_eq_true yq1
      obtain ⟨ad177, e177, hx177_0⟩ := Kd.at_string HR0.out x5_1 p177 q177
      cases e177
      replace hx177_0 := (HB.out.cell (World.block_lt_of_cell? w _ hx177_0)).trans hx177_0
      replace p177 := eq_true p177
      replace q177 := eq_true q177
      have p178 : 0 ≤ (x5_1 : Int) := of_decide_eq_true yq1
      have q178 : x5_1 < (l0.length : Int) := of_decide_eq_true yq1
      obtain ⟨ad178, e178, hx178_0⟩ := Kd.at_string HR0.out x5_1 p178 q178
      obtain rfl : ad177 = ad178 := (by injection e178)
      replace hx178_0 := (HB.out.cell (World.block_lt_of_cell? w _ hx178_0)).trans hx178_0
      replace p178 := eq_true p178
      replace q178 := eq_true q178
      go_wp2
      go_ret
      exact ⟨yq4, yq0 HB.out⟩
     rw [if_neg c6] at H
     have c6b0 : decide (30 < ((rdOf ByteArray.empty l0 x5_1).size : Int)) = false := decide_eq_false c6
     have c6b1 : decide (30 < (rdOf ByteArray.empty l0 x5_1).size) = false := decide_eq_false yq9
     clear c6; replace H := Option.bind_eq_some_iff.mp H
     obtain ⟨t180, A70, H⟩ := H
     replace H : (if t180 = true then (zbd.l0 k1 l0 a1 (wrap64 (x5_1 + 1))) else (some false)) = some r := H
     have A7 := zaa.mk A70; clear A70
     by_cases c8 : t180 = true
     ·subst c8
      replace H : (zbd.l0 k1 l0 a1 (wrap64 (x5_1 + 1))) = some r := by rw [if_pos rfl] at H; exact H
      have H' := zaa.mk H; clear H
      have p177 : 0 ≤ (x5_1 : Int) := of_decide_eq_true yq1
      have q177 : x5_1 < (l0.length : Int) := of_decide_eq_true yq1
      obtain ⟨ad177, e177, hx177_0⟩ := Kd.at_string HR0.out x5_1 p177 q177
      cases e177
      replace hx177_0 := (HB.out.cell (World.block_lt_of_cell? w _ hx177_0)).trans hx177_0
      replace p177 := eq_true p177
      replace q177 := eq_true q177
      have p178 : 0 ≤ (x5_1 : Int) := of_decide_eq_true yq1
      have q178 : x5_1 < (l0.length : Int) := of_decide_eq_true yq1
      obtain ⟨ad178, e178, hx178_0⟩ := Kd.at_string HR0.out x5_1 p178 q178
      obtain rfl : ad177 = ad178 := (by injection e178)
      replace hx178_0 := (HB.out.cell (World.block_lt_of_cell? w _ hx178_0)).trans hx178_0
      replace p178 := eq_true p178
      replace q178 := eq_true q178
      have p179 : 0 ≤ (x5_1 : Int) := of_decide_eq_true yq1
      have q179 : x5_1 < (l0.length : Int) := of_decide_eq_true yq1
      obtain ⟨ad179, e179, hx179_0⟩ := Kd.at_string HR0.out x5_1 p179 q179
      obtain rfl : ad177 = ad179 := (by injection e179)
      replace hx179_0 := (HB.out.cell (World.block_lt_of_cell? w _ hx179_0)).trans hx179_0
      replace p179 := eq_true p179
      replace q179 := eq_true q179
      go_wp2_with (first | (go_at_call 37; (with_reducible refine (zaX.calls k1 (rdOf ByteArray.empty l0 x5_1) true _ A7.out).mono ?_); rintro e w9 ⟨rfl, hb⟩; have n0_ := zaa.mk (zam (yq0 HB.out) hb); clear HB; have HB := n0_; clear n0_; (try clear hb); (try clear hb2); (try clear hk); (try clear hi)))
      go_roundg k1
      case measure => have := HK1.out; omega
      case rel => exact ⟨(wrap64 (x5_1 + 1)), yq3, H', ⟨yq15 HK1.out⟩, ⟨yq0 HB.out⟩⟩
     replace c8 := Bool.eq_false_iff.mpr c8
     subst c8
     replace H : (some false) = some r := by rw [if_neg (show ¬ (false = true) by decide)] at H; exact H
     obtain rfl := Option.some.inj H
     have p177 : 0 ≤ (x5_1 : Int) := of_decide_eq_true yq1
     have q177 : x5_1 < (l0.length : Int) := of_decide_eq_true yq1
     obtain ⟨ad177, e177, hx177_0⟩ := Kd.at_string HR0.out x5_1 p177 q177
     cases e177
     replace hx177_0 := (HB.out.cell (World.block_lt_of_cell? w _ hx177_0)).trans hx177_0
     replace p177 := eq_true p177
     replace q177 := eq_true q177
     have p178 : 0 ≤ (x5_1 : Int) := of_decide_eq_true yq1
     have q178 : x5_1 < (l0.length : Int) := of_decide_eq_true yq1
     obtain ⟨ad178, e178, hx178_0⟩ := Kd.at_string HR0.out x5_1 p178 q178
     obtain rfl : ad177 = ad178 := (by injection e178)
     replace hx178_0 := (HB.out.cell (World.block_lt_of_cell? w _ hx178_0)).trans hx178_0
     replace p178 := eq_true p178
     replace q178 := eq_true q178
     have p179 : 0 ≤ (x5_1 : Int) := of_decide_eq_true yq1
     have q179 : x5_1 < (l0.length : Int) := of_decide_eq_true yq1
     obtain ⟨ad179, e179, hx179_0⟩ := Kd.at_string HR0.out x5_1 p179 q179
     obtain rfl : ad177 = ad179 := (by injection e179)
     replace hx179_0 := (HB.out.cell (World.block_lt_of_cell? w _ hx179_0)).trans hx179_0
     replace p179 := eq_true p179
     replace q179 := eq_true q179
     go_wp2_with (first | (go_at_call 37; (with_reducible refine (zaX.calls k1 (rdOf ByteArray.empty l0 x5_1) false _ A7.out).mono ?_); rintro e w10 ⟨rfl, hb⟩; have n0_ := zaa.mk (zam (yq0 HB.out) hb); clear HB; have HB := n0_; clear n0_; (try clear hb); (try clear hb2); (try clear hk); (try clear hi)))
     go_ret
     exact ⟨yq4, yq0 HB.out⟩
    rw [if_neg c4] at H
    exact absurd H yq21
   rw [if_neg c3] at H
   have c3b0 : decide (x5_1 < (l0.length : Int)) = false := decide_eq_false c3
   clear c3
   by_cases c11 : (l0.length : Int) = 0
   ·rw [if_pos c11] at H
    have c11b0 : ((l0.length : Int) == 0) = true := beq_iff_eq.mpr c11
    have c11b1 : ((l0.length : Int) != 0) = false := bne_eq_false_iff_eq.mpr c11
    clear c11; obtain rfl := Option.some.inj H
    go_wp2
    go_ret
    exact ⟨yq4, yq0 HB.out⟩
   rw [if_neg c11] at H
   have c11b0 : ((l0.length : Int) == 0) = false := beq_eq_false_iff_ne.mpr c11
   have c11b1 : ((l0.length : Int) != 0) = true := bne_iff_ne.mpr c11
   have c11b2 : ¬ (l0 = []) := fun h_ => c11 (by rw [h_]; rfl)
   obtain rfl := Option.some.inj H
   go_wp2
   go_ret
   exact ⟨yq4, yq0 HB.out⟩
end Go.Proofs.YtfafjbolmeimmaaGreatDoor.P
namespace Go.Proofs.YtfafjbolmeimmaaGreatDoor.P
open Go.RowKit Go.Proofs.YtfafjbolmeimmaaGreatDoorW.PrintWords Go.Proofs.YtfafjbolmeimmaaGreatDoorW.PrintMore
set_option linter.unusedVariables false
theorem kd_low (m : Nat) (h : m < 9728) : kdGood m = true := by
 have : m < 0 + 2 ^ 10 ∨ (1024 ≤ m ∧ m < 1024 + 2 ^ 10) ∨ (2048 ≤ m ∧ m < 2048 + 2 ^ 10) ∨ (3072 ≤ m ∧ m < 3072 + 2 ^ 10) ∨ (4096 ≤ m ∧ m < 4096 + 2 ^ 10) ∨ (5120 ≤ m ∧ m < 5120 + 2 ^ 10) ∨ (6144 ≤ m ∧ m < 6144 + 2 ^ 10) ∨ (7168 ≤ m ∧ m < 7168 + 2 ^ 10) ∨ (8192 ≤ m ∧ m < 8192 + 2 ^ 10) ∨ (9216 ≤ m ∧ m < 9216 + 2 ^ 9) := by omega
 rcases this with h | ⟨h1, h2⟩ | ⟨h1, h2⟩ | ⟨h1, h2⟩ | ⟨h1, h2⟩ | ⟨h1, h2⟩ | ⟨h1, h2⟩ | ⟨h1, h2⟩ | ⟨h1, h2⟩ | ⟨h1, h2⟩
 ·exact kdAll_get 10 _ m kd_0 yq9 h
 ·exact kdAll_get 10 _ m kd_1 h1 h2
 ·exact kdAll_get 10 _ m kd_2 h1 h2
 ·exact kdAll_get 10 _ m kd_3 h1 h2
 ·exact kdAll_get 10 _ m kd_4 h1 h2
 ·exact kdAll_get 10 _ m kd_5 h1 h2
 ·exact kdAll_get 10 _ m kd_6 h1 h2
 ·exact kdAll_get 10 _ m kd_7 h1 h2
 ·exact kdAll_get 10 _ m kd_8 h1 h2
 exact kdAll_get 9 _ m kd_9 h1 h2
theorem kind_hi (p : Int) (h : 9728 ≤ p) : kindP p = kd p := by
 have : p ≤ 9753 ∨ (9753 < p ∧ p < 9984) ∨ (9984 ≤ p ∧ p ≤ 10009) ∨ (10009 < p ∧ p < 10016) ∨ (10016 ≤ p ∧ p ≤ 10025) ∨ (10025 < p ∧ p < 10032) ∨ (10032 ≤ p ∧ p ≤ 10035) ∨ (10035 < p ∧ p < 12288) ∨ (12288 ≤ p ∧ p ≤ 23459) ∨ (23459 < p ∧ p < 24576) ∨ (24576 ≤ p ∧ p ≤ 26623) ∨ 26623 < p := by omega
 rw [kd_hi h]
 unfold kindP kdHi
 rcases this with h | h | h | h | h | h | h | h | h | h | h | h <;> (simp only [rowIn]; repeat (first | rw [if_pos yq9] | rw [if_neg yq9]))
theorem kind_f (p : Int) (h0 : 0 ≤ p) : kindP p = kd p := by
 by_cases h : 9728 ≤ p
 ·exact kind_hi p h
 have := kd_low p.toNat yq9
 unfold kdGood at this
 have e : ((p.toNat : Nat) : Int) = p := by omega
 rw [e] at this
 simpa using this
theorem kind_ev (p : Int) (h0 : 0 ≤ p) : Ev (fun k => impl_kind.f k p) (kd p) := ⟨0, fun k hk => congrArg some (kind_f p h0)⟩
theorem known_ev (p : Int) (h0 : 0 ≤ p) (h1 : p < 1000000000) : Ev (fun k => zau.f k p) (kd p) := ⟨40, fun k hk => by obtain ⟨m, rfl⟩ : ∃ m, k = m + 40 := ⟨k - 40, yq9⟩; exact known_f p h0 h1 m⟩
end Go.Proofs.YtfafjbolmeimmaaGreatDoor.P
