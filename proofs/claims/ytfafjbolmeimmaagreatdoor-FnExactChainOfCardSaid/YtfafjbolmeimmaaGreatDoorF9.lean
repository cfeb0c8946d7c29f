/- Parts of a proof: words of the print tool that this claim uses, or plain lists. -/
import Derived.Test.YtfafjbolmeimmaaGreatDoorAb
import Derived.Test.YtfafjbolmeimmaaGreatDoorF4
import Derived.Test.YtfafjbolmeimmaaGreatDoorJ6
import Derived.Test.YtfafjbolmeimmaaGreatDoorJ7
import Derived.Test.YtfafjbolmeimmaaGreatDoorJ8
import Derived.Test.YtfafjbolmeimmaaGreatDoorXKi
import Derived.Test.YtfafjbolmeimmaaGreatDoorF5
namespace Go.Proofs.YtfafjbolmeimmaaGreatDoor.P
open Go.RowKit Go.Proofs.YtfafjbolmeimmaaGreatDoorW.PrintWords Go.Proofs.YtfafjbolmeimmaaGreatDoorW.PrintLast Go.Proofs.YtfafjbolmeimmaaGreatDoorW.PrintMore
attribute [local go_sem] zbm zbn max_two min_two za9 za8 zbk zbj
set_option linter.unusedVariables false
set_option linter.unusedSimpArgs false
def za6.l0 : Nat → List Int → List Int → Int → Option (ByteArray)
 | 0, _, _, _ => none
 | k + 1, x0, x3, x4 => if x4 < (x0.length : Int) then (if 0 ≤ x4 then ((zaV.f k (rd x0 x4)).bind fun t156 => (if x3.length + t156.size < 140737488355328 then (za6.l0 k x0 (x3 ++ bytesOf t156) (wrap64 (x4 + 1))) else (none))) else (none)) else (some (strOfNums x3))
def za6.f (k : Nat) (l0 : List Int) : Option (ByteArray) := za6.l0 k l0 (([] : List Int)) 0
set_option maxHeartbeats 8000000 in
set_option maxRecDepth 100000 in
theorem za6.calls (k : Nat) (A0 : Option Addr) (c0 : Nat) (l0 : List Int) (r : ByteArray) (w : World) (hr0 : Kd.C (Kd.int .i64) w A0 l0.length l0) (hc0 : l0.length ≤ c0) (h : za6.f k l0 = some r) :
  Calls Tryz.prog 70 #[.slice A0 l0.length c0] w fun e w' => e = .returned (.string r) ∧ Below w.heap.size w w' := by
 have HR0 := zaa.mk hr0; have HC0 := zaa.mk hc0; clear hr0 hc0
 have HB := zaa.mk (Below.refl w.heap.size w)
 have H : (za6.l0 k l0 (([] : List Int)) 0) = some r := h
 clear h
 obtain ⟨y152, hy152⟩ : ∃ y_ : List Int, y_ = (([] : List Int)) := ⟨_, rfl⟩
 replace H : (za6.l0 k l0 y152 0) = some r := by first | (rw [hy152]; with_reducible exact H) | (have H2_ := (Option.bind_some _ _).symm.trans H; rw [hy152]; with_reducible exact H2_) | (have H2_ := (Option.bind_some _ _).symm.trans H; with_reducible exact H2_) | with_reducible exact H | (rw [hy152]; exact H) | exact H
 have Ny152 := zaa.mk hy152; clear hy152; have H' := zaa.mk H; clear H
 go_enter Tryz.func70, Tryz.ntmps70
 go_wp2_with (first | ((with_reducible refine zaU (N := 5) rfl ?_); refine Kd.R_lit (Kd.int .u8) _ 5 ?hg (N := 5) ?hd (xs := ([] : List Int)) (inner := []) (ok := fun _ => True) (okp := fun _ => True) ?hr ?hp (fun _ hk => hk) trivial (Below.refl _ _) (Nat.le_refl _) yq21 ?_; (case hd => rfl); (case hg => rfl); (case hr => first | (go_simp; done) | (go_simp; rfl)); (case hp => exact (Reps.none _ _)); intro v153 w2 ho3 hb hg_ hnew_; clear hg_ hnew_; (first | rw [← Ny152.out] at ho3 | (simp only [Int.reduceToNat] at ho3; rw [← Ny152.out] at ho3)); have n0_ := zaa.mk (Kd.R_lower ho3 (zaq (yq0 HB.out))); have n1_ := zaa.mk (zam (yq0 HB.out) hb); clear HB; have HO154 := n0_; have HB := n1_; clear n0_ n1_ hb ho3))
 go_loopg [3, 4] k (fun kq v3 v4 w' => ∃ (x3_1 : List Int) (x4_1 : Int), v4 = .int .i64 x4_1 ∧ zaa (za6.l0 kq l0 x3_1 x4_1 = some r) ∧ zaa (kq ≤ k) ∧ zaa (Kd.R (Kd.int .u8) 5 w' w.heap.size (fun _ => True) v3 x3_1) ∧ zaa (Below w.heap.size w w'))
 case atStart => exact ⟨(y152), (0), yq3, H', ⟨Nat.le_refl _⟩, ⟨yq7 HO154.out⟩, ⟨yq0 HB.out⟩⟩
 case round =>
  clear H'
  obtain ⟨x3_1, x4_1, rfl, HA, HK1, HO_3, HB⟩ := hrel
  cases gk with
  | zero => exact absurd HA.out (by simp [za6.l0])
  | succ k1 =>
   have H := HA.out; clear HA
   simp only [za6.l0] at H
   by_cases c4 : x4_1 < (l0.length : Int)
   ·rw [if_pos c4] at H
    have c4b0 : decide (x4_1 < (l0.length : Int)) = true := decide_eq_true c4
    clear c4
    by_cases c5 : 0 ≤ x4_1
    ·rw [if_pos c5] at H
     have c5b0 : decide (0 ≤ x4_1) = true := decide_eq_true c5
     clear c5; replace H := Option.bind_eq_some_iff.mp H
     obtain ⟨t156, A60, H⟩ := H
     replace H : (if x3_1.length + t156.size < 140737488355328 then (za6.l0 k1 l0 (x3_1 ++ bytesOf t156) (wrap64 (x4_1 + 1))) else (none)) = some r := H
     have A6 := zaa.mk A60; clear A60
     by_cases c7 : x3_1.length + t156.size < 140737488355328
     ·rw [if_pos c7] at H; have LMc7 := zaa.mk c7; clear c7
      obtain ⟨y157, hy157⟩ : ∃ y_ : List Int, y_ = (x3_1 ++ bytesOf t156) := ⟨_, rfl⟩
      replace H : (za6.l0 k1 l0 y157 (wrap64 (x4_1 + 1))) = some r := by first | (rw [hy157]; with_reducible exact H) | (have H2_ := (Option.bind_some _ _).symm.trans H; rw [hy157]; with_reducible exact H2_) | (have H2_ := (Option.bind_some _ _).symm.trans H; with_reducible exact H2_) | with_reducible exact H | (rw [hy157]; exact H) | exact H
      have Ny157 := zaa.mk hy157; clear hy157; have H' := zaa.mk H; clear H
      have p155 : 0 ≤ (x4_1 : Int) := of_decide_eq_true yq1
      have q155 : x4_1 < (l0.length : Int) := of_decide_eq_true yq1
      obtain ⟨ad155, e155, hx155_0⟩ := Kd.at_int HR0.out x4_1 p155 q155
      cases e155
      replace hx155_0 := (HB.out.cell (World.block_lt_of_cell? w _ hx155_0)).trans hx155_0
      replace p155 := eq_true p155
      replace q155 := eq_true q155
      go_wp2_with (first | ((with_reducible refine zaD (f := 99) rfl ?_); refine zbr (some 17) rfl rfl Tryz.func99 yq10 rfl #[.int .i64 (rd l0 x4_1)] rfl yq2 ?_; (with_reducible refine (zaV.calls k1 (rd l0 x4_1) t156 _ A6.out).mono ?_); rintro e w8 ⟨rfl, hb⟩; refine ⟨_, rfl, ?_⟩; have n0_ := zaa.mk (Kd.za3 (yq7 HO_3.out) hb); have n1_ := zaa.mk (zam (yq0 HB.out) hb); clear HO_3 HB; have HO_3 := n0_; have HB := n1_; clear n0_ n1_; (try clear hb); (try clear hb2); (try clear hk); (try clear hi)) | (at_builtin; refine print_append_str (w0 := w) w.heap.size rfl (.tmp 12) _ 111 9 5 rfl Tryz.underlying111 Tryz.underlying9 info5 u3 x3_1 t156 rfl rfl ?aO ?aB ?aS ?aL ?_; (case aB => exact (yq0 HB.out)); (case aO => exact (Kd.own_of_R (yq7 HO_3.out))); (case aS => exact (zaq (yq0 HB.out))); (case aL => have := LMc7.out; omega); intro v158 w9 ho0 hb hg; have ho := Kd.R_of_own (h1 := fun _ => rfl) (ok := fun _ => True) ho0 (fun _ _ => trivial); clear ho0; have hat := True.intro; rw [← Ny157.out] at ho; change Kd.R (Kd.int .u8) 5 w9 w.heap.size (fun _ => True) v158 y157 at ho; have n0_ := zaa.mk (hb); have n1_ := zaa.mk (ho); clear HB HO_3; have HB := n0_; have HO159 := n1_; clear n0_ n1_ ho hb hg hat))
      go_roundg k1
      case measure => have := HK1.out; omega
      case rel => exact ⟨(y157), (wrap64 (x4_1 + 1)), yq3, H', ⟨yq15 HK1.out⟩, ⟨yq7 HO159.out⟩, ⟨yq0 HB.out⟩⟩
     rw [if_neg c7] at H
     exact absurd H yq21
    rw [if_neg c5] at H
    exact absurd H yq21
   rw [if_neg c4] at H
   have c4b0 : decide (x4_1 < (l0.length : Int)) = false := decide_eq_false c4
   clear c4; obtain rfl := Option.some.inj H
   have hcv10 := own_string (P := Tryz.prog) Tryz.underlying111 Tryz.underlying5 Tryz.underlying9 (Kd.own_of_R HO_3.out)
   go_wp2
   go_ret
   exact ⟨yq4, yq0 HB.out⟩
def zbp.l0 : Nat → ByteArray → List Int → Int → Option (Bool)
 | 0, _, _, _ => none
 | k + 1, x0, x3, x4 => if x4 < (x3.length : Int) then (if 0 ≤ x4 then ((spec_l01Cat.f k (rd x3 x4)).bind fun t164 => (if t164 = 8 then (some false) else (zbp.l0 k x0 x3 (wrap64 (x4 + 1))))) else (none)) else (if (x3.length : Int) ≤ 3 then ((za6.f k x3).bind fun t165 => (some (t165.toList == x0.toList))) else (some false))
def zbp.f (k : Nat) (a0 : ByteArray) : Option (Bool) := (zaT.f k a0).bind fun t160 => (zbp.l0 k a0 t160 0)
set_option maxHeartbeats 8000000 in
set_option maxRecDepth 100000 in
theorem zbp.calls (k : Nat) (a0 : ByteArray) (r : Bool) (w : World) (h : zbp.f k a0 = some r) :
  Calls Tryz.prog 33 #[.string a0] w fun e w' => e = .returned (.bool r) ∧ Below w.heap.size w w' := by
 have HB := zaa.mk (Below.refl w.heap.size w)
 have H : ((zaT.f k a0).bind fun t160 => (zbp.l0 k a0 t160 0)) = some r := h
 clear h; replace H := Option.bind_eq_some_iff.mp H
 obtain ⟨t160, A20, H⟩ := H
 replace H : (zbp.l0 k a0 t160 0) = some r := H
 have A2 := zaa.mk A20; clear A20; have H' := zaa.mk H; clear H
 go_enter Tryz.func33, Tryz.ntmps33
 go_wp2_with (first | ((with_reducible refine zaD (f := 68) rfl ?_); refine zbr (some 6) rfl rfl Tryz.func68 yq10 rfl #[.string a0] rfl yq2 ?_; (with_reducible refine (zaT.calls k a0 t160 _ A2.out).mono ?_); rintro e w3 ⟨v161, rfl, ho0, hb⟩; refine ⟨_, rfl, ?_⟩; have n0_ := zaa.mk (Kd.R_lower ho0 (zaq (yq0 HB.out))); have n1_ := zaa.mk (zam (yq0 HB.out) hb); clear HB; have HO162 := n0_; have HB := n1_; clear n0_ n1_; (try clear hb); (try clear hb2); (try clear hk); (try clear hi); (try clear ho0)))
 go_loopg [4] k (fun kq v4 w' => ∃ (x4_1 : Int), v4 = .int .i64 x4_1 ∧ zaa (zbp.l0 kq a0 t160 x4_1 = some r) ∧ zaa (kq ≤ k) ∧ zaa (Kd.R (Kd.int .i64) 2 w' w.heap.size (fun _ => True) v161 t160) ∧ zaa (Below w.heap.size w w'))
 case atStart => exact ⟨(0), yq3, H', ⟨Nat.le_refl _⟩, ⟨yq7 HO162.out⟩, ⟨yq0 HB.out⟩⟩
 case round =>
  clear H'
  obtain ⟨x4_1, rfl, HA, HK1, HO_3, HB⟩ := hrel
  cases gk with
  | zero => exact absurd HA.out (by simp [zbp.l0])
  | succ k1 =>
   have H := HA.out; clear HA
   simp only [zbp.l0] at H
   by_cases c4 : x4_1 < (t160.length : Int)
   ·rw [if_pos c4] at H
    have c4b0 : decide (x4_1 < (t160.length : Int)) = true := decide_eq_true c4
    clear c4
    by_cases c5 : 0 ≤ x4_1
    ·rw [if_pos c5] at H
     have c5b0 : decide (0 ≤ x4_1) = true := decide_eq_true c5
     clear c5; replace H := Option.bind_eq_some_iff.mp H
     obtain ⟨t164, A60, H⟩ := H
     replace H : (if t164 = 8 then (some false) else (zbp.l0 k1 a0 t160 (wrap64 (x4_1 + 1)))) = some r := H
     have A6 := zaa.mk A60; clear A60
     by_cases c7 : t164 = 8
     ·rw [if_pos c7] at H
      have c7b0 : (t164 == 8) = true := beq_iff_eq.mpr c7
      have c7b1 : (t164 != 8) = false := bne_eq_false_iff_eq.mpr c7
      clear c7; obtain rfl := Option.some.inj H
      obtain ⟨Ao8, co8, eo8⟩ := Kd.R_slice HO_3.out
      subst eo8
      have p163 : 0 ≤ (x4_1 : Int) := of_decide_eq_true yq1
      have q163 : x4_1 < (t160.length : Int) := of_decide_eq_true yq1
      obtain ⟨ad163, e163, hx163_0⟩ := Kd.at_int (Kd.zbl HO_3.out).2.2 x4_1 p163 q163
      cases e163
      replace p163 := eq_true p163
      replace q163 := eq_true q163
      go_wp2_with (first | ((with_reducible refine zaD (f := 69) rfl ?_); refine zbr (some 17) rfl rfl Tryz.func69 yq10 rfl #[.int .i64 (rd t160 x4_1)] rfl yq2 ?_; (with_reducible refine (spec_l01Cat.calls k1 (rd t160 x4_1) t164 _ A6.out).mono ?_); rintro e w9 ⟨rfl, hb⟩; refine ⟨_, rfl, ?_⟩; have n0_ := zaa.mk (Kd.za3 (yq7 HO_3.out) hb); have n1_ := zaa.mk (zam (yq0 HB.out) hb); clear HO_3 HB; have HO_3 := n0_; have HB := n1_; clear n0_ n1_; (try clear hb); (try clear hb2); (try clear hk); (try clear hi)))
      go_ret
      exact ⟨yq4, yq0 HB.out⟩
     rw [if_neg c7] at H
     have c7b0 : (t164 == 8) = false := beq_eq_false_iff_ne.mpr c7
     have c7b1 : (t164 != 8) = true := bne_iff_ne.mpr c7
     have H' := zaa.mk H; clear H
     obtain ⟨Ao10, co10, eo10⟩ := Kd.R_slice HO_3.out
     subst eo10
     have p163 : 0 ≤ (x4_1 : Int) := of_decide_eq_true yq1
     have q163 : x4_1 < (t160.length : Int) := of_decide_eq_true yq1
     obtain ⟨ad163, e163, hx163_0⟩ := Kd.at_int (Kd.zbl HO_3.out).2.2 x4_1 p163 q163
     cases e163
     replace p163 := eq_true p163
     replace q163 := eq_true q163
     go_wp2_with (first | ((with_reducible refine zaD (f := 69) rfl ?_); refine zbr (some 17) rfl rfl Tryz.func69 yq10 rfl #[.int .i64 (rd t160 x4_1)] rfl yq2 ?_; (with_reducible refine (spec_l01Cat.calls k1 (rd t160 x4_1) t164 _ A6.out).mono ?_); rintro e w11 ⟨rfl, hb⟩; refine ⟨_, rfl, ?_⟩; have n0_ := zaa.mk (Kd.za3 (yq7 HO_3.out) hb); have n1_ := zaa.mk (zam (yq0 HB.out) hb); clear HO_3 HB; have HO_3 := n0_; have HB := n1_; clear n0_ n1_; (try clear hb); (try clear hb2); (try clear hk); (try clear hi)))
     go_roundg k1
     case measure => have := HK1.out; omega
     case rel => exact ⟨(wrap64 (x4_1 + 1)), yq3, H', ⟨yq15 HK1.out⟩, ⟨yq7 HO_3.out⟩, ⟨yq0 HB.out⟩⟩
    rw [if_neg c5] at H
    exact absurd H yq21
   rw [if_neg c4] at H
   have c4b0 : decide (x4_1 < (t160.length : Int)) = false := decide_eq_false c4
   clear c4
   by_cases c12 : (t160.length : Int) ≤ 3
   ·rw [if_pos c12] at H
    have c12b0 : decide ((t160.length : Int) ≤ 3) = true := decide_eq_true c12
    have c12b1 : decide (t160.length ≤ 3) = true := decide_eq_true yq9
    clear c12; replace H := Option.bind_eq_some_iff.mp H
    obtain ⟨t165, A130, H⟩ := H
    replace H : (some (t165.toList == a0.toList)) = some r := H
    have A13 := zaa.mk A130; clear A130; obtain rfl := Option.some.inj H
    obtain ⟨Ao14, co14, eo14⟩ := Kd.R_slice HO_3.out
    subst eo14
    go_wp2_with (first | (go_at_call 70; (with_reducible refine (za6.calls k1 _ _ t160 t165 _ ?side1 ?side2 A13.out).mono ?_); (case side1 => repeat (first | exact (Kd.zbl HO_3.out).2.2 | (with_reducible refine Kd.C_alloc ?_ _) | (with_reducible refine Kd.C_drewN ?_ _) | (with_reducible refine Kd.C_drew ?_))); (case side2 => exact (Kd.zbl HO_3.out).2.1); rintro e w15 ⟨rfl, hb⟩; have n0_ := zaa.mk (Kd.za3 (yq7 HO_3.out) hb); have n1_ := zaa.mk (zam (yq0 HB.out) hb); clear HO_3 HB; have HO_3 := n0_; have HB := n1_; clear n0_ n1_; (try clear hb); (try clear hb2); (try clear hk); (try clear hi)))
    go_ret
    exact ⟨yq4, yq0 HB.out⟩
   rw [if_neg c12] at H
   have c12b0 : decide ((t160.length : Int) ≤ 3) = false := decide_eq_false c12
   have c12b1 : decide (t160.length ≤ 3) = false := decide_eq_false yq9
   clear c12; obtain rfl := Option.some.inj H
   obtain ⟨Ao16, co16, eo16⟩ := Kd.R_slice HO_3.out
   subst eo16
   go_wp2
   go_ret
   exact ⟨yq4, yq0 HB.out⟩
end Go.Proofs.YtfafjbolmeimmaaGreatDoor.P
namespace Go.Proofs.YtfafjbolmeimmaaGreatDoor.P
open Go.RowKit Go.Proofs.YtfafjbolmeimmaaGreatDoorW.PrintWords Go.Proofs.YtfafjbolmeimmaaGreatDoorW.PrintLast Go.Proofs.YtfafjbolmeimmaaGreatDoorW.PrintMore
attribute [local go_sem] zbm zbn max_two min_two za9 za8 zbk zbj
set_option linter.unusedVariables false
set_option linter.unusedSimpArgs false
def impl_Category.f (k : Nat) (a0 : Int) : Option (Int) := (impl_kind.f k a0).bind fun bt260 => (some bt260.1)
set_option maxHeartbeats 8000000 in
set_option maxRecDepth 100000 in
theorem impl_Category.calls (k : Nat) (a0 : Int) (r : Int) (w : World) (h : impl_Category.f k a0 = some r) :
  Calls Tryz.prog 79 #[.int .i64 a0] w fun e w' => e = .returned (.int .i64 r) ∧ zas w w' := by
 have H : ((impl_kind.f k a0).bind fun bt260 => (some bt260.1)) = some r := h
 clear h; replace H := Option.bind_eq_some_iff.mp H
 obtain ⟨⟨t260, t261⟩, A20, H⟩ := H
 replace H : (some t260) = some r := H
 have A2 := zaa.mk A20; clear A20; obtain rfl := Option.some.inj H
 go_enter Tryz.func79, Tryz.ntmps79
 go_wp2_with (first | ((with_reducible refine zaD (f := 104) rfl ?_); refine zbr (some 7) rfl rfl Tryz.func104 yq10 rfl #[.int .i64 a0] rfl yq2 ?_; (with_reducible refine (impl_kind.calls k a0 t260 t261 _ A2.out).mono ?_); rintro e w' ⟨rfl, ⟨nd, rfl⟩⟩; refine ⟨_, rfl, ?_⟩))
 go_ret
 exact ⟨yq3, yq11⟩
def impl_isDigit.f (k : Nat) (a0 : Int) : Option (Bool) := (impl_Category.f k a0).bind fun t262 => (some (t262 == 8))
set_option maxHeartbeats 8000000 in
set_option maxRecDepth 100000 in
theorem impl_isDigit.calls (k : Nat) (a0 : Int) (r : Bool) (w : World) (h : impl_isDigit.f k a0 = some r) :
  Calls Tryz.prog 45 #[.int .i64 a0] w fun e w' => e = .returned (.bool r) ∧ zas w w' := by
 have H : ((impl_Category.f k a0).bind fun t262 => (some (t262 == 8))) = some r := h
 clear h; replace H := Option.bind_eq_some_iff.mp H
 obtain ⟨t262, A20, H⟩ := H
 replace H : (some (t262 == 8)) = some r := H
 have A2 := zaa.mk A20; clear A20; obtain rfl := Option.some.inj H
 go_enter Tryz.func45, Tryz.ntmps45
 go_wp2_with (first | ((with_reducible refine zaD (f := 79) rfl ?_); refine zbr (some 4) rfl rfl Tryz.func79 yq10 rfl #[.int .i64 a0] rfl yq2 ?_; (with_reducible refine (impl_Category.calls k a0 t262 _ A2.out).mono ?_); rintro e w' ⟨rfl, ⟨nd, rfl⟩⟩; refine ⟨_, rfl, ?_⟩))
 go_ret
 exact ⟨yq3, yq11⟩
end Go.Proofs.YtfafjbolmeimmaaGreatDoor.P
namespace Go.Proofs.YtfafjbolmeimmaaGreatDoor.P
open Go.RowKit Go.Proofs.YtfafjbolmeimmaaGreatDoorW.PrintWords Go.Proofs.YtfafjbolmeimmaaGreatDoorW.PrintMore
set_option linter.unusedVariables false
abbrev KRow := S142
def rowIn (p : Int) : List KRow → Option KRow
 | [] => none
 | r :: t => if p ≥ r.f0 then (if p ≤ r.f1 then some r else rowIn p t) else rowIn p t
def kdHi : List KRow := [⟨9728, 9753, 4, 1⟩, ⟨9984, 10009, 10, 0⟩, ⟨10016, 10025, 8, 0⟩, ⟨10032, 10035, 10, 0⟩, ⟨12288, 23459, 7, 7⟩, ⟨24576, 26623, 7, 9⟩]
def kdLow : List KRow := [⟨0, 31, 1, 0⟩, ⟨32, 32, 2, 0⟩, ⟨48, 57, 8, 0⟩, ⟨65, 90, 4, 1⟩, ⟨97, 122, 5, 1⟩, ⟨33, 126, 9, 0⟩, ⟨127, 159, 1, 0⟩, ⟨160, 160, 2, 0⟩, ⟨173, 173, 11, 0⟩, ⟨161, 191, 10, 0⟩, ⟨1280, 1311, 7, 5⟩, ⟨1360, 1369, 8, 5⟩, ⟨1536, 1567, 7, 6⟩, ⟨1568, 1579, 3, 6⟩, ⟨1584, 1585, 3, 6⟩, ⟨1616, 1625, 8, 6⟩, ⟨1792, 1810, 7, 7⟩, ⟨1824, 1844, 7, 7⟩, ⟨1857, 1883, 7, 7⟩, ⟨2048, 2095, 7, 8⟩, ⟨4096, 4159, 3, 0⟩, ⟨7680, 7748, 10, 0⟩, ⟨7760, 7785, 10, 0⟩, ⟨7936, 7947, 11, 0⟩, ⟨7953, 7954, 11, 0⟩, ⟨8064, 8064, 2, 0⟩]
def kdCased : List KRow := [⟨0, 31, 4, 0⟩, ⟨32, 63, 5, 0⟩, ⟨64, 67, 4, 0⟩, ⟨68, 71, 6, 0⟩, ⟨72, 75, 5, 0⟩, ⟨80, 89, 8, 0⟩, ⟨96, 97, 5, 0⟩]
def kd (p : Int) : Int × Int :=
 if 512 ≤ p ∧ p < 1280 then (match rowIn (p % 256) kdCased with | some r => (r.f2, p / 256) | none => (0, 0))
 else if 8192 ≤ p ∧ p < 9728 then (if p % 512 ≥ 416 then (0, 0) else if p % 512 < 208 then (4, 1) else (5, 1))
 else (match rowIn p (kdLow ++ kdHi) with | some r => (r.f2, r.f3) | none => (0, 0))
theorem rowIn_skip {p : Int} {r : KRow} {t : List KRow} (h : r.f1 < p) : rowIn p (r :: t) = rowIn p t := by
 show (if p ≥ r.f0 then (if p ≤ r.f1 then some r else rowIn p t) else rowIn p t) = rowIn p t
 rw [if_neg (show ¬ p ≤ r.f1 by omega), ite_self]
theorem rowIn_skips {p : Int} : ∀ (l t : List KRow), (∀ r ∈ l, r.f1 < p) → rowIn p (l ++ t) = rowIn p t
 | [], _, _ => rfl
 | r :: l, t, h => by
  rw [List.cons_append, rowIn_skip (h r (List.mem_cons_self ..)), rowIn_skips l t fun x hx => h x (List.mem_cons_of_mem _ hx)]
theorem kd_hi {p : Int} (h : 9728 ≤ p) : kd p = match rowIn p kdHi with | some r => (r.f2, r.f3) | none => (0, 0) := by
 unfold kd
 rw [if_neg yq9, if_neg yq9]
 have e : rowIn p (kdLow ++ kdHi) = rowIn p kdHi := rowIn_skips _ _ fun r hr => by
  have : ∀ r ∈ kdLow, r.f1 < 9728 := by decide
  have := this r hr
  omega
 rw [e]
theorem known_l1 (p : Int) (l : List KRow) (hl : l.length < 1000) : ∀ (d i : Nat) (k : Nat), l.length - i ≤ d → d < k → zau.l1 k p l (i : Int) = some (match rowIn p (l.drop i) with | some r => (r.f2, r.f3) | none => (0, 0))
 | d, i, 0, _, hk => by omega
 | d, i, k + 1, hd, hk => by
  simp only [zau.l1]
  by_cases hi : i < l.length
  ·rw [if_pos yq9, if_pos yq9, List.drop_eq_getElem_cons hi, w_succ i yq9]
   have er : rd_T142 l (i : Int) = l[i] := by simp [rd_T142, hi]
   rw [er]
   have IH := known_l1 p l hl (d - 1) (i + 1) k yq9 yq9
   simp only [rowIn]
   by_cases h1 : p ≥ l[i].f0
   ·rw [if_pos h1, if_pos h1]
    by_cases h2 : p ≤ l[i].f1
    ·rw [if_pos h2, if_pos h2]
    rw [if_neg h2, if_neg h2, IH]
   rw [if_neg h1, if_neg h1, IH]
  rw [if_neg yq9, List.drop_eq_nil_of_le yq9]
  rfl
theorem known_l0 (p : Int) (hp : 0 ≤ p) (hp2 : p < 1000000000) (l : List KRow) (hl : l.length < 1000) : ∀ (d i : Nat) (k : Nat), l.length - i ≤ d → d < k → zau.l0 k p l (i : Int) = some (match rowIn (p % 256) (l.drop i) with | some r => (r.f2, p / 256) | none => (0, 0))
 | d, i, 0, _, hk => by omega
 | d, i, k + 1, hd, hk => by
  simp only [zau.l0]
  by_cases hi : i < l.length
  ·rw [if_pos yq9, if_pos yq9, List.drop_eq_getElem_cons hi, w_succ i yq9]
   have er : rd_T142 l (i : Int) = l[i] := by simp [rd_T142, hi]
   rw [er, Int.tmod_eq_emod_of_nonneg hp, Int.tdiv_eq_ediv_of_nonneg hp, w64 (x := p / 256) yq9 yq9]
   have IH := known_l0 p hp hp2 l hl (d - 1) (i + 1) k yq9 yq9
   simp only [rowIn]
   by_cases h1 : p % 256 ≥ l[i].f0
   ·rw [if_pos h1, if_pos h1]
    by_cases h2 : p % 256 ≤ l[i].f1
    ·rw [if_pos h2, if_pos h2]
    rw [if_neg h2, if_neg h2, IH]
   rw [if_neg h1, if_neg h1, IH]
  rw [if_neg yq9, List.drop_eq_nil_of_le yq9]
  rfl
theorem known_f (p : Int) (h0 : 0 ≤ p) (h1 : p < 1000000000) (k : Nat) : zau.f (k + 40) p = some (kd p) := by
 unfold zau.f kd
 have ec : spec_l01Cased.f = some kdCased := rfl
 have er : spec_l01Rows.f = some (kdLow ++ kdHi) := rfl
 by_cases ha : 512 ≤ p ∧ p < 1280
 ·rw [if_pos yq9, if_pos ha, decide_eq_true ha.2]
  simp only [zau.j0]
  rw [if_pos trivial, ec, Option.bind_some]
  exact known_l0 p h0 h1 kdCased yq38 7 0 _ yq38 yq9
 rw [if_neg ha]
 have e : (if p ≥ 512 then zau.j0 (k + 40) p (decide (p < 1280)) else zau.j0 (k + 40) p false) = zau.j0 (k + 40) p false := by
  by_cases h : p ≥ 512
  ·rw [if_pos h, decide_eq_false yq9]
  rw [if_neg h]
 rw [e]
 simp only [zau.j0]
 rw [if_neg yq21]
 by_cases hb : 8192 ≤ p ∧ p < 9728
 ·rw [if_pos hb, if_pos yq9, decide_eq_true hb.2]
  simp only [zau.j2]
  rw [if_pos trivial, Int.tmod_eq_emod_of_nonneg h0]
  by_cases h2 : p % 512 ≥ 416
  ·rw [if_pos h2, if_pos h2]
  rw [if_neg h2, if_neg h2]
  by_cases h3 : p % 512 < 208
  ·rw [if_pos h3, if_pos h3]
  rw [if_neg h3, if_neg h3]
 rw [if_neg hb]
 have e2 : (if p ≥ 8192 then zau.j2 (k + 39) p (decide (p < 9728)) else zau.j2 (k + 39) p false) = zau.j2 (k + 39) p false := by
  by_cases h : p ≥ 8192
  ·rw [if_pos h, decide_eq_false yq9]
  rw [if_neg h]
 rw [e2]
 simp only [zau.j2]
 rw [if_neg yq21, er, Option.bind_some]
 exact known_l1 p (kdLow ++ kdHi) yq38 32 0 _ yq38 yq9
def kdGood (n : Nat) : Bool := kindP (n : Int) == kd n
def kdAll : Nat → Nat → Bool
 | 0, n => kdGood n
 | d + 1, n => kdAll d n && kdAll d (n + 2 ^ d)
theorem kdAll_get : ∀ (d n m : Nat), kdAll d n = true → n ≤ m → m < n + 2 ^ d → kdGood m = true
 | 0, n, m, h, h1, h2 => by
  obtain rfl : m = n := by omega
  exact h
 | d + 1, n, m, h, h1, h2 => by
  unfold kdAll at h
  obtain ⟨a, b⟩ := Bool.and_eq_true_iff.mp h
  by_cases hm : m < n + 2 ^ d
  ·exact kdAll_get d n m a h1 hm
  exact kdAll_get d (n + 2 ^ d) m b yq9 (by rw [Nat.pow_succ] at h2; omega)
end Go.Proofs.YtfafjbolmeimmaaGreatDoor.P
