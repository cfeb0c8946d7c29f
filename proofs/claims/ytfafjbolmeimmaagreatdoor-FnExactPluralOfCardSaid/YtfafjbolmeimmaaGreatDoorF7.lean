/- Parts of a proof: words of the print tool that this claim uses, or plain lists. -/
import Derived.Test.YtfafjbolmeimmaaGreatDoorAb
import Derived.Test.YtfafjbolmeimmaaGreatDoorF4
import Derived.Test.YtfafjbolmeimmaaGreatDoorXRfT
import Derived.Test.YtfafjbolmeimmaaGreatDoorF6
namespace Go.Proofs.YtfafjbolmeimmaaGreatDoor.P
open Go.RowKit Go.Proofs.YtfafjbolmeimmaaGreatDoorW.PrintWords Go.Proofs.YtfafjbolmeimmaaGreatDoorW.PrintLast Go.Proofs.YtfafjbolmeimmaaGreatDoorW.PrintMore
attribute [local go_sem] zbn zbp max_two min_two zba zbb zbo zbm
set_option linter.unusedVariables false
set_option linter.unusedSimpArgs false
def impl_read.l0 : Nat → ByteArray → List (S89) → Int → Option ((List (S89)))
 | 0, _, _, _ => none
 | k + 1, x0, x3, x4 => if x4 < (x0.size : Int) then (if 0 ≤ x4 then (if x4 ≤ (x0.size : Int) then ((utf8_DecodeRuneInString.f (x0.extract (x4 : Int).toNat x0.size)).bind fun bt243 => (if bt243.1 = 65533 then (if x3.length < 4398046511104 then (impl_read.l0 k x0 (x3 ++ [(⟨wrap64 (bt243.1), x4, wrap64 (x4 + bt243.2), (bt243.2 == 1)⟩ : S89)]) (wrap64 (x4 + bt243.2))) else (none)) else (if x3.length < 4398046511104 then (impl_read.l0 k x0 (x3 ++ [(⟨wrap64 (bt243.1), x4, wrap64 (x4 + bt243.2), false⟩ : S89)]) (wrap64 (x4 + bt243.2))) else (none)))) else (none)) else (none)) else (some x3)
def impl_read.f (k : Nat) (a0 : ByteArray) : Option ((List (S89))) := impl_read.l0 k a0 ([] : List (S89)) 0
set_option maxHeartbeats 8000000 in
set_option maxRecDepth 100000 in
theorem impl_read.calls (k : Nat) (a0 : ByteArray) (r : List (S89)) (w : World) (hG : GT w) (h : impl_read.f k a0 = some r) :
  Calls Tryz.prog 76 #[.string a0] w fun e w' => ∃ v0_ : Value, e = .returned (v0_) ∧ Kd.R k89 89 w' w.heap.size (fun _ => True) v0_ r ∧ Below w.heap.size w w' := by
 have hu89 := Tryz.underlying89
 have HG := zaa.mk hG; clear hG
 have HB := zaa.mk (Below.refl w.heap.size w)
 have H : (impl_read.l0 k a0 ([] : List (S89)) 0) = some r := h
 clear h; have H' := zaa.mk H; clear H
 go_enter Tryz.func76, Tryz.ntmps76
 go_wp2
 go_loopg [3, 4] k (fun kq v3 v4 w' => ∃ (x3_1 : List (S89)) (x4_1 : Int), v4 = .int .i64 x4_1 ∧ zaa (impl_read.l0 kq a0 x3_1 x4_1 = some r) ∧ zaa (kq ≤ k) ∧ zaa (Kd.R k89 89 w' w.heap.size (fun _ => True) v3 x3_1) ∧ zaa (Below w.heap.size w w'))
 case atStart => exact ⟨(([] : List (S89))), (0), yq2, H', ⟨Nat.le_refl _⟩, ⟨by first | exact Kd.R_nil _ _ _ _ _ | exact Kd.N_nil _ _ _ _ _ | exact Kd.V_nil _ _ _ _ _ | exact Kd.Q_nil _ _ _ _ _ | exact Kd.S_nil _ _ _ _ _⟩, ⟨yq0 HB.out⟩⟩
 case round =>
  clear H'
  obtain ⟨x3_1, x4_1, rfl, HA, HK1, HO_3, HB⟩ := hrel
  cases gk with
  | zero => exact absurd HA.out (by simp [impl_read.l0])
  | succ k1 =>
   have H := HA.out; clear HA
   simp only [impl_read.l0] at H
   by_cases c2 : x4_1 < (a0.size : Int)
   ·rw [if_pos c2] at H
    have c2b0 : decide (x4_1 < (a0.size : Int)) = true := decide_eq_true c2
    clear c2
    by_cases c3 : 0 ≤ x4_1
    ·rw [if_pos c3] at H
     have c3b0 := eq_true c3
     have c3b1 : decide (0 ≤ x4_1) = true := decide_eq_true c3
     clear c3
     by_cases c4 : x4_1 ≤ (a0.size : Int)
     ·rw [if_pos c4] at H
      have c4b0 := eq_true c4
      have c4b1 : decide (x4_1 ≤ (a0.size : Int)) = true := decide_eq_true c4
      clear c4; replace H := Option.bind_eq_some_iff.mp H
      obtain ⟨⟨t243, t244⟩, A50, H⟩ := H
      replace H : (if t243 = 65533 then (if x3_1.length < 4398046511104 then (impl_read.l0 k1 a0 (x3_1 ++ [(⟨wrap64 (t243), x4_1, wrap64 (x4_1 + t244), (t244 == 1)⟩ : S89)]) (wrap64 (x4_1 + t244))) else (none)) else (if x3_1.length < 4398046511104 then (impl_read.l0 k1 a0 (x3_1 ++ [(⟨wrap64 (t243), x4_1, wrap64 (x4_1 + t244), false⟩ : S89)]) (wrap64 (x4_1 + t244))) else (none))) = some r := H
      have A5 := zaa.mk A50; clear A50
      by_cases c6 : t243 = 65533
      ·rw [if_pos c6] at H
       have c6b0 : (t243 == 65533) = true := beq_iff_eq.mpr c6
       have c6b1 : (t243 != 65533) = false := bne_eq_false_iff_eq.mpr c6
       clear c6
       by_cases c7 : x3_1.length < 4398046511104
       ·rw [if_pos c7] at H; have LMc7 := zaa.mk c7; clear c7
        obtain ⟨y245, hy245⟩ : ∃ y_ : List (S89), y_ = (x3_1 ++ [(⟨wrap64 (t243), x4_1, wrap64 (x4_1 + t244), (t244 == 1)⟩ : S89)]) := ⟨_, rfl⟩
        replace H : (impl_read.l0 k1 a0 y245 (wrap64 (x4_1 + t244))) = some r := by first | (rw [hy245]; with_reducible exact H) | (have H2_ := (Option.bind_some _ _).symm.trans H; rw [hy245]; with_reducible exact H2_) | (have H2_ := (Option.bind_some _ _).symm.trans H; with_reducible exact H2_) | with_reducible exact H | (rw [hy245]; exact H) | exact H
        have Ny245 := zaa.mk hy245; clear hy245; have H' := zaa.mk H; clear H
        go_wp2_with (first | ((with_reducible refine zaC (f := 102) rfl ?_); refine zbs (some 16) rfl rfl Tryz.func102 yq11 rfl #[.string (a0.extract (x4_1 : Int).toNat a0.size)] rfl yq3 ?_; (with_reducible refine (utf8_DecodeRuneInString.calls (a0.extract (x4_1 : Int).toNat a0.size) t243 t244 _ ?side1 A5.out).mono ?_); (case side1 => exact GT_below HG.out (yq0 HB.out)); rintro e w8 ⟨rfl, hb⟩; refine ⟨_, rfl, ?_⟩; have n0_ := zaa.mk (Kd.R_below (yq9 HO_3.out) hb); have n1_ := zaa.mk (zam (yq0 HB.out) hb); clear HO_3 HB; have HO_3 := n0_; have HB := n1_; clear n0_ n1_; (try clear hb); (try clear hb2); (try clear hk); (try clear hi)) | ((with_reducible refine gate_builtin (b := .append) (xs := #[.tmp 25, .tmp 34]) rfl ?_); at_builtin; refine Kd.R_append k89 (w0 := w) w.heap.size rfl (.tmp 25) (.tmp 34) 86 89 (.agg #[(.int .i64 0), (.int .i64 0), (.int .i64 0), (.bool false)]) 32 rfl Tryz.underlying86 info89 rfl yq41 yq10 u3 x3_1 (⟨wrap64 (t243), x4_1, wrap64 (x4_1 + t244), (t244 == 1)⟩ : S89) [.int .i64 (wrap64 (t243)), .int .i64 x4_1, .int .i64 (wrap64 (x4_1 + t244)), .bool (t244 == 1)] (fun _ => True) (fun _ => False) rfl rfl ?aP (fun _ hk => hk.elim) ?aF ?aO ?aB ?aS ?aL ?_; (case aP => exact k89_mkM _ _ _ (⟨wrap64 (t243), x4_1, wrap64 (x4_1 + t244), (t244 == 1)⟩ : S89)); (case aB => exact (yq0 HB.out)); (case aF => exact (fun _ _ => trivial)); (case aO => exact (yq9 HO_3.out)); (case aS => exact (zav (yq0 HB.out))); (case aL => have := LMc7.out; omega); intro v246 w9 ho hb hg hat; rw [← Ny245.out] at ho; have n0_ := zaa.mk (hb); have n1_ := zaa.mk (ho); clear HB HO_3; have HB := n0_; have HO247 := n1_; clear n0_ n1_ ho hb hg hat))
        go_roundg k1
        case measure => have := HK1.out; omega
        case rel => exact ⟨(y245), (wrap64 (x4_1 + t244)), yq2, H', ⟨yq23 HK1.out⟩, ⟨yq9 HO247.out⟩, ⟨yq0 HB.out⟩⟩
       rw [if_neg c7] at H
       exact absurd H yq27
      rw [if_neg c6] at H
      have c6b0 : (t243 == 65533) = false := beq_eq_false_iff_ne.mpr c6
      have c6b1 : (t243 != 65533) = true := bne_iff_ne.mpr c6
      by_cases c10 : x3_1.length < 4398046511104
      ·rw [if_pos c10] at H; have LMc10 := zaa.mk c10; clear c10
       obtain ⟨y248, hy248⟩ : ∃ y_ : List (S89), y_ = (x3_1 ++ [(⟨wrap64 (t243), x4_1, wrap64 (x4_1 + t244), false⟩ : S89)]) := ⟨_, rfl⟩
       replace H : (impl_read.l0 k1 a0 y248 (wrap64 (x4_1 + t244))) = some r := by first | (rw [hy248]; with_reducible exact H) | (have H2_ := (Option.bind_some _ _).symm.trans H; rw [hy248]; with_reducible exact H2_) | (have H2_ := (Option.bind_some _ _).symm.trans H; with_reducible exact H2_) | with_reducible exact H | (rw [hy248]; exact H) | exact H
       have Ny248 := zaa.mk hy248; clear hy248; have H' := zaa.mk H; clear H
       go_wp2_with (first | ((with_reducible refine zaC (f := 102) rfl ?_); refine zbs (some 16) rfl rfl Tryz.func102 yq11 rfl #[.string (a0.extract (x4_1 : Int).toNat a0.size)] rfl yq3 ?_; (with_reducible refine (utf8_DecodeRuneInString.calls (a0.extract (x4_1 : Int).toNat a0.size) t243 t244 _ ?side1 A5.out).mono ?_); (case side1 => exact GT_below HG.out (yq0 HB.out)); rintro e w11 ⟨rfl, hb⟩; refine ⟨_, rfl, ?_⟩; have n0_ := zaa.mk (Kd.R_below (yq9 HO_3.out) hb); have n1_ := zaa.mk (zam (yq0 HB.out) hb); clear HO_3 HB; have HO_3 := n0_; have HB := n1_; clear n0_ n1_; (try clear hb); (try clear hb2); (try clear hk); (try clear hi)) | ((with_reducible refine gate_builtin (b := .append) (xs := #[.tmp 25, .tmp 34]) rfl ?_); at_builtin; refine Kd.R_append k89 (w0 := w) w.heap.size rfl (.tmp 25) (.tmp 34) 86 89 (.agg #[(.int .i64 0), (.int .i64 0), (.int .i64 0), (.bool false)]) 32 rfl Tryz.underlying86 info89 rfl yq41 yq10 u3 x3_1 (⟨wrap64 (t243), x4_1, wrap64 (x4_1 + t244), false⟩ : S89) [.int .i64 (wrap64 (t243)), .int .i64 x4_1, .int .i64 (wrap64 (x4_1 + t244)), .bool false] (fun _ => True) (fun _ => False) rfl rfl ?aP (fun _ hk => hk.elim) ?aF ?aO ?aB ?aS ?aL ?_; (case aP => exact k89_mkM _ _ _ (⟨wrap64 (t243), x4_1, wrap64 (x4_1 + t244), false⟩ : S89)); (case aB => exact (yq0 HB.out)); (case aF => exact (fun _ _ => trivial)); (case aO => exact (yq9 HO_3.out)); (case aS => exact (zav (yq0 HB.out))); (case aL => have := LMc10.out; omega); intro v249 w12 ho hb hg hat; rw [← Ny248.out] at ho; have n0_ := zaa.mk (hb); have n1_ := zaa.mk (ho); clear HB HO_3; have HB := n0_; have HO250 := n1_; clear n0_ n1_ ho hb hg hat))
       go_roundg k1
       case measure => have := HK1.out; omega
       case rel => exact ⟨(y248), (wrap64 (x4_1 + t244)), yq2, H', ⟨yq23 HK1.out⟩, ⟨yq9 HO250.out⟩, ⟨yq0 HB.out⟩⟩
      rw [if_neg c10] at H
      exact absurd H yq27
     rw [if_neg c4] at H
     exact absurd H yq27
    rw [if_neg c3] at H
    exact absurd H yq27
   rw [if_neg c2] at H
   have c2b0 : decide (x4_1 < (a0.size : Int)) = false := decide_eq_false c2
   clear c2; obtain rfl := Option.some.inj H
   go_wp2
   go_ret
   exact ⟨_, yq6, yq9 HO_3.out, yq0 HB.out⟩
def impl_points.l0 : Nat → List Int → List (S89) → Int → Int → Option (List Int)
 | 0, _, _, _, _ => none
 | k + 1, x3, x7, x8, x9 => if x9 < x8 then (if 0 ≤ x9 then (if x9 < (x7.length : Int) then (if x3.length < 17592186044416 then (impl_points.l0 k (x3 ++ [(rd_T89 x7 x9).f0]) x7 x8 (wrap64 (x9 + 1))) else (none)) else (none)) else (none)) else (some x3)
def impl_points.f (k : Nat) (a0 : ByteArray) : Option (List Int) := (impl_read.f k a0).bind fun t251 => (impl_points.l0 k ([] : List Int) t251 (t251.length : Int) 0)
set_option maxHeartbeats 8000000 in
set_option maxRecDepth 100000 in
theorem impl_points.calls (k : Nat) (a0 : ByteArray) (r : List Int) (w : World) (hG : GT w) (h : impl_points.f k a0 = some r) :
  Calls Tryz.prog 42 #[.string a0] w fun e w' => ∃ v0_ : Value, e = .returned (v0_) ∧ Kd.R (Kd.int .i64) 2 w' w.heap.size (fun _ => True) v0_ r ∧ Below w.heap.size w w' := by
 have hu89 := Tryz.underlying89
 have HG := zaa.mk hG; clear hG
 have HB := zaa.mk (Below.refl w.heap.size w)
 have H : ((impl_read.f k a0).bind fun t251 => (impl_points.l0 k ([] : List Int) t251 (t251.length : Int) 0)) = some r := h
 clear h; replace H := Option.bind_eq_some_iff.mp H
 obtain ⟨t251, A20, H⟩ := H
 replace H : (impl_points.l0 k ([] : List Int) t251 (t251.length : Int) 0) = some r := H
 have A2 := zaa.mk A20; clear A20; have H' := zaa.mk H; clear H
 go_enter Tryz.func42, Tryz.ntmps42
 go_wp2_with (first | ((with_reducible refine zaC (f := 76) rfl ?_); refine zbs (some 7) rfl rfl Tryz.func76 yq11 rfl #[.string a0] rfl yq3 ?_; (with_reducible refine (impl_read.calls k a0 t251 _ ?side1 A2.out).mono ?_); (case side1 => exact GT_below HG.out (yq0 HB.out)); rintro e w3 ⟨v252, rfl, ho0, hb⟩; refine ⟨_, rfl, ?_⟩; have n0_ := zaa.mk (Kd.R_lower ho0 (zav (yq0 HB.out))); have n1_ := zaa.mk (zam (yq0 HB.out) hb); clear HB; have HO253 := n0_; have HB := n1_; clear n0_ n1_; (try clear hb); (try clear hb2); (try clear hk); (try clear hi); (try clear ho0); obtain ⟨Ao4, co4, eo4⟩ := Kd.R_slice HO253.out; subst eo4))
 go_loopg [3, 9] k (fun kq v3 v9 w' => ∃ (x3_1 : List Int) (x9_1 : Int), v9 = .int .i64 x9_1 ∧ zaa (impl_points.l0 kq x3_1 t251 (t251.length : Int) x9_1 = some r) ∧ zaa (kq ≤ k) ∧ zaa (Kd.R (Kd.int .i64) 2 w' w.heap.size (fun _ => True) v3 x3_1) ∧ zaa (Kd.R k89 89 w' w.heap.size (fun _ => True) (.slice Ao4 t251.length co4) t251) ∧ zaa (Below w.heap.size w w'))
 case atStart => exact ⟨(([] : List Int)), (0), yq2, H', ⟨Nat.le_refl _⟩, ⟨by first | exact Kd.R_nil _ _ _ _ _ | exact Kd.N_nil _ _ _ _ _ | exact Kd.V_nil _ _ _ _ _ | exact Kd.Q_nil _ _ _ _ _ | exact Kd.S_nil _ _ _ _ _⟩, ⟨yq9 HO253.out⟩, ⟨yq0 HB.out⟩⟩
 case round =>
  clear H'
  obtain ⟨x3_1, x9_1, rfl, HA, HK1, HO_3, HO_7, HB⟩ := hrel
  cases gk with
  | zero => exact absurd HA.out (by simp [impl_points.l0])
  | succ k1 =>
   have H := HA.out; clear HA
   simp only [impl_points.l0] at H
   by_cases c5 : x9_1 < (t251.length : Int)
   ·rw [if_pos c5] at H
    have c5b0 : decide (x9_1 < (t251.length : Int)) = true := decide_eq_true c5
    clear c5
    by_cases c6 : 0 ≤ x9_1
    ·rw [if_pos c6] at H
     have c6b0 : decide (0 ≤ x9_1) = true := decide_eq_true c6
     clear c6
     by_cases c7 : x9_1 < (t251.length : Int)
     ·rw [if_pos c7] at H
      have c7b0 : decide (x9_1 < (t251.length : Int)) = true := decide_eq_true c7
      clear c7
      by_cases c8 : x3_1.length < 17592186044416
      ·rw [if_pos c8] at H; have LMc8 := zaa.mk c8; clear c8
       obtain ⟨y256, hy256⟩ : ∃ y_ : List Int, y_ = (x3_1 ++ [(rd_T89 t251 x9_1).f0]) := ⟨_, rfl⟩
       replace H : (impl_points.l0 k1 y256 t251 (t251.length : Int) (wrap64 (x9_1 + 1))) = some r := by first | (rw [hy256]; with_reducible exact H) | (have H2_ := (Option.bind_some _ _).symm.trans H; rw [hy256]; with_reducible exact H2_) | (have H2_ := (Option.bind_some _ _).symm.trans H; with_reducible exact H2_) | with_reducible exact H | (rw [hy256]; exact H) | exact H
       have Ny256 := zaa.mk hy256; clear hy256; have H' := zaa.mk H; clear H
       have p254 : 0 ≤ (x9_1 : Int) := of_decide_eq_true yq1
       have q254 : x9_1 < (t251.length : Int) := of_decide_eq_true yq1
       obtain ⟨ad254, e254, hx254_0, hx254_1, hx254_2, hx254_3⟩ := at_T89 (Kd.zbc HO_7.out).2.2 x9_1 p254 q254
       cases e254
       replace p254 := eq_true p254
       replace q254 := eq_true q254
       go_wp2_with (first | ((with_reducible refine zaF (N := 5) rfl ?_); refine zaO ?hg (N := 5) ?hd (cs := #[.int .i64 0, .int .i64 0, .int .i64 0, .bool false]) (t := 89) ?hr ?_; (case hd => rfl); (case hg => rfl); (case hr => first | (go_simp; done) | (go_simp; rfl)); intro gb255 hg w9 hbox hb; have n0_ := zaa.mk (Kd.R_below (yq9 HO_3.out) hb); have n1_ := zaa.mk (Kd.R_below (Kd.R_elderB (yq9 HO_7.out) gb255 (Nat.le_of_eq hg.symm)) hb); have n2_ := zaa.mk (zam (yq0 HB.out) hb); have n3_ := zaa.mk (hbox); have n4_ := zaa.mk ((by rw [hg]; exact (zav (yq0 HB.out)) : w.heap.size ≤ gb255)); have n5_ := zaa.mk ((by rw [hg]; exact (zav (yq0 HB.out)) : w.heap.size ≤ gb255)); clear HO_3 HO_7 HB; have HO_3 := n0_; have HO_7 := n1_; have HB := n2_; have BK255 := n3_; have GW255 := n4_; have GE255 := n5_; clear n0_ n1_ n2_ n3_ n4_ n5_ hb hbox hg; have hcz10_0 : w9.cell? ⟨gb255, 0, none⟩ = some (.int .i64 0) := (zah BK255.out 0).trans rfl; have hcz10_1 : w9.cell? ⟨gb255, 1, none⟩ = some (.int .i64 0) := (zah BK255.out 1).trans rfl; have hcz10_2 : w9.cell? ⟨gb255, 2, none⟩ = some (.int .i64 0) := (zah BK255.out 2).trans rfl; have hcz10_3 : w9.cell? ⟨gb255, 3, none⟩ = some (.bool false) := (zah BK255.out 3).trans rfl; have hfz10_0 := zae BK255.out 0; have hfz10_1 := zae BK255.out 1; have hfz10_2 := zae BK255.out 2; have hfz10_3 := zae BK255.out 3) | ((with_reducible refine gate_builtin (b := .append) (xs := #[.tmp 13, .tmp 16]) rfl ?_); at_builtin; refine Kd.R_append (Kd.int .i64) (w0 := w) w.heap.size rfl (.tmp 13) (.tmp 16) 22 2 (.int .i64 0) 8 rfl Tryz.underlying22 info2 rfl yq41 yq10 u3 x3_1 ((rd_T89 t251 x9_1).f0) [.int .i64 ((rd_T89 t251 x9_1).f0)] (fun _ => True) (fun _ => False) rfl (by first | (go_simp; done) | (go_simp; rfl)) ?aP (fun _ hk => hk.elim) ?aF ?aO ?aB ?aS ?aL ?_; (case aP => exact rfl); (case aB => exact (yq16 HB.out GE255.out)); (case aF => exact (fun _ _ => trivial)); (case aO => exact (by (with_reducible repeat (first | apply Kd.R_alloc | apply Kd.R_drewN | apply Kd.R_drew)); exact Kd.R_mono (Kd.zbd (p := ⟨gb255, 3, none⟩) (Kd.zbd (p := ⟨gb255, 2, none⟩) (Kd.zbd (p := ⟨gb255, 1, none⟩) (Kd.zbd (p := ⟨gb255, 0, none⟩) (Kd.R_types HO_3.out BK255.out yq41) (fun _ hk => hk.2) (.int .i64 ((rd_T89 t251 x9_1).f0))) (fun _ hk => hk.2) (.int .i64 ((rd_T89 t251 x9_1).f1))) (fun _ hk => hk.2) (.int .i64 ((rd_T89 t251 x9_1).f2))) (fun _ hk => hk.2) (.bool ((rd_T89 t251 x9_1).f3))) (fun _ hk => trivial))); (case aS => exact (zav (yq16 HB.out GE255.out))); (case aL => have := LMc8.out; omega); intro v257 w11 ho hb hg hat; rw [← Ny256.out] at ho; have n0_ := zaa.mk (Kd.R_over' (by (with_reducible repeat (first | apply Kd.R_alloc | apply Kd.R_drewN | apply Kd.R_drew)); exact (Kd.R_mono (Kd.zbd (p := ⟨gb255, 3, none⟩) (Kd.zbd (p := ⟨gb255, 2, none⟩) (Kd.zbd (p := ⟨gb255, 1, none⟩) (Kd.zbd (p := ⟨gb255, 0, none⟩) (Kd.R_mono HO_7.out (fun k_ hk => (⟨hk, hk.2⟩ : _ ∧ k_ ≠ gb255))) (fun _ hk => hk.2) (.int .i64 ((rd_T89 t251 x9_1).f0))) (fun _ hk => hk.2) (.int .i64 ((rd_T89 t251 x9_1).f1))) (fun _ hk => hk.2) (.int .i64 ((rd_T89 t251 x9_1).f2))) (fun _ hk => hk.2) (.bool ((rd_T89 t251 x9_1).f3))) (fun _ h_ => h_.1))) (Kd.R_typed (by (with_reducible repeat (first | apply Kd.R_alloc | apply Kd.R_drewN | apply Kd.R_drew)); exact (Kd.R_mono (Kd.zbd (p := ⟨gb255, 3, none⟩) (Kd.zbd (p := ⟨gb255, 2, none⟩) (Kd.zbd (p := ⟨gb255, 1, none⟩) (Kd.zbd (p := ⟨gb255, 0, none⟩) (Kd.R_types HO_3.out BK255.out yq41) (fun _ hk => hk.2) (.int .i64 ((rd_T89 t251 x9_1).f0))) (fun _ hk => hk.2) (.int .i64 ((rd_T89 t251 x9_1).f1))) (fun _ hk => hk.2) (.int .i64 ((rd_T89 t251 x9_1).f2))) (fun _ hk => hk.2) (.bool ((rd_T89 t251 x9_1).f3))) (fun _ h_ => h_.1)))) yq41 hg); have n1_ := zaa.mk (blk_grown (g := gb255) (o := .cells #[.int .i64 ((rd_T89 t251 x9_1).f0), .int .i64 ((rd_T89 t251 x9_1).f1), .int .i64 ((rd_T89 t251 x9_1).f2), .bool ((rd_T89 t251 x9_1).f3)] 89 (0, 0)) (by (with_reducible repeat (first | refine zak ?_ _ | refine zan ?_ | refine blk_alloc ?_ _)); refine zaV (cs := #[.int .i64 ((rd_T89 t251 x9_1).f0), .int .i64 ((rd_T89 t251 x9_1).f1), .int .i64 ((rd_T89 t251 x9_1).f2), .bool false]) ?_ 3 _ rfl; (with_reducible repeat (first | refine zak ?_ _ | refine zan ?_ | refine blk_alloc ?_ _)); refine zaV (cs := #[.int .i64 ((rd_T89 t251 x9_1).f0), .int .i64 ((rd_T89 t251 x9_1).f1), .int .i64 0, .bool false]) ?_ 2 _ rfl; (with_reducible repeat (first | refine zak ?_ _ | refine zan ?_ | refine blk_alloc ?_ _)); refine zaV (cs := #[.int .i64 ((rd_T89 t251 x9_1).f0), .int .i64 0, .int .i64 0, .bool false]) ?_ 1 _ rfl; (with_reducible repeat (first | refine zak ?_ _ | refine zan ?_ | refine blk_alloc ?_ _)); refine zaV (cs := #[.int .i64 0, .int .i64 0, .int .i64 0, .bool false]) ?_ 0 _ rfl; (with_reducible repeat (first | refine zak ?_ _ | refine zan ?_ | refine blk_alloc ?_ _)); exact BK255.out) hg (Kd.R_ne HO_3.out BK255.out yq41)); have n2_ := zaa.mk (hb); have n3_ := zaa.mk (ho); clear HO_7 BK255 HB HO_3; have HO_7 := n0_; have BK255 := n1_; have HB := n2_; have HO258 := n3_; clear n0_ n1_ n2_ n3_ ho hb hg hat))
       go_roundg k1
       case measure => have := HK1.out; omega
       case rel => exact ⟨(y256), (wrap64 (x9_1 + 1)), yq2, H', ⟨yq23 HK1.out⟩, ⟨yq9 HO258.out⟩, ⟨by (with_reducible repeat (first | apply Kd.R_alloc | apply Kd.R_drewN | apply Kd.R_drew)); exact Kd.R_mono HO_7.out (fun _ hk => trivial)⟩, ⟨yq16 HB.out GE255.out⟩⟩
      rw [if_neg c8] at H
      exact absurd H yq27
     rw [if_neg c7] at H
     exact absurd H yq27
    rw [if_neg c6] at H
    exact absurd H yq27
   rw [if_neg c5] at H
   have c5b0 : decide (x9_1 < (t251.length : Int)) = false := decide_eq_false c5
   clear c5; obtain rfl := Option.some.inj H
   go_wp2
   go_ret
   exact ⟨_, yq6, yq9 HO_3.out, yq0 HB.out⟩
end Go.Proofs.YtfafjbolmeimmaaGreatDoor.P
namespace Go.Proofs.YtfafjbolmeimmaaGreatDoor.P
open Go.RowKit Go.Proofs.YtfafjbolmeimmaaGreatDoorW.PrintWords Go.Proofs.YtfafjbolmeimmaaGreatDoorW.PrintLast Go.Proofs.YtfafjbolmeimmaaGreatDoorW.PrintMore
set_option linter.unusedVariables false
set_option linter.unusedSimpArgs false
theorem sp_count (b : UInt8) : ∀ (n : Nat) (s : List UInt8), s.length ≤ n → (Lib.splitK [b] 0 (Lib.count s [b]) s).length = Lib.count s [b] + 1 := by
 intro n
 induction n with
 | zero =>
  intro s hs
  obtain rfl : s = [] := List.eq_nil_of_length_eq_zero yq10
  have h2 : Lib.index [] [b] = -1 := rfl
  rw [Lib.count_miss h2]
  rfl
 | succ n ih =>
  intro s hs
  by_cases h2 : Lib.index s [b] = -1
  ·rw [Lib.count_miss h2]
   rfl
  have hg := Lib.index_ge s [b]
  obtain ⟨i, hii⟩ : ∃ i : Nat, Lib.index s [b] = i := ⟨(Lib.index s [b]).toNat, yq10⟩
  rw [Lib.count_hit (i := i) yq27 hii, Nat.add_comm]
  rw [show Lib.splitK [b] 0 (Lib.count (List.drop (i + [b].length) s) [b] + 1) s = if Lib.index s [b] == -1 then [s] else s.take ((Lib.index s [b]).toNat + 0) :: Lib.splitK [b] 0 (Lib.count (List.drop (i + [b].length) s) [b]) (s.drop ((Lib.index s [b]).toNat + [b].length)) from rfl]
  rw [if_neg (by rw [hii]; simp), hii, Int.toNat_natCast, List.length_cons]
  by_cases he : s = []
  ·subst he; exact absurd rfl h2
  have : 0 < s.length := List.length_pos_iff.2 he
  rw [ih _ (by rw [List.length_drop]; simp; omega)]
theorem sp_len (b : UInt8) (l : List UInt8) : (sp b l).length = Lib.count l [b] + 1 := by rw [← split_one]; exact sp_count b l.length l (Nat.le_refl _)
theorem sp_le (b : UInt8) (l : List UInt8) : (sp b l).length ≤ l.length + 1 ∧ ∀ q ∈ sp b l, q.length ≤ l.length := by
 induction l with
 | nil => exact ⟨Nat.le_refl _, fun q h => by rw [show sp b [] = [[]] from rfl] at h; rw [List.mem_singleton.1 h]; exact Nat.le_refl _⟩
 | cons c r ih =>
  show (if c = b then [] :: sp b r else consHead c (sp b r)).length ≤ _ ∧ ∀ q ∈ (if c = b then [] :: sp b r else consHead c (sp b r)), _
  obtain ⟨h, t, e⟩ := sp_ne b r
  rw [e] at ih ⊢
  rw [List.length_cons] at ih ⊢
  split
  ·refine ⟨by simp only [List.length_cons]; omega, fun q hq => ?_⟩
   rcases List.mem_cons.1 hq with rfl | hq
   ·simp
   have := ih.2 q hq; omega
  refine ⟨by show (consHead c (h :: t)).length ≤ _; unfold consHead; simp only [List.length_cons]; omega, fun q hq => ?_⟩
  rcases List.mem_cons.1 (show q ∈ (c :: h) :: t from hq) with rfl | hq
  ·have := ih.2 h (List.mem_cons_self ..); rw [List.length_cons]; omega
  have := ih.2 q (List.mem_cons_of_mem _ hq); omega
theorem split_calls (b : UInt8) (l : List UInt8) (hl : l.length ≤ 1000) (w : World) (hG : GT w) :
  Calls Tryz.prog 106 #[.string (bs l), .string ⟨([b] : List UInt8).toArray⟩] w fun e w' => e = .returned (.slice (some ⟨w.heap.size, 0, none⟩) (sp b l).length (sp b l).length) ∧ w' = w.alloc (.cells ((sp b l).map (fun q => Value.string (bs q))).toArray 9 (0, 0)) := by
 obtain ⟨m, hm⟩ := hG.maxLen
 refine (Tryz.strings_Split (bs l) ⟨([b] : List UInt8).toArray⟩ m w (by rw [bs_size]; omega) hm (Nat.le_refl _)).mono ?_
 rintro e w' ⟨rfl, rfl⟩
 have e1 : Lib.countB (bs l) ⟨([b] : List UInt8).toArray⟩ = Lib.count l [b] := rfl
 have e2 : (Lib.splitB ⟨([b] : List UInt8).toArray⟩ 0 (Lib.countB (bs l) ⟨([b] : List UInt8).toArray⟩) (bs l)).map Value.string = (sp b l).map (fun q => Value.string (bs q)) := by
  have e3 := Lib.splitB_data ⟨([b] : List UInt8).toArray⟩ 0 (Lib.countB (bs l) ⟨([b] : List UInt8).toArray⟩) (bs l)
  have e4 : sp b l = (Lib.splitB ⟨([b] : List UInt8).toArray⟩ 0 (Lib.countB (bs l) ⟨([b] : List UInt8).toArray⟩) (bs l)).map (·.data.toList) := by rw [e3, ← split_one]; rfl
  rw [e4, List.map_map]
  rfl
 rw [e2, e1, ← sp_len]
 exact ⟨rfl, rfl⟩
def mapO {α β : Type} (f : α → Option β) : List α → Option (List β)
 | [] => some []
 | x :: xs => match f x, mapO f xs with | some y, some ys => some (y :: ys) | _, _ => none
theorem mapO_snoc {α β : Type} {f : α → Option β} {xs : List α} {x : α} {ys : List β} {y : β} (h : mapO f xs = some ys) (hx : f x = some y) : mapO f (xs ++ [x]) = some (ys ++ [y]) := by
 induction xs generalizing ys with
 | nil => cases h; show (match f x, some [] with | some y, some ys => some (y :: ys) | _, _ => none) = _; rw [hx]; rfl
 | cons a xs ih =>
  show (match f a, mapO f (xs ++ [x]) with | some y, some ys => some (y :: ys) | _, _ => none) = _
  have h' : (match f a, mapO f xs with | some y, some ys => some (y :: ys) | _, _ => none) = some ys := h
  cases ha : f a with
  | none => rw [ha] at h'; cases h'
  | some b =>
   cases hm : mapO f xs with
   | none => rw [ha, hm] at h'; cases h'
   | some zs =>
    rw [ha, hm] at h'
    cases h'
    rw [ih hm]
    rfl
theorem mapO_none {α β : Type} {f : α → Option β} {xs : List α} {x : α} (h : x ∈ xs) (hx : f x = none) : mapO f xs = none := by
 induction xs with
 | nil => cases h
 | cons a xs ih =>
  show (match f a, mapO f xs with | some y, some ys => some (y :: ys) | _, _ => none) = _
  rcases List.mem_cons.1 h with rfl | h
  ·rw [hx]
  rw [ih h]
  cases f a <;> rfl
theorem mapO_some {α β : Type} (f : α → Option β) (xs : List α) : (mapO f xs).isSome = xs.all (fun x => (f x).isSome) := by
 induction xs with
 | nil => rfl
 | cons a xs ih =>
  show (match f a, mapO f xs with | some y, some ys => some (y :: ys) | _, _ => none).isSome = ((f a).isSome && xs.all (fun x => (f x).isSome))
  rw [← ih]
  cases f a with
  | none => rfl
  | some b => cases mapO f xs <;> rfl
def rowI (r : List UInt8) : Option (List TI) := mapO tI (sp 38 r)
def whenI (l : List UInt8) : Option (List (List TI)) := if 200 < l.length then none else mapO rowI (sp 124 l)
theorem when_rule (l : List UInt8) (h : l.length ≤ 200) : (whenI l).isSome = pRule l := by
 unfold whenI
 rw [if_neg yq10, mapO_some, rule_split, split_one]
 congr 1
 funext row
 show (mapO tI (sp 38 row)).isSome = _
 rw [mapO_some, split_one]
 congr 1
 funext x
 exact tI_ok x
def dT : Kd TI := Kd.pair (Kd.int .u8) (Kd.pair (Kd.int .i64) (Kd.pair Kd.bool (Kd.pair (Kd.int .i64) (Kd.int .i64))))
def dTs : Kd (List TI) := Kd.slice 106 dT
def WhenOut (l : List UInt8) (w : World) (e : Ending) (w' : World) : Prop := ∃ v : Value, e = .returned (.tuple #[v, .bool (whenI l).isSome]) ∧ dTs.R 103 w' w.heap.size (fun _ => True) v ((whenI l).getD []) ∧ Below w.heap.size w w'
theorem WhenOut.no {l : List UInt8} {w w' : World} {e : Ending} (h : whenI l = none) (hb : Below w.heap.size w w') (he : e = .returned (.tuple #[.slice none 0 0, .bool false]) := by rfl) : WhenOut l w e w' := ⟨.slice none 0 0, by rw [h]; exact he, by rw [h]; exact Kd.R_nil _ _ _ _ _, hb⟩
theorem WhenOut.yes {l : List UInt8} {w w' : World} {e : Ending} {v : Value} {q : List (List TI)} (h : whenI l = some q) (hr : dTs.R 103 w' w.heap.size (fun _ => True) v q) (hb : Below w.heap.size w w') (he : e = .returned (.tuple #[v, .bool true]) := by rfl) : WhenOut l w e w' := ⟨v, by rw [h]; exact he, by rw [h]; exact hr, hb⟩
theorem dT_M (w : World) (base : Nat) (ok : Nat → Prop) (x : TI) : dT.M w base ok x (tvA x).toList := by
 exact ⟨_, _, rfl, rfl, _, _, rfl, rfl, _, _, rfl, rfl, _, _, rfl, rfl, rfl⟩
end Go.Proofs.YtfafjbolmeimmaaGreatDoor.P
namespace Go.Proofs.YtfafjbolmeimmaaGreatDoor.P
open Go.RowKit Go.Proofs.YtfafjbolmeimmaaGreatDoorW.PrintWords Go.Proofs.YtfafjbolmeimmaaGreatDoorW.PrintLast Go.Proofs.YtfafjbolmeimmaaGreatDoorW.PrintMore
set_option linter.unusedVariables false
set_option linter.unusedSimpArgs false
def Pcs (w : World) (g : Nat) (L : List (List UInt8)) : Prop := w.heap[g]? = some (.cells (L.map (fun q => Value.string (bs q))).toArray 9 (0, 0))
theorem Pcs.at {w : World} {g : Nat} {L : List (List UInt8)} (h : Pcs w g L) (i : Nat) (hi : i < L.length) : w.cell? ⟨g, i, none⟩ = some (.string (bs L[i])) := by
 rw [zah h i]
 simp [hi]
theorem Pcs.below {w w' : World} {g : Nat} {L : List (List UInt8)} (h : Pcs w g L) (hb : Below w.heap.size w w') : Pcs w' g L := zaH h hb
theorem infoT : (Tryz.prog.info? 106).map (fun i => (i.zero, i.size, i.bytes)) = some (some (.agg #[.int .u8 0, .int .i64 0, .bool false, .int .i64 0, .int .i64 0]), 5, 40) := by kernel_rfl
theorem infoTs : (Tryz.prog.info? 103).map (fun i => (i.zero, i.size, i.bytes)) = some (some (.slice none 0 0), 1, 24) := by kernel_rfl
theorem test_calls' (l : List UInt8) (w : World) (hG : GT w) (hl : l.length ≤ 1099511627776) :
  Calls Tryz.prog 107 #[.string (bs l)] w fun e w' => ∃ (a b : Int) (c : Bool) (d f : Int), e = .returned (.tuple #[.agg #[.int .u8 a, .int .i64 b, .bool c, .int .i64 d, .int .i64 f], .bool (tI l).isSome]) ∧ (∀ y, tI l = some y → (a, b, c, d, f) = y) ∧ Below w.heap.size w w' :=
 (test_calls l w hG hl).mono fun _ _ ⟨x, h1, h2, h3⟩ => ⟨x.1, x.2.1, x.2.2.1, x.2.2.2.1, x.2.2.2.2, h1, h2, h3⟩
theorem take_snoc {α : Type} (L : List α) (i : Nat) (h : i < L.length) : L.take (i + 1) = L.take i ++ [L[i]] := by rw [List.take_add_one, List.getElem?_eq_getElem h]; rfl
set_option maxHeartbeats 4000000 in
set_option maxRecDepth 100000 in
theorem when_calls (l : List UInt8) (w : World) (hG : GT w) (hl : l.length ≤ 1099511627776) :
  Calls Tryz.prog 81 #[.string (bs l)] w fun e w' => WhenOut l w e w' := by
 have HG := zaa.mk hG; have HL := zaa.mk hl
 have hs := bs_size l
 have HS := zaa.mk hs; clear hG hl
 by_cases h200 : 200 < l.length
 ·have d0 : decide (200 < ((bs l).size : Int)) = true := decide_eq_true yq10
  have d1 : decide (200 < (bs l).size) = true := decide_eq_true yq10
  have hno : whenI l = none := by unfold whenI; rw [if_pos h200]
  clear hs h200
  go_enter Tryz.func81, Tryz.ntmps81
  go_wp2
  go_ret2
  exact WhenOut.no hno (Below.refl _ _)
 have d0 : decide (200 < ((bs l).size : Int)) = false := decide_eq_false yq10
 have d1 : decide (200 < (bs l).size) = false := decide_eq_false yq10
 have HW : zaa (whenI l = mapO rowI (sp 124 l)) := ⟨by unfold whenI; rw [if_neg h200]⟩
 have H2 := zaa.mk (show l.length ≤ 200 by omega)
 clear hs h200
 go_enter Tryz.func81, Tryz.ntmps81
 go_wp2_with (fail)
 refine (split_calls 124 l (yq23 H2.out) w HG.out).mono ?_
 rintro e w1 ⟨rfl, rfl⟩
 have BP := zaa.mk (show Pcs _ w.heap.size (sp 124 l) from blk_new w (.cells ((sp 124 l).map (fun q => Value.string (bs q))).toArray 9 (0, 0)))
 have HBA := zaa.mk (zad (Below.refl w.heap.size w) (.cells ((sp 124 l).map (fun q => Value.string (bs q))).toArray 9 (0, 0)))
 have hg16 : ∃ g16, w.heap.size = g16 := ⟨_, rfl⟩
 generalize w.alloc (.cells ((sp 124 l).map (fun q => Value.string (bs q))).toArray 9 (0, 0)) = wA at *
 obtain ⟨n, hn⟩ : ∃ n, (sp 124 l).length = n := ⟨_, rfl⟩
 have HN := zaa.mk hn
 rw [hn]
 clear hn hg16
 go_wp2_with (fail)
 go_loopw [4, 18] (fun v4 v18 wr => ∃ (x : Int) (i : Nat) (rows : List (List TI)), v18 = .int .i64 x ∧ zaa (x = (i : Int) ∧ i ≤ n) ∧ zaa (mapO rowI ((sp 124 l).take i) = some rows ∧ rows.length = i) ∧ zaa (dTs.R 103 wr wA.heap.size (fun _ => True) v4 rows) ∧ zaa (Below wA.heap.size wA wr)) (fun v4 v18 wr => (n + 1 - (intOf v18).toNat))
 case atStart => exact ⟨0, 0, [], rfl, ⟨rfl, Nat.zero_le _⟩, ⟨rfl, rfl⟩, ⟨Kd.R_nil _ _ _ _ _⟩, ⟨by first | exact Below.refl _ _ | (repeat (first | (with_reducible first | exact Below.refl _ _ | apply zab | apply zac) | exact Below.refl _ _))⟩⟩
 case round =>
  rename World => wo
  obtain ⟨x, i, rows, rfl, HX, HM, HR, HB⟩ := hrel
  by_cases hi : i < n
  ·have d2 : decide (x < (n : Int)) = true := decide_eq_true (yq23 HX.out)
   have p1 : (0 ≤ x) = True := eq_true (yq23 HX.out)
   have p2 : (x < (n : Int)) = True := eq_true (yq23 HX.out)
   have hlt : i < (sp 124 l).length := by have := HN.out; omega
   have hxi : x.toNat = i := by have := HX.out; omega
   have hc : wo.cell? ⟨w.heap.size, x.toNat, none⟩ = some (.string (bs (sp 124 l)[i])) := by rw [hxi]; exact (BP.out.below HB.out).at i hlt
   have hpl := zaa.mk ((sp_le 124 l).2 _ (List.getElem_mem hlt))
   have HPC := zaa.mk (take_snoc (sp 124 l) i hlt)
   have HPM := zaa.mk (List.getElem_mem hlt)
   generalize (sp 124 l)[i] = pc at hc hpl HPC HPM
   clear hxi hlt
   go_upto_region 8 with (fail)
   go_wp2_with (fail)
   refine (split_calls 38 pc (yq25 H2.out hpl.out) wo (GT_below HG.out (zam HBA.out HB.out))).mono ?_
   rintro e w2 ⟨rfl, rfl⟩
   have CP := zaa.mk (show Pcs _ wo.heap.size (sp 38 pc) from blk_new wo (.cells ((sp 38 pc).map (fun q => Value.string (bs q))).toArray 9 (0, 0)))
   have HCA := zaa.mk (zad (Below.refl wo.heap.size wo) (.cells ((sp 38 pc).map (fun q => Value.string (bs q))).toArray 9 (0, 0)))
   have HRA := zaa.mk (Kd.R_below HR.out HCA.out)
   have HBB := zaa.mk (zam HB.out HCA.out)
   have HLT := zaa.mk (show wo.heap.size < (wo.alloc (.cells ((sp 38 pc).map (fun q => Value.string (bs q))).toArray 9 (0, 0))).heap.size from blk_lt CP.out)
   generalize wo.alloc (.cells ((sp 38 pc).map (fun q => Value.string (bs q))).toArray 9 (0, 0)) = wB at *
   obtain ⟨m, hm⟩ : ∃ m, (sp 38 pc).length = m := ⟨_, rfl⟩
   have HMN := zaa.mk hm
   rw [hm]
   clear hm hc p1 p2 d2
   go_wp2_with (fail)
   go_loopw [7, 25] (fun v7 v25 ws => ∃ (y : Int) (j : Nat) (ts : List TI), v25 = .int .i64 y ∧ zaa (y = (j : Int) ∧ j ≤ m) ∧ zaa (mapO tI ((sp 38 pc).take j) = some ts ∧ ts.length = j) ∧ zaa (dT.R 106 ws wB.heap.size (fun _ => True) v7 ts) ∧ zaa (Below wB.heap.size wB ws)) (fun v7 v25 ws => (m + 1 - (intOf v25).toNat))
   case atStart => exact ⟨0, 0, [], rfl, ⟨rfl, Nat.zero_le _⟩, ⟨rfl, rfl⟩, ⟨Kd.R_nil _ _ _ _ _⟩, ⟨Below.refl _ _⟩⟩
   case round =>
    obtain ⟨y, j, ts, rfl, HY, HT, HO, HC⟩ := hrel
    by_cases hj : j < m
    ·have d2 : decide (y < (m : Int)) = true := decide_eq_true (yq23 HY.out)
     have p1 : (0 ≤ y) = True := eq_true (yq23 HY.out)
     have p2 : (y < (m : Int)) = True := eq_true (yq23 HY.out)
     have hlt : j < (sp 38 pc).length := by have := HMN.out; omega
     have hxj : y.toNat = j := by have := HY.out; omega
     have hc : wr.cell? ⟨wo.heap.size, y.toNat, none⟩ = some (.string (bs (sp 38 pc)[j])) := by rw [hxj]; exact (CP.out.below HC.out).at j hlt
     have hql := zaa.mk ((sp_le 38 pc).2 _ (List.getElem_mem hlt))
     have HQC := zaa.mk (take_snoc (sp 38 pc) j hlt)
     have HQM := zaa.mk (List.getElem_mem hlt)
     generalize (sp 38 pc)[j] = qc at hc hql HQC HQM
     clear hxj hlt
     have hu := Tryz.underlying106
     go_upto_region 11 with (fail)
     clear hc p1 p2 d2
     go_upto_region 12 with (first
      | ((with_reducible refine (test_calls' qc wr (GT_below HG.out (zam HBA.out (zam HBB.out HC.out))) (by have := H2.out; have := hpl.out; have := hql.out; omega)).mono ?_); rintro e w3 ⟨a, b, c, d, f, rfl, hx, hb⟩; have HX3 := zaa.mk hx; have HO3 := zaa.mk (Kd.R_below HO.out hb); have HC3 := zaa.mk (zam HC.out hb); clear hx hb)
      | ((with_reducible refine zaF (N := 10) rfl ?_); refine zaO ?hg (N := 10) ?hd (cs := #[.int .u8 0, .int .i64 0, .bool false, .int .i64 0, .int .i64 0]) (t := 106) ?hr ?_; (case hd => rfl); (case hg => rfl); (case hr => first | (go_simp; done) | (go_simp; rfl)); intro g10 hg w4 hbox hb; have BK := zaa.mk hbox; have HB34 := zaa.mk hb; have G10 := zaa.mk (show w3.heap.size ≤ g10 by omega); have z0 := (zah hbox 0).trans rfl; have z1 := (zah hbox 1).trans rfl; have z2 := (zah hbox 2).trans rfl; have z3 := (zah hbox 3).trans rfl; have z4 := (zah hbox 4).trans rfl; have f0 := zae hbox 0; have f1 := zae hbox 1; have f2 := zae hbox 2; have f3 := zae hbox 3; have f4 := zae hbox 4; clear hb hbox hg)
      | fail)
     have BK5 := zaa.mk (zaV (zaV (zaV (zaV (zaV BK.out 0 (.int .u8 a) rfl) 1 (.int .i64 b) rfl) 2 (.bool c) rfl) 3 (.int .i64 d) rfl) 4 (.int .i64 f) rfl)
     have HB35 := zaa.mk (zaj (j := 4) (v := .int .i64 f) (zaj (j := 3) (v := .int .i64 d) (zaj (j := 2) (v := .bool c) (zaj (j := 1) (v := .int .i64 b) (zaj (j := 0) (v := .int .u8 a) HB34.out G10.out) G10.out) G10.out) G10.out) G10.out)
     generalize ((((w4.setCell ⟨g10, 0, none⟩ (.int .u8 a)).setCell ⟨g10, 1, none⟩ (.int .i64 b)).setCell ⟨g10, 2, none⟩ (.bool c)).setCell ⟨g10, 3, none⟩ (.int .i64 d)).setCell ⟨g10, 4, none⟩ (.int .i64 f) = w5 at *
     have HO5 := zaa.mk (Kd.R_below HO3.out HB35.out)
     have HC5 := zaa.mk (zam HC3.out HB35.out)
     clear z0 z1 z2 z3 z4 f0 f1 f2 f3 f4 BK HB34 G10 HB35 HO3 HC3 HO HC
     cases ht : tI qc with
     | none =>
      have hrow : rowI pc = none := mapO_none HQM.out ht
      have hno : whenI l = none := HW.out.trans (mapO_none HPM.out hrow)
      have HE := zaa.mk (zam HBA.out (zam HBB.out HC5.out))
      go_wp2
      go_ret2
      exact WhenOut.no hno HE.out
     | some q =>
      have hxq := HX3.out q ht
      have HTN : zaa (mapO tI ((sp 38 pc).take (j + 1)) = some (ts ++ [q]) ∧ (ts ++ [q]).length = j + 1) := ⟨by rw [HQC.out]; exact mapO_snoc HT.out.1 ht, by rw [List.length_append, HT.out.2]; rfl⟩
      subst hxq
      have z0 : w5.cell? ⟨g10, 0, none⟩ = some (.int .u8 a) := (zah BK5.out 0).trans rfl
      have z1 : w5.cell? ⟨g10, 1, none⟩ = some (.int .i64 b) := (zah BK5.out 1).trans rfl
      have z2 : w5.cell? ⟨g10, 2, none⟩ = some (.bool c) := (zah BK5.out 2).trans rfl
      have z3 : w5.cell? ⟨g10, 3, none⟩ = some (.int .i64 d) := (zah BK5.out 3).trans rfl
      have z4 : w5.cell? ⟨g10, 4, none⟩ = some (.int .i64 f) := (zah BK5.out 4).trans rfl
      have LM : zaa (ts.length ≤ 201) := ⟨by have h1 := HT.out.2; have h2 := (sp_le 38 pc).1; have h3 := HMN.out; have := HY.out; have := hpl.out; have := H2.out; omega⟩
      have S3 : zaa (wrap64 (y + 1) = ((j + 1 : Nat) : Int)) := ⟨by have := HY.out; have h2 := (sp_le 38 pc).1; have h3 := HMN.out; have := hpl.out; have := H2.out; unfold wrap64; omega⟩
      go_upto_region 15 with (first | ((with_reducible refine gate_builtin (b := .append) (xs := #[.tmp 36, .tmp 38]) rfl ?_); at_builtin; refine Kd.R_append dT (w0 := wB) wB.heap.size rfl (.tmp 36) (.tmp 38) 103 106 (.agg #[.int .u8 0, .int .i64 0, .bool false, .int .i64 0, .int .i64 0]) 40 rfl Tryz.underlying103 infoT rfl yq41 yq10 (u7) ts (a, b, c, d, f) [.int .u8 a, .int .i64 b, .bool c, .int .i64 d, .int .i64 f] (fun _ => True) (fun _ => False) rfl rfl ?aP (fun _ hk => hk.elim) ?aF ?aO ?aB ?aS ?aL ?_; (case aP => exact dT_M _ _ _ (a, b, c, d, f)); (case aB => exact HC5.out); (case aF => exact (fun _ _ => trivial)); (case aO => exact HO5.out); (case aS => exact (zav HC5.out)); (case aL => have := LM.out; omega); intro v_ w_ ho hb hg hat; have HO := zaa.mk ho; have HC := zaa.mk hb; clear ho hb hg hat) | fail)
      clear z0 z1 z2 z3 z4
      go_wp2
      go_roundw
      case rel => exact ⟨_, j + 1, ts ++ [(a, b, c, d, f)], rfl, ⟨S3.out, yq23 HY.out⟩, HTN, HO, HC⟩
      case measure => simp only [intOf]; rw [S3.out]; have := HY.out; omega
    have hje : j = m := by have := HY.out; omega
    have d2 : decide (y < (m : Int)) = false := decide_eq_false (yq23 HY.out)
    have hrow : zaa (rowI pc = some ts) := ⟨by have h := HT.out.1; rw [hje, ← HMN.out, List.take_of_length_le (Nat.le_refl _)] at h; exact h⟩
    clear hje
    have HMX : zaa (mapO rowI ((sp 124 l).take (i + 1)) = some (rows ++ [ts]) ∧ (rows ++ [ts]).length = i + 1) := ⟨by rw [HPC.out]; exact mapO_snoc HM.out.1 hrow.out, by rw [List.length_append, HM.out.2]; rfl⟩
    have HRr := zaa.mk (Kd.R_below HRA.out HC.out)
    have HBr := zaa.mk (zam HBB.out HC.out)
    have HOl := zaa.mk (Kd.R_lower (Kd.R_mono (ok' := fun k => wB.heap.size ≤ k) (Kd.R_bound HO.out) (fun k hk => hk.2.1)) HBB.out.size)
    have HNE : zaa (∀ k, wB.heap.size ≤ k → True ∧ some k ≠ (u4 : Value).ownBlock) := ⟨fun k hk => ⟨trivial, fun he => by have := Kd.R_lt HRA.out k he.symm; omega⟩⟩
    obtain ⟨A7, c7, e7, _, _⟩ := Kd.R_reads HO.out
    subst e7
    have LM : zaa (rows.length ≤ 201) := ⟨by have h1 := HM.out.2; have h2 := (sp_le 124 l).1; have h3 := HN.out; have := HX.out; have := H2.out; omega⟩
    have S3 : zaa (wrap64 (x + 1) = ((i + 1 : Nat) : Int)) := ⟨by have := HX.out; have h2 := (sp_le 124 l).1; have h3 := HN.out; have := H2.out; unfold wrap64; omega⟩
    go_upto_region 17 with (first | ((with_reducible refine gate_builtin (b := .append) (xs := #[.tmp 41, .tmp 43]) rfl ?_); at_builtin; refine Kd.R_append dTs (w0 := wA) wA.heap.size rfl (.tmp 41) (.tmp 43) 91 103 (.slice none 0 0) 24 rfl Tryz.underlying91 infoTs rfl yq41 yq10 (u4) rows ts [.slice A7 ts.length c7] (fun _ => True) (fun k => wB.heap.size ≤ k) rfl rfl ?aP HNE.out ?aF ?aO ?aB ?aS ?aL ?_; (case aP => exact ⟨_, rfl, HOl.out⟩); (case aB => exact HBr.out); (case aF => exact (fun _ _ => trivial)); (case aO => exact HRr.out); (case aS => exact (zav HBr.out)); (case aL => have := LM.out; omega); intro v_ w_ ho hb hg hat; have HRn := zaa.mk ho; have HBn := zaa.mk hb; clear ho hb hg hat) | fail)
    go_wp2
    go_roundw
    case rel => exact ⟨_, i + 1, rows ++ [ts], rfl, ⟨S3.out, yq23 HX.out⟩, HMX, HRn, HBn⟩
    case measure => simp only [intOf]; rw [S3.out]; have := HX.out; omega
  have hie : i = n := by have := HX.out; omega
  have d2 : decide (x < (n : Int)) = false := decide_eq_false (yq23 HX.out)
  have hye : whenI l = some rows := HW.out.trans (by have h := HM.out.1; rw [hie, ← HN.out, List.take_of_length_le (Nat.le_refl _)] at h; exact h)
  clear hie
  have HRe := zaa.mk (Kd.R_lower HR.out HBA.out.size)
  have HBe := zaa.mk (zam HBA.out HB.out)
  go_wp2
  go_ret2
  exact WhenOut.yes hye HRe.out HBe.out
end Go.Proofs.YtfafjbolmeimmaaGreatDoor.P
