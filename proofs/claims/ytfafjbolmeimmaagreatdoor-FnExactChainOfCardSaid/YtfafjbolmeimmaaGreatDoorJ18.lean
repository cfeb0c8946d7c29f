/- Written by a program of this session: plain Lean functions for Go functions, and for each the proof that the call comes to what the function says. -/
import Derived.Test.YtfafjbolmeimmaaGreatDoorAb
import Derived.Test.YtfafjbolmeimmaaGreatDoorF4
import Derived.Test.YtfafjbolmeimmaaGreatDoorF6
namespace Go.Proofs.YtfafjbolmeimmaaGreatDoor.P
open Go.RowKit Go.Proofs.YtfafjbolmeimmaaGreatDoorW.PrintWords Go.Proofs.YtfafjbolmeimmaaGreatDoorW.PrintLast Go.Proofs.YtfafjbolmeimmaaGreatDoorW.PrintMore
attribute [local go_sem] zbm zbn max_two min_two za9 za8 zbk zbj
set_option linter.unusedVariables false
set_option linter.unusedSimpArgs false
def impl_read.l0 : Nat → ByteArray → List (S89) → Int → Option ((List (S89)))
 | 0, _, _, _ => none
 | k + 1, x0, x3, x4 => if x4 < (x0.size : Int) then (if 0 ≤ x4 then (if x4 ≤ (x0.size : Int) then ((utf8_DecodeRuneInString.f (x0.extract (x4 : Int).toNat x0.size)).bind fun bt243 => (if bt243.1 = 65533 then (if x3.length < 4398046511104 then (impl_read.l0 k x0 (x3 ++ [(⟨wrap64 (bt243.1), x4, wrap64 (x4 + bt243.2), (bt243.2 == 1)⟩ : S89)]) (wrap64 (x4 + bt243.2))) else (none)) else (if x3.length < 4398046511104 then (impl_read.l0 k x0 (x3 ++ [(⟨wrap64 (bt243.1), x4, wrap64 (x4 + bt243.2), false⟩ : S89)]) (wrap64 (x4 + bt243.2))) else (none)))) else (none)) else (none)) else (some x3)
def impl_read.f (k : Nat) (a0 : ByteArray) : Option ((List (S89))) := impl_read.l0 k a0 ([] : List (S89)) 0
set_option maxHeartbeats 8000000 in
set_option maxRecDepth 100000 in
theorem impl_read.calls (k : Nat) (a0 : ByteArray) (r : List (S89)) (w : World) (hG : GT w) (h : impl_read.f k a0 = some r) :
  Calls Tryz.prog 76 #[.string a0] w fun e w' => ∃ v0_ : Value, e = .returned (v0_) ∧ Kd.R k89 89 w' w.heap.size (fun _ => True) v0_ r ∧ Below w.heap.size w w' := by
 have hu89 := Tryz.underlying89
 have HG := zaa.mk hG; clear hG
 have HB := zaa.mk (Below.refl w.heap.size w)
 have H : (impl_read.l0 k a0 ([] : List (S89)) 0) = some r := h
 clear h; have H' := zaa.mk H; clear H
 go_enter Tryz.func76, Tryz.ntmps76
 go_wp2
 go_loopg [3, 4] k (fun kq v3 v4 w' => ∃ (x3_1 : List (S89)) (x4_1 : Int), v4 = .int .i64 x4_1 ∧ zaa (impl_read.l0 kq a0 x3_1 x4_1 = some r) ∧ zaa (kq ≤ k) ∧ zaa (Kd.R k89 89 w' w.heap.size (fun _ => True) v3 x3_1) ∧ zaa (Below w.heap.size w w'))
 case atStart => exact ⟨(([] : List (S89))), (0), yq3, H', ⟨Nat.le_refl _⟩, ⟨by first | exact Kd.R_nil _ _ _ _ _ | exact Kd.N_nil _ _ _ _ _ | exact Kd.V_nil _ _ _ _ _ | exact Kd.Q_nil _ _ _ _ _ | exact Kd.S_nil _ _ _ _ _⟩, ⟨yq0 HB.out⟩⟩
 case round =>
  clear H'
  obtain ⟨x3_1, x4_1, rfl, HA, HK1, HO_3, HB⟩ := hrel
  cases gk with
  | zero => exact absurd HA.out (by simp [impl_read.l0])
  | succ k1 =>
   have H := HA.out; clear HA
   simp only [impl_read.l0] at H
   by_cases c2 : x4_1 < (a0.size : Int)
   ·rw [if_pos c2] at H
    have c2b0 : decide (x4_1 < (a0.size : Int)) = true := decide_eq_true c2
    clear c2
    by_cases c3 : 0 ≤ x4_1
    ·rw [if_pos c3] at H
     have c3b0 := eq_true c3
     have c3b1 : decide (0 ≤ x4_1) = true := decide_eq_true c3
     clear c3
     by_cases c4 : x4_1 ≤ (a0.size : Int)
     ·rw [if_pos c4] at H
      have c4b0 := eq_true c4
      have c4b1 : decide (x4_1 ≤ (a0.size : Int)) = true := decide_eq_true c4
      clear c4; replace H := Option.bind_eq_some_iff.mp H
      obtain ⟨⟨t243, t244⟩, A50, H⟩ := H
      replace H : (if t243 = 65533 then (if x3_1.length < 4398046511104 then (impl_read.l0 k1 a0 (x3_1 ++ [(⟨wrap64 (t243), x4_1, wrap64 (x4_1 + t244), (t244 == 1)⟩ : S89)]) (wrap64 (x4_1 + t244))) else (none)) else (if x3_1.length < 4398046511104 then (impl_read.l0 k1 a0 (x3_1 ++ [(⟨wrap64 (t243), x4_1, wrap64 (x4_1 + t244), false⟩ : S89)]) (wrap64 (x4_1 + t244))) else (none))) = some r := H
      have A5 := zaa.mk A50; clear A50
      by_cases c6 : t243 = 65533
      ·rw [if_pos c6] at H
       have c6b0 : (t243 == 65533) = true := beq_iff_eq.mpr c6
       have c6b1 : (t243 != 65533) = false := bne_eq_false_iff_eq.mpr c6
       clear c6
       by_cases c7 : x3_1.length < 4398046511104
       ·rw [if_pos c7] at H; have LMc7 := zaa.mk c7; clear c7
        obtain ⟨y245, hy245⟩ : ∃ y_ : List (S89), y_ = (x3_1 ++ [(⟨wrap64 (t243), x4_1, wrap64 (x4_1 + t244), (t244 == 1)⟩ : S89)]) := ⟨_, rfl⟩
        replace H : (impl_read.l0 k1 a0 y245 (wrap64 (x4_1 + t244))) = some r := by first | (rw [hy245]; with_reducible exact H) | (have H2_ := (Option.bind_some _ _).symm.trans H; rw [hy245]; with_reducible exact H2_) | (have H2_ := (Option.bind_some _ _).symm.trans H; with_reducible exact H2_) | with_reducible exact H | (rw [hy245]; exact H) | exact H
        have Ny245 := zaa.mk hy245; clear hy245; have H' := zaa.mk H; clear H
        go_wp2_with (first | ((with_reducible refine zaD (f := 102) rfl ?_); refine zbr (some 16) rfl rfl Tryz.func102 yq10 rfl #[.string (a0.extract (x4_1 : Int).toNat a0.size)] rfl yq2 ?_; (with_reducible refine (utf8_DecodeRuneInString.calls (a0.extract (x4_1 : Int).toNat a0.size) t243 t244 _ ?side1 A5.out).mono ?_); (case side1 => exact GT_below HG.out (yq0 HB.out)); rintro e w8 ⟨rfl, hb⟩; refine ⟨_, rfl, ?_⟩; have n0_ := zaa.mk (Kd.za3 (yq7 HO_3.out) hb); have n1_ := zaa.mk (zam (yq0 HB.out) hb); clear HO_3 HB; have HO_3 := n0_; have HB := n1_; clear n0_ n1_; (try clear hb); (try clear hb2); (try clear hk); (try clear hi)) | ((with_reducible refine zbs (b := .append) (xs := #[.tmp 25, .tmp 34]) rfl ?_); at_builtin; refine Kd.R_append k89 (w0 := w) w.heap.size rfl (.tmp 25) (.tmp 34) 86 89 (.agg #[(.int .i64 0), (.int .i64 0), (.int .i64 0), (.bool false)]) 32 rfl Tryz.underlying86 info89 rfl yq38 yq9 u3 x3_1 (⟨wrap64 (t243), x4_1, wrap64 (x4_1 + t244), (t244 == 1)⟩ : S89) [.int .i64 (wrap64 (t243)), .int .i64 x4_1, .int .i64 (wrap64 (x4_1 + t244)), .bool (t244 == 1)] (fun _ => True) (fun _ => False) rfl rfl ?aP (fun _ hk => hk.elim) ?aF ?aO ?aB ?aS ?aL ?_; (case aP => exact k89_mkM _ _ _ (⟨wrap64 (t243), x4_1, wrap64 (x4_1 + t244), (t244 == 1)⟩ : S89)); (case aB => exact (yq0 HB.out)); (case aF => exact (fun _ _ => trivial)); (case aO => exact (yq7 HO_3.out)); (case aS => exact (zaq (yq0 HB.out))); (case aL => have := LMc7.out; omega); intro v246 w9 ho hb hg hat; rw [← Ny245.out] at ho; have n0_ := zaa.mk (hb); have n1_ := zaa.mk (ho); clear HB HO_3; have HB := n0_; have HO247 := n1_; clear n0_ n1_ ho hb hg hat))
        go_roundg k1
        case measure => have := HK1.out; omega
        case rel => exact ⟨(y245), (wrap64 (x4_1 + t244)), yq3, H', ⟨yq15 HK1.out⟩, ⟨yq7 HO247.out⟩, ⟨yq0 HB.out⟩⟩
       rw [if_neg c7] at H
       exact absurd H yq21
      rw [if_neg c6] at H
      have c6b0 : (t243 == 65533) = false := beq_eq_false_iff_ne.mpr c6
      have c6b1 : (t243 != 65533) = true := bne_iff_ne.mpr c6
      by_cases c10 : x3_1.length < 4398046511104
      ·rw [if_pos c10] at H; have LMc10 := zaa.mk c10; clear c10
       obtain ⟨y248, hy248⟩ : ∃ y_ : List (S89), y_ = (x3_1 ++ [(⟨wrap64 (t243), x4_1, wrap64 (x4_1 + t244), false⟩ : S89)]) := ⟨_, rfl⟩
       replace H : (impl_read.l0 k1 a0 y248 (wrap64 (x4_1 + t244))) = some r := by first | (rw [hy248]; with_reducible exact H) | (have H2_ := (Option.bind_some _ _).symm.trans H; rw [hy248]; with_reducible exact H2_) | (have H2_ := (Option.bind_some _ _).symm.trans H; with_reducible exact H2_) | with_reducible exact H | (rw [hy248]; exact H) | exact H
       have Ny248 := zaa.mk hy248; clear hy248; have H' := zaa.mk H; clear H
       go_wp2_with (first | ((with_reducible refine zaD (f := 102) rfl ?_); refine zbr (some 16) rfl rfl Tryz.func102 yq10 rfl #[.string (a0.extract (x4_1 : Int).toNat a0.size)] rfl yq2 ?_; (with_reducible refine (utf8_DecodeRuneInString.calls (a0.extract (x4_1 : Int).toNat a0.size) t243 t244 _ ?side1 A5.out).mono ?_); (case side1 => exact GT_below HG.out (yq0 HB.out)); rintro e w11 ⟨rfl, hb⟩; refine ⟨_, rfl, ?_⟩; have n0_ := zaa.mk (Kd.za3 (yq7 HO_3.out) hb); have n1_ := zaa.mk (zam (yq0 HB.out) hb); clear HO_3 HB; have HO_3 := n0_; have HB := n1_; clear n0_ n1_; (try clear hb); (try clear hb2); (try clear hk); (try clear hi)) | ((with_reducible refine zbs (b := .append) (xs := #[.tmp 25, .tmp 34]) rfl ?_); at_builtin; refine Kd.R_append k89 (w0 := w) w.heap.size rfl (.tmp 25) (.tmp 34) 86 89 (.agg #[(.int .i64 0), (.int .i64 0), (.int .i64 0), (.bool false)]) 32 rfl Tryz.underlying86 info89 rfl yq38 yq9 u3 x3_1 (⟨wrap64 (t243), x4_1, wrap64 (x4_1 + t244), false⟩ : S89) [.int .i64 (wrap64 (t243)), .int .i64 x4_1, .int .i64 (wrap64 (x4_1 + t244)), .bool false] (fun _ => True) (fun _ => False) rfl rfl ?aP (fun _ hk => hk.elim) ?aF ?aO ?aB ?aS ?aL ?_; (case aP => exact k89_mkM _ _ _ (⟨wrap64 (t243), x4_1, wrap64 (x4_1 + t244), false⟩ : S89)); (case aB => exact (yq0 HB.out)); (case aF => exact (fun _ _ => trivial)); (case aO => exact (yq7 HO_3.out)); (case aS => exact (zaq (yq0 HB.out))); (case aL => have := LMc10.out; omega); intro v249 w12 ho hb hg hat; rw [← Ny248.out] at ho; have n0_ := zaa.mk (hb); have n1_ := zaa.mk (ho); clear HB HO_3; have HB := n0_; have HO250 := n1_; clear n0_ n1_ ho hb hg hat))
       go_roundg k1
       case measure => have := HK1.out; omega
       case rel => exact ⟨(y248), (wrap64 (x4_1 + t244)), yq3, H', ⟨yq15 HK1.out⟩, ⟨yq7 HO250.out⟩, ⟨yq0 HB.out⟩⟩
      rw [if_neg c10] at H
      exact absurd H yq21
     rw [if_neg c4] at H
     exact absurd H yq21
    rw [if_neg c3] at H
    exact absurd H yq21
   rw [if_neg c2] at H
   have c2b0 : decide (x4_1 < (a0.size : Int)) = false := decide_eq_false c2
   clear c2; obtain rfl := Option.some.inj H
   go_wp2
   go_ret
   exact ⟨_, yq4, yq7 HO_3.out, yq0 HB.out⟩
def impl_points.l0 : Nat → List Int → List (S89) → Int → Int → Option (List Int)
 | 0, _, _, _, _ => none
 | k + 1, x3, x7, x8, x9 => if x9 < x8 then (if 0 ≤ x9 then (if x9 < (x7.length : Int) then (if x3.length < 17592186044416 then (impl_points.l0 k (x3 ++ [(rd_T89 x7 x9).f0]) x7 x8 (wrap64 (x9 + 1))) else (none)) else (none)) else (none)) else (some x3)
def impl_points.f (k : Nat) (a0 : ByteArray) : Option (List Int) := (impl_read.f k a0).bind fun t251 => (impl_points.l0 k ([] : List Int) t251 (t251.length : Int) 0)
set_option maxHeartbeats 8000000 in
set_option maxRecDepth 100000 in
theorem impl_points.calls (k : Nat) (a0 : ByteArray) (r : List Int) (w : World) (hG : GT w) (h : impl_points.f k a0 = some r) :
  Calls Tryz.prog 42 #[.string a0] w fun e w' => ∃ v0_ : Value, e = .returned (v0_) ∧ Kd.R (Kd.int .i64) 2 w' w.heap.size (fun _ => True) v0_ r ∧ Below w.heap.size w w' := by
 have hu89 := Tryz.underlying89
 have HG := zaa.mk hG; clear hG
 have HB := zaa.mk (Below.refl w.heap.size w)
 have H : ((impl_read.f k a0).bind fun t251 => (impl_points.l0 k ([] : List Int) t251 (t251.length : Int) 0)) = some r := h
 clear h; replace H := Option.bind_eq_some_iff.mp H
 obtain ⟨t251, A20, H⟩ := H
 replace H : (impl_points.l0 k ([] : List Int) t251 (t251.length : Int) 0) = some r := H
 have A2 := zaa.mk A20; clear A20; have H' := zaa.mk H; clear H
 go_enter Tryz.func42, Tryz.ntmps42
 go_wp2_with (first | ((with_reducible refine zaD (f := 76) rfl ?_); refine zbr (some 7) rfl rfl Tryz.func76 yq10 rfl #[.string a0] rfl yq2 ?_; (with_reducible refine (impl_read.calls k a0 t251 _ ?side1 A2.out).mono ?_); (case side1 => exact GT_below HG.out (yq0 HB.out)); rintro e w3 ⟨v252, rfl, ho0, hb⟩; refine ⟨_, rfl, ?_⟩; have n0_ := zaa.mk (Kd.R_lower ho0 (zaq (yq0 HB.out))); have n1_ := zaa.mk (zam (yq0 HB.out) hb); clear HB; have HO253 := n0_; have HB := n1_; clear n0_ n1_; (try clear hb); (try clear hb2); (try clear hk); (try clear hi); (try clear ho0); obtain ⟨Ao4, co4, eo4⟩ := Kd.R_slice HO253.out; subst eo4))
 go_loopg [3, 9] k (fun kq v3 v9 w' => ∃ (x3_1 : List Int) (x9_1 : Int), v9 = .int .i64 x9_1 ∧ zaa (impl_points.l0 kq x3_1 t251 (t251.length : Int) x9_1 = some r) ∧ zaa (kq ≤ k) ∧ zaa (Kd.R (Kd.int .i64) 2 w' w.heap.size (fun _ => True) v3 x3_1) ∧ zaa (Kd.R k89 89 w' w.heap.size (fun _ => True) (.slice Ao4 t251.length co4) t251) ∧ zaa (Below w.heap.size w w'))
 case atStart => exact ⟨(([] : List Int)), (0), yq3, H', ⟨Nat.le_refl _⟩, ⟨by first | exact Kd.R_nil _ _ _ _ _ | exact Kd.N_nil _ _ _ _ _ | exact Kd.V_nil _ _ _ _ _ | exact Kd.Q_nil _ _ _ _ _ | exact Kd.S_nil _ _ _ _ _⟩, ⟨yq7 HO253.out⟩, ⟨yq0 HB.out⟩⟩
 case round =>
  clear H'
  obtain ⟨x3_1, x9_1, rfl, HA, HK1, HO_3, HO_7, HB⟩ := hrel
  cases gk with
  | zero => exact absurd HA.out (by simp [impl_points.l0])
  | succ k1 =>
   have H := HA.out; clear HA
   simp only [impl_points.l0] at H
   by_cases c5 : x9_1 < (t251.length : Int)
   ·rw [if_pos c5] at H
    have c5b0 : decide (x9_1 < (t251.length : Int)) = true := decide_eq_true c5
    clear c5
    by_cases c6 : 0 ≤ x9_1
    ·rw [if_pos c6] at H
     have c6b0 : decide (0 ≤ x9_1) = true := decide_eq_true c6
     clear c6
     by_cases c7 : x9_1 < (t251.length : Int)
     ·rw [if_pos c7] at H
      have c7b0 : decide (x9_1 < (t251.length : Int)) = true := decide_eq_true c7
      clear c7
      by_cases c8 : x3_1.length < 17592186044416
      ·rw [if_pos c8] at H; have LMc8 := zaa.mk c8; clear c8
       obtain ⟨y256, hy256⟩ : ∃ y_ : List Int, y_ = (x3_1 ++ [(rd_T89 t251 x9_1).f0]) := ⟨_, rfl⟩
       replace H : (impl_points.l0 k1 y256 t251 (t251.length : Int) (wrap64 (x9_1 + 1))) = some r := by first | (rw [hy256]; with_reducible exact H) | (have H2_ := (Option.bind_some _ _).symm.trans H; rw [hy256]; with_reducible exact H2_) | (have H2_ := (Option.bind_some _ _).symm.trans H; with_reducible exact H2_) | with_reducible exact H | (rw [hy256]; exact H) | exact H
       have Ny256 := zaa.mk hy256; clear hy256; have H' := zaa.mk H; clear H
       have p254 : 0 ≤ (x9_1 : Int) := of_decide_eq_true yq1
       have q254 : x9_1 < (t251.length : Int) := of_decide_eq_true yq1
       obtain ⟨ad254, e254, hx254_0, hx254_1, hx254_2, hx254_3⟩ := at_T89 (Kd.zbl HO_7.out).2.2 x9_1 p254 q254
       cases e254
       replace p254 := eq_true p254
       replace q254 := eq_true q254
       go_wp2_with (first | ((with_reducible refine zaU (N := 5) rfl ?_); refine zba ?hg (N := 5) ?hd (cs := #[.int .i64 0, .int .i64 0, .int .i64 0, .bool false]) (t := 89) ?hr ?_; (case hd => rfl); (case hg => rfl); (case hr => first | (go_simp; done) | (go_simp; rfl)); intro gb255 hg w9 hbox hb; have n0_ := zaa.mk (Kd.za3 (yq7 HO_3.out) hb); have n1_ := zaa.mk (Kd.za3 (Kd.R_elderB (yq7 HO_7.out) gb255 (Nat.le_of_eq hg.symm)) hb); have n2_ := zaa.mk (zam (yq0 HB.out) hb); have n3_ := zaa.mk (hbox); have n4_ := zaa.mk ((by rw [hg]; exact (zaq (yq0 HB.out)) : w.heap.size ≤ gb255)); have n5_ := zaa.mk ((by rw [hg]; exact (zaq (yq0 HB.out)) : w.heap.size ≤ gb255)); clear HO_3 HO_7 HB; have HO_3 := n0_; have HO_7 := n1_; have HB := n2_; have BK255 := n3_; have GW255 := n4_; have GE255 := n5_; clear n0_ n1_ n2_ n3_ n4_ n5_ hb hbox hg; have hcz10_0 : w9.cell? ⟨gb255, 0, none⟩ = some (.int .i64 0) := (zal BK255.out 0).trans rfl; have hcz10_1 : w9.cell? ⟨gb255, 1, none⟩ = some (.int .i64 0) := (zal BK255.out 1).trans rfl; have hcz10_2 : w9.cell? ⟨gb255, 2, none⟩ = some (.int .i64 0) := (zal BK255.out 2).trans rfl; have hcz10_3 : w9.cell? ⟨gb255, 3, none⟩ = some (.bool false) := (zal BK255.out 3).trans rfl; have hfz10_0 := zah BK255.out 0; have hfz10_1 := zah BK255.out 1; have hfz10_2 := zah BK255.out 2; have hfz10_3 := zah BK255.out 3) | ((with_reducible refine zbs (b := .append) (xs := #[.tmp 13, .tmp 16]) rfl ?_); at_builtin; refine Kd.R_append (Kd.int .i64) (w0 := w) w.heap.size rfl (.tmp 13) (.tmp 16) 22 2 (.int .i64 0) 8 rfl Tryz.underlying22 info2 rfl yq38 yq9 u3 x3_1 ((rd_T89 t251 x9_1).f0) [.int .i64 ((rd_T89 t251 x9_1).f0)] (fun _ => True) (fun _ => False) rfl (by first | (go_simp; done) | (go_simp; rfl)) ?aP (fun _ hk => hk.elim) ?aF ?aO ?aB ?aS ?aL ?_; (case aP => exact rfl); (case aB => exact (yq17 HB.out GE255.out)); (case aF => exact (fun _ _ => trivial)); (case aO => exact (by (with_reducible repeat (first | apply Kd.R_alloc | apply Kd.R_drewN | apply Kd.R_drew)); exact Kd.R_mono (Kd.R_far (p := ⟨gb255, 3, none⟩) (Kd.R_far (p := ⟨gb255, 2, none⟩) (Kd.R_far (p := ⟨gb255, 1, none⟩) (Kd.R_far (p := ⟨gb255, 0, none⟩) (Kd.R_types HO_3.out BK255.out yq38) (fun _ hk => hk.2) (.int .i64 ((rd_T89 t251 x9_1).f0))) (fun _ hk => hk.2) (.int .i64 ((rd_T89 t251 x9_1).f1))) (fun _ hk => hk.2) (.int .i64 ((rd_T89 t251 x9_1).f2))) (fun _ hk => hk.2) (.bool ((rd_T89 t251 x9_1).f3))) (fun _ hk => trivial))); (case aS => exact (zaq (yq17 HB.out GE255.out))); (case aL => have := LMc8.out; omega); intro v257 w11 ho hb hg hat; rw [← Ny256.out] at ho; have n0_ := zaa.mk (Kd.R_over' (by (with_reducible repeat (first | apply Kd.R_alloc | apply Kd.R_drewN | apply Kd.R_drew)); exact (Kd.R_mono (Kd.R_far (p := ⟨gb255, 3, none⟩) (Kd.R_far (p := ⟨gb255, 2, none⟩) (Kd.R_far (p := ⟨gb255, 1, none⟩) (Kd.R_far (p := ⟨gb255, 0, none⟩) (Kd.R_mono HO_7.out (fun k_ hk => (⟨hk, hk.2⟩ : _ ∧ k_ ≠ gb255))) (fun _ hk => hk.2) (.int .i64 ((rd_T89 t251 x9_1).f0))) (fun _ hk => hk.2) (.int .i64 ((rd_T89 t251 x9_1).f1))) (fun _ hk => hk.2) (.int .i64 ((rd_T89 t251 x9_1).f2))) (fun _ hk => hk.2) (.bool ((rd_T89 t251 x9_1).f3))) (fun _ h_ => h_.1))) (Kd.R_typed (by (with_reducible repeat (first | apply Kd.R_alloc | apply Kd.R_drewN | apply Kd.R_drew)); exact (Kd.R_mono (Kd.R_far (p := ⟨gb255, 3, none⟩) (Kd.R_far (p := ⟨gb255, 2, none⟩) (Kd.R_far (p := ⟨gb255, 1, none⟩) (Kd.R_far (p := ⟨gb255, 0, none⟩) (Kd.R_types HO_3.out BK255.out yq38) (fun _ hk => hk.2) (.int .i64 ((rd_T89 t251 x9_1).f0))) (fun _ hk => hk.2) (.int .i64 ((rd_T89 t251 x9_1).f1))) (fun _ hk => hk.2) (.int .i64 ((rd_T89 t251 x9_1).f2))) (fun _ hk => hk.2) (.bool ((rd_T89 t251 x9_1).f3))) (fun _ h_ => h_.1)))) yq38 hg); have n1_ := zaa.mk (blk_grown (g := gb255) (o := .cells #[.int .i64 ((rd_T89 t251 x9_1).f0), .int .i64 ((rd_T89 t251 x9_1).f1), .int .i64 ((rd_T89 t251 x9_1).f2), .bool ((rd_T89 t251 x9_1).f3)] 89 (0, 0)) (by (with_reducible repeat (first | refine blk_drewN ?_ _ | refine zar ?_ | refine blk_alloc ?_ _)); refine zbb (cs := #[.int .i64 ((rd_T89 t251 x9_1).f0), .int .i64 ((rd_T89 t251 x9_1).f1), .int .i64 ((rd_T89 t251 x9_1).f2), .bool false]) ?_ 3 _ rfl; (with_reducible repeat (first | refine blk_drewN ?_ _ | refine zar ?_ | refine blk_alloc ?_ _)); refine zbb (cs := #[.int .i64 ((rd_T89 t251 x9_1).f0), .int .i64 ((rd_T89 t251 x9_1).f1), .int .i64 0, .bool false]) ?_ 2 _ rfl; (with_reducible repeat (first | refine blk_drewN ?_ _ | refine zar ?_ | refine blk_alloc ?_ _)); refine zbb (cs := #[.int .i64 ((rd_T89 t251 x9_1).f0), .int .i64 0, .int .i64 0, .bool false]) ?_ 1 _ rfl; (with_reducible repeat (first | refine blk_drewN ?_ _ | refine zar ?_ | refine blk_alloc ?_ _)); refine zbb (cs := #[.int .i64 0, .int .i64 0, .int .i64 0, .bool false]) ?_ 0 _ rfl; (with_reducible repeat (first | refine blk_drewN ?_ _ | refine zar ?_ | refine blk_alloc ?_ _)); exact BK255.out) hg (Kd.R_ne HO_3.out BK255.out yq38)); have n2_ := zaa.mk (hb); have n3_ := zaa.mk (ho); clear HO_7 BK255 HB HO_3; have HO_7 := n0_; have BK255 := n1_; have HB := n2_; have HO258 := n3_; clear n0_ n1_ n2_ n3_ ho hb hg hat))
       go_roundg k1
       case measure => have := HK1.out; omega
       case rel => exact ⟨(y256), (wrap64 (x9_1 + 1)), yq3, H', ⟨yq15 HK1.out⟩, ⟨yq7 HO258.out⟩, ⟨by (with_reducible repeat (first | apply Kd.R_alloc | apply Kd.R_drewN | apply Kd.R_drew)); exact Kd.R_mono HO_7.out (fun _ hk => trivial)⟩, ⟨yq17 HB.out GE255.out⟩⟩
      rw [if_neg c8] at H
      exact absurd H yq21
     rw [if_neg c7] at H
     exact absurd H yq21
    rw [if_neg c6] at H
    exact absurd H yq21
   rw [if_neg c5] at H
   have c5b0 : decide (x9_1 < (t251.length : Int)) = false := decide_eq_false c5
   clear c5; obtain rfl := Option.some.inj H
   go_wp2
   go_ret
   exact ⟨_, yq4, yq7 HO_3.out, yq0 HB.out⟩
end Go.Proofs.YtfafjbolmeimmaaGreatDoor.P
