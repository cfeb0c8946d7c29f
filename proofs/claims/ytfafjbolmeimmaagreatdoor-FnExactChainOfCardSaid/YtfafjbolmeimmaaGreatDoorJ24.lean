/- Written by a program of this session: plain Lean functions for Go functions, and for each the proof that the call comes to what the function says. -/
import Derived.Test.YtfafjbolmeimmaaGreatDoorAb
import Derived.Test.YtfafjbolmeimmaaGreatDoorF7
import Derived.Test.YtfafjbolmeimmaaGreatDoorF4
namespace Go.Proofs.YtfafjbolmeimmaaGreatDoor.P
open Go.RowKit Go.Proofs.YtfafjbolmeimmaaGreatDoorW.PrintWords Go.Proofs.YtfafjbolmeimmaaGreatDoorW.PrintLast Go.Proofs.YtfafjbolmeimmaaGreatDoorW.PrintMore
attribute [local go_sem] zbm zbn max_two min_two za9 za8 zbk zbj
set_option linter.unusedVariables false
set_option linter.unusedSimpArgs false
def za2.l0 : Nat → List ByteArray → List ByteArray → Int → Option (List ByteArray)
 | 0, _, _, _ => none
 | k + 1, x0, x3, x4 => if x4 < (x0.length : Int) then (if 0 ≤ x4 then (if x4 < (x3.length : Int) then (za2.l0 k x0 (x3.set (x4 : Int).toNat (rdOf ByteArray.empty x0 x4)) (wrap64 (x4 + 1))) else (none)) else (none)) else (some x3)
def za2.f (k : Nat) (l0 : List ByteArray) : Option (List ByteArray) := if 0 ≤ (l0.length : Int) then (if ((l0.length : Int) : Int).toNat ≤ 17592186044416 then (za2.l0 k l0 (List.replicate ((l0.length : Int) : Int).toNat (⟨#[]⟩ : ByteArray)) 0) else (none)) else (none)
set_option maxHeartbeats 8000000 in
set_option maxRecDepth 100000 in
theorem za2.calls (k : Nat) (A0 : Option Addr) (c0 : Nat) (l0 : List ByteArray) (r : List ByteArray) (w : World) (hr0 : Kd.C Kd.string w A0 l0.length l0) (hc0 : l0.length ≤ c0) (h : za2.f k l0 = some r) :
  Calls Tryz.prog 20 #[.slice A0 l0.length c0] w fun e w' => ∃ v0_ : Value, e = .returned (v0_) ∧ Kd.R Kd.string 9 w' w.heap.size (fun _ => True) v0_ r ∧ Below w.heap.size w w' := by
 have HR0 := zaa.mk hr0; have HC0 := zaa.mk hc0; clear hr0 hc0
 have HB := zaa.mk (Below.refl w.heap.size w)
 have H : (if 0 ≤ (l0.length : Int) then (if ((l0.length : Int) : Int).toNat ≤ 17592186044416 then (za2.l0 k l0 (List.replicate ((l0.length : Int) : Int).toNat (⟨#[]⟩ : ByteArray)) 0) else (none)) else (none)) = some r := h
 clear h
 by_cases c2 : 0 ≤ (l0.length : Int)
 ·rw [if_pos c2] at H
  have c2b0 := eq_true c2
  have c2b1 : decide (0 ≤ (l0.length : Int)) = true := decide_eq_true c2
  clear c2
  by_cases c3 : ((l0.length : Int) : Int).toNat ≤ 17592186044416
  ·rw [if_pos c3] at H
   have c3b0 := eq_true c3
   have c3b1 : decide (((l0.length : Int) : Int).toNat ≤ 17592186044416) = true := decide_eq_true c3
   clear c3
   obtain ⟨y266, hy266⟩ : ∃ y_ : List ByteArray, y_ = (List.replicate ((l0.length : Int) : Int).toNat (⟨#[]⟩ : ByteArray)) := ⟨_, rfl⟩
   replace H : (za2.l0 k l0 y266 0) = some r := by first | (rw [hy266]; with_reducible exact H) | (have H2_ := (Option.bind_some _ _).symm.trans H; rw [hy266]; with_reducible exact H2_) | (have H2_ := (Option.bind_some _ _).symm.trans H; with_reducible exact H2_) | with_reducible exact H | (rw [hy266]; exact H) | exact H
   have Ny266 := zaa.mk hy266; clear hy266; have H' := zaa.mk H; clear H
   go_enter Tryz.func20, Tryz.ntmps20
   go_wp2_with (first | ((with_reducible refine zaU (N := 7) rfl ?_); refine Kd.R_make Kd.string _ 9 rfl (N := 7) rfl 24 _ _ rfl (l0.length : Int) rfl rfl Tryz.underlying24 (.string ⟨#[]⟩) 16 info9 rfl yq38 yq9 (⟨#[]⟩ : ByteArray) (ok := fun _ => True) (okp := fun _ => True) rfl (fun _ hk => hk) trivial (of_decide_eq_true yq1) (Nat.le_trans (Nat.mul_le_mul_right _ (of_decide_eq_true yq1 : (l0.length : Int).toNat ≤ 17592186044416)) yq9) (Below.refl _ _) (Nat.le_refl _) ?_; intro v267 w4 ho5 hb hg_ hnew_; clear hg_ hnew_; (first | rw [← Ny266.out] at ho5 | (simp only [Int.reduceToNat] at ho5; rw [← Ny266.out] at ho5)); have n0_ := zaa.mk (Kd.R_lower ho5 (zaq (yq0 HB.out))); have n1_ := zaa.mk (zam (yq0 HB.out) hb); clear HB; have HO268 := n0_; have HB := n1_; clear n0_ n1_ hb ho5))
   go_loopg [4] k (fun kq v4 w' => ∃ (x3_1 : List ByteArray) (x4_1 : Int), v4 = .int .i64 x4_1 ∧ zaa (za2.l0 kq l0 x3_1 x4_1 = some r) ∧ zaa (kq ≤ k) ∧ zaa (Kd.R Kd.string 9 w' w.heap.size (fun _ => True) v267 x3_1) ∧ zaa (Below w.heap.size w w'))
   case atStart => exact ⟨(y266), (0), yq3, H', ⟨Nat.le_refl _⟩, ⟨yq7 HO268.out⟩, ⟨yq0 HB.out⟩⟩
   case round =>
    clear H'
    try clear c2b0
    try clear c2b1
    try clear c3b0
    try clear c3b1
    obtain ⟨x3_1, x4_1, rfl, HA, HK1, HO_3, HB⟩ := hrel
    cases gk with
    | zero => exact absurd HA.out (by simp [za2.l0])
    | succ k1 =>
     have H := HA.out; clear HA
     simp only [za2.l0] at H
     by_cases c6 : x4_1 < (l0.length : Int)
     ·rw [if_pos c6] at H
      have c6b0 : decide (x4_1 < (l0.length : Int)) = true := decide_eq_true c6
      clear c6
      by_cases c7 : 0 ≤ x4_1
      ·rw [if_pos c7] at H
       have c7b0 : decide (0 ≤ x4_1) = true := decide_eq_true c7
       clear c7
       by_cases c8 : x4_1 < (x3_1.length : Int)
       ·rw [if_pos c8] at H
        have c8b0 : decide (x4_1 < (x3_1.length : Int)) = true := decide_eq_true c8
        clear c8
        obtain ⟨y270, hy270⟩ : ∃ y_ : List ByteArray, y_ = (x3_1.set (x4_1 : Int).toNat (rdOf ByteArray.empty l0 x4_1)) := ⟨_, rfl⟩
        replace H : (za2.l0 k1 l0 y270 (wrap64 (x4_1 + 1))) = some r := by first | (rw [hy270]; with_reducible exact H) | (have H2_ := (Option.bind_some _ _).symm.trans H; rw [hy270]; with_reducible exact H2_) | (have H2_ := (Option.bind_some _ _).symm.trans H; with_reducible exact H2_) | with_reducible exact H | (rw [hy270]; exact H) | exact H
        have Ny270 := zaa.mk hy270; clear hy270; have H' := zaa.mk H; clear H
        have p269 : 0 ≤ (x4_1 : Int) := of_decide_eq_true yq1
        have q269 : x4_1 < (l0.length : Int) := of_decide_eq_true yq1
        obtain ⟨ad269, e269, hx269_0⟩ := Kd.at_string HR0.out x4_1 p269 q269
        cases e269
        replace hx269_0 := (HB.out.cell (World.block_lt_of_cell? w _ hx269_0)).trans hx269_0
        replace p269 := eq_true p269
        replace q269 := eq_true q269
        have p9 : 0 ≤ (x4_1 : Int) := of_decide_eq_true yq1
        have q9 : (x4_1 : Int) < ((x3_1.length : Int) : Int) := of_decide_eq_true yq1
        obtain ⟨go9, co9, eo9, gb9, gl9, cl9, HG9⟩ := Kd.R_form HO_3.out yq9
        (first | cases eo9 | (injection eo9 with ea_ en_ ec_; (first | subst ea_ | (injection ea_ with ea_; subst ea_)); subst ec_; clear en_))
        have GB9 := zaa.mk gb9; have GG9 := zaa.mk HG9; clear gb9 gl9 HG9
        obtain ⟨hx9_0, hf9_0⟩ := Kd.R_celln (⟨#[]⟩ : ByteArray) HO_3.out (x4_1 : Int) p9 q9
        replace p9 := eq_true p9
        replace q9 := eq_true q9
        have HP10 := Kd.R_putg HO_3.out (x4_1 : Int) (rdOf ByteArray.empty l0 x4_1)
        go_wp2_with (first | ((with_reducible refine gate_store (t := 9) (p := 20) rfl ?_); refine store_event (t := 9) (p := 20) (v := ?vo_w11) (w1 := (wr.setCell ⟨go9, (x4_1 : Int).toNat, none⟩ (.string (rdOf ByteArray.empty l0 x4_1)))) ?hg ?ho ?hn ?hr ?_; (case ho => rfl); (case hg => rfl); (case hn => rfl); (case hr => first | (go_simp; done) | (go_simp; rfl)); intro w11 hw; have hg : wr.grownBy w11 (some go9) := (by rw [hw]; exact HP10.2); have hp_ : Kd.R Kd.string 9 w11 w.heap.size (fun _ => True) (.slice (some ⟨go9, 0, none⟩) x3_1.length co9) y270 := (by rw [hw, Ny270.out]; exact HP10.1); clear HP10; have n0_ := zaa.mk (hp_); have n1_ := zaa.mk ((by rw [hw]; exact zai (HB.out) GB9.out : Below w.heap.size w w11)); clear HO_3 HB; have HO_3 := n0_; have HB := n1_; clear n0_ n1_ hg hw hp_))
        go_roundg k1
        case measure => have := HK1.out; omega
        case rel => exact ⟨(y270), (wrap64 (x4_1 + 1)), yq3, H', ⟨yq15 HK1.out⟩, ⟨yq7 HO_3.out⟩, ⟨yq0 HB.out⟩⟩
       rw [if_neg c8] at H
       exact absurd H yq21
      rw [if_neg c7] at H
      exact absurd H yq21
     rw [if_neg c6] at H
     have c6b0 : decide (x4_1 < (l0.length : Int)) = false := decide_eq_false c6
     clear c6; obtain rfl := Option.some.inj H
     go_wp2
     go_ret
     exact ⟨_, yq4, yq7 HO_3.out, yq0 HB.out⟩
  rw [if_neg c3] at H
  exact absurd H yq21
 rw [if_neg c2] at H
 exact absurd H yq21
def zbf.l0 : Nat → List Int → List Int → Int → Option (List Int)
 | 0, _, _, _ => none
 | k + 1, x0, x3, x4 => if x4 < (x0.length : Int) then (if 0 ≤ x4 then (if x4 < (x3.length : Int) then (zbf.l0 k x0 (x3.set (x4 : Int).toNat (rd x0 x4)) (wrap64 (x4 + 1))) else (none)) else (none)) else (some x3)
def zbf.f (k : Nat) (l0 : List Int) : Option (List Int) := if 0 ≤ (l0.length : Int) then (if ((l0.length : Int) : Int).toNat ≤ 35184372088832 then (zbf.l0 k l0 (List.replicate ((l0.length : Int) : Int).toNat 0) 0) else (none)) else (none)
set_option maxHeartbeats 8000000 in
set_option maxRecDepth 100000 in
theorem zbf.calls (k : Nat) (A0 : Option Addr) (c0 : Nat) (l0 : List Int) (r : List Int) (w : World) (hr0 : Kd.C (Kd.int .i64) w A0 l0.length l0) (hc0 : l0.length ≤ c0) (h : zbf.f k l0 = some r) :
  Calls Tryz.prog 39 #[.slice A0 l0.length c0] w fun e w' => ∃ v0_ : Value, e = .returned (v0_) ∧ Kd.R (Kd.int .i64) 2 w' w.heap.size (fun _ => True) v0_ r ∧ Below w.heap.size w w' := by
 have HR0 := zaa.mk hr0; have HC0 := zaa.mk hc0; clear hr0 hc0
 have HB := zaa.mk (Below.refl w.heap.size w)
 have H : (if 0 ≤ (l0.length : Int) then (if ((l0.length : Int) : Int).toNat ≤ 35184372088832 then (zbf.l0 k l0 (List.replicate ((l0.length : Int) : Int).toNat 0) 0) else (none)) else (none)) = some r := h
 clear h
 by_cases c2 : 0 ≤ (l0.length : Int)
 ·rw [if_pos c2] at H
  have c2b0 := eq_true c2
  have c2b1 : decide (0 ≤ (l0.length : Int)) = true := decide_eq_true c2
  clear c2
  by_cases c3 : ((l0.length : Int) : Int).toNat ≤ 35184372088832
  ·rw [if_pos c3] at H
   have c3b0 := eq_true c3
   have c3b1 : decide (((l0.length : Int) : Int).toNat ≤ 35184372088832) = true := decide_eq_true c3
   clear c3
   obtain ⟨y271, hy271⟩ : ∃ y_ : List Int, y_ = (List.replicate ((l0.length : Int) : Int).toNat 0) := ⟨_, rfl⟩
   replace H : (zbf.l0 k l0 y271 0) = some r := by first | (rw [hy271]; with_reducible exact H) | (have H2_ := (Option.bind_some _ _).symm.trans H; rw [hy271]; with_reducible exact H2_) | (have H2_ := (Option.bind_some _ _).symm.trans H; with_reducible exact H2_) | with_reducible exact H | (rw [hy271]; exact H) | exact H
   have Ny271 := zaa.mk hy271; clear hy271; have H' := zaa.mk H; clear H
   go_enter Tryz.func39, Tryz.ntmps39
   go_wp2_with (first | ((with_reducible refine zaU (N := 7) rfl ?_); refine Kd.R_make (Kd.int .i64) _ 2 rfl (N := 7) rfl 22 _ _ rfl (l0.length : Int) rfl rfl Tryz.underlying22 (.int .i64 0) 8 info2 rfl yq38 yq9 0 (ok := fun _ => True) (okp := fun _ => True) rfl (fun _ hk => hk) trivial (of_decide_eq_true yq1) (Nat.le_trans (Nat.mul_le_mul_right _ (of_decide_eq_true yq1 : (l0.length : Int).toNat ≤ 35184372088832)) yq9) (Below.refl _ _) (Nat.le_refl _) ?_; intro v272 w4 ho5 hb hg_ hnew_; clear hg_ hnew_; (first | rw [← Ny271.out] at ho5 | (simp only [Int.reduceToNat] at ho5; rw [← Ny271.out] at ho5)); have n0_ := zaa.mk (Kd.R_lower ho5 (zaq (yq0 HB.out))); have n1_ := zaa.mk (zam (yq0 HB.out) hb); clear HB; have HO273 := n0_; have HB := n1_; clear n0_ n1_ hb ho5))
   go_loopg [4] k (fun kq v4 w' => ∃ (x3_1 : List Int) (x4_1 : Int), v4 = .int .i64 x4_1 ∧ zaa (zbf.l0 kq l0 x3_1 x4_1 = some r) ∧ zaa (kq ≤ k) ∧ zaa (Kd.R (Kd.int .i64) 2 w' w.heap.size (fun _ => True) v272 x3_1) ∧ zaa (Below w.heap.size w w'))
   case atStart => exact ⟨(y271), (0), yq3, H', ⟨Nat.le_refl _⟩, ⟨yq7 HO273.out⟩, ⟨yq0 HB.out⟩⟩
   case round =>
    clear H'
    try clear c2b0
    try clear c2b1
    try clear c3b0
    try clear c3b1
    obtain ⟨x3_1, x4_1, rfl, HA, HK1, HO_3, HB⟩ := hrel
    cases gk with
    | zero => exact absurd HA.out (by simp [zbf.l0])
    | succ k1 =>
     have H := HA.out; clear HA
     simp only [zbf.l0] at H
     by_cases c6 : x4_1 < (l0.length : Int)
     ·rw [if_pos c6] at H
      have c6b0 : decide (x4_1 < (l0.length : Int)) = true := decide_eq_true c6
      clear c6
      by_cases c7 : 0 ≤ x4_1
      ·rw [if_pos c7] at H
       have c7b0 : decide (0 ≤ x4_1) = true := decide_eq_true c7
       clear c7
       by_cases c8 : x4_1 < (x3_1.length : Int)
       ·rw [if_pos c8] at H
        have c8b0 : decide (x4_1 < (x3_1.length : Int)) = true := decide_eq_true c8
        clear c8
        obtain ⟨y275, hy275⟩ : ∃ y_ : List Int, y_ = (x3_1.set (x4_1 : Int).toNat (rd l0 x4_1)) := ⟨_, rfl⟩
        replace H : (zbf.l0 k1 l0 y275 (wrap64 (x4_1 + 1))) = some r := by first | (rw [hy275]; with_reducible exact H) | (have H2_ := (Option.bind_some _ _).symm.trans H; rw [hy275]; with_reducible exact H2_) | (have H2_ := (Option.bind_some _ _).symm.trans H; with_reducible exact H2_) | with_reducible exact H | (rw [hy275]; exact H) | exact H
        have Ny275 := zaa.mk hy275; clear hy275; have H' := zaa.mk H; clear H
        have p274 : 0 ≤ (x4_1 : Int) := of_decide_eq_true yq1
        have q274 : x4_1 < (l0.length : Int) := of_decide_eq_true yq1
        obtain ⟨ad274, e274, hx274_0⟩ := Kd.at_int HR0.out x4_1 p274 q274
        cases e274
        replace hx274_0 := (HB.out.cell (World.block_lt_of_cell? w _ hx274_0)).trans hx274_0
        replace p274 := eq_true p274
        replace q274 := eq_true q274
        have p9 : 0 ≤ (x4_1 : Int) := of_decide_eq_true yq1
        have q9 : (x4_1 : Int) < ((x3_1.length : Int) : Int) := of_decide_eq_true yq1
        obtain ⟨go9, co9, eo9, gb9, gl9, cl9, HG9⟩ := Kd.R_form HO_3.out yq9
        (first | cases eo9 | (injection eo9 with ea_ en_ ec_; (first | subst ea_ | (injection ea_ with ea_; subst ea_)); subst ec_; clear en_))
        have GB9 := zaa.mk gb9; have GG9 := zaa.mk HG9; clear gb9 gl9 HG9
        obtain ⟨hx9_0, hf9_0⟩ := Kd.R_celln 0 HO_3.out (x4_1 : Int) p9 q9
        replace p9 := eq_true p9
        replace q9 := eq_true q9
        have HP10 := Kd.R_putg HO_3.out (x4_1 : Int) (rd l0 x4_1)
        go_wp2_with (first | ((with_reducible refine gate_store (t := 2) (p := 20) rfl ?_); refine store_event (t := 2) (p := 20) (v := ?vo_w11) (w1 := (wr.setCell ⟨go9, (x4_1 : Int).toNat, none⟩ (.int .i64 (rd l0 x4_1)))) ?hg ?ho ?hn ?hr ?_; (case ho => rfl); (case hg => rfl); (case hn => rfl); (case hr => first | (go_simp; done) | (go_simp; rfl)); intro w11 hw; have hg : wr.grownBy w11 (some go9) := (by rw [hw]; exact HP10.2); have hp_ : Kd.R (Kd.int .i64) 2 w11 w.heap.size (fun _ => True) (.slice (some ⟨go9, 0, none⟩) x3_1.length co9) y275 := (by rw [hw, Ny275.out]; exact HP10.1); clear HP10; have n0_ := zaa.mk (hp_); have n1_ := zaa.mk ((by rw [hw]; exact zai (HB.out) GB9.out : Below w.heap.size w w11)); clear HO_3 HB; have HO_3 := n0_; have HB := n1_; clear n0_ n1_ hg hw hp_))
        go_roundg k1
        case measure => have := HK1.out; omega
        case rel => exact ⟨(y275), (wrap64 (x4_1 + 1)), yq3, H', ⟨yq15 HK1.out⟩, ⟨yq7 HO_3.out⟩, ⟨yq0 HB.out⟩⟩
       rw [if_neg c8] at H
       exact absurd H yq21
      rw [if_neg c7] at H
      exact absurd H yq21
     rw [if_neg c6] at H
     have c6b0 : decide (x4_1 < (l0.length : Int)) = false := decide_eq_false c6
     clear c6; obtain rfl := Option.some.inj H
     go_wp2
     go_ret
     exact ⟨_, yq4, yq7 HO_3.out, yq0 HB.out⟩
  rw [if_neg c3] at H
  exact absurd H yq21
 rw [if_neg c2] at H
 exact absurd H yq21
def laws_toPluralRule.f (a0_0 : ByteArray) (a0_1 : ByteArray) : Option (ByteArray × ByteArray) := some (a0_0, a0_1)
set_option maxHeartbeats 8000000 in
set_option maxRecDepth 100000 in
theorem laws_toPluralRule.calls (a0_0 : ByteArray) (a0_1 : ByteArray) (r1 : ByteArray) (r2 : ByteArray) (w : World) (h : laws_toPluralRule.f a0_0 a0_1 = some (r1, r2)) :
  Calls Tryz.prog 75 #[.agg #[.string a0_0, .string a0_1]] w fun e w' => e = .returned (.agg #[.string r1, .string r2]) ∧ Below w.heap.size w w' := by
 have hu79 := Tryz.underlying79
 have hu58 := Tryz.underlying58
 have HB := zaa.mk (Below.refl w.heap.size w)
 have H : (some (a0_0, a0_1)) = some (r1, r2) := h
 clear h
 simp only [Option.some.injEq, Prod.mk.injEq] at H
 obtain ⟨rfl, rfl⟩ := H
 go_enter Tryz.func75, Tryz.ntmps75
 go_wp2_with (first | ((with_reducible refine zaU (N := 1) rfl ?_); refine zba ?hg (N := 1) ?hd (cs := #[.string a0_0, .string a0_1]) (t := 79) ?hr ?_; (case hd => rfl); (case hg => rfl); (case hr => first | (go_simp; done) | (go_simp; rfl)); intro gb276 hg w2 hbox hb; have n0_ := zaa.mk (zam (yq0 HB.out) hb); have n1_ := zaa.mk (hbox); have n2_ := zaa.mk ((by rw [hg]; exact (zaq (yq0 HB.out)) : w.heap.size ≤ gb276)); have n3_ := zaa.mk ((by rw [hg]; exact (zaq (yq0 HB.out)) : w.heap.size ≤ gb276)); clear HB; have HB := n0_; have BK276 := n1_; have GW276 := n2_; have GE276 := n3_; clear n0_ n1_ n2_ n3_ hb hbox hg) | ((with_reducible refine zaU (N := 2) rfl ?_); refine zba ?hg (N := 2) ?hd (cs := #[.string (⟨#[]⟩ : ByteArray), .string (⟨#[]⟩ : ByteArray)]) (t := 58) ?hr ?_; (case hd => rfl); (case hg => rfl); (case hr => first | (go_simp; done) | (go_simp; rfl)); intro gb277 hg w3 hbox hb; have n0_ := zaa.mk (zbg (g := gb276) (o := .cells #[.string a0_0, .string a0_1] 79 (0, 0)) (yq5 BK276.out) hb); have n1_ := zaa.mk (zam (yq17 HB.out GE276.out) hb); have n2_ := zaa.mk (hbox); have n3_ := zaa.mk ((by rw [hg]; exact (zaq (yq17 HB.out GE276.out)) : w.heap.size ≤ gb277)); have n4_ := zaa.mk ((by rw [hg]; exact (zaq (yq17 HB.out GE276.out)) : w.heap.size ≤ gb277)); have n5_ := zaa.mk ((by rw [hg]; exact Nat.ne_of_lt (blk_lt (g := gb276) (o := .cells #[.string a0_0, .string a0_1] 79 (0, 0)) (yq5 BK276.out)) : gb276 ≠ gb277)); have n6_ := zaa.mk ((by rw [hg]; exact Nat.ne_of_gt (blk_lt (g := gb276) (o := .cells #[.string a0_0, .string a0_1] 79 (0, 0)) (yq5 BK276.out)) : gb277 ≠ gb276)); clear BK276 HB; have BK276 := n0_; have HB := n1_; have BK277 := n2_; have GW277 := n3_; have GE277 := n4_; have NB276_277 := n5_; have NB277_276 := n6_; clear n0_ n1_ n2_ n3_ n4_ n5_ n6_ hb hbox hg) | ((with_reducible refine zaU (N := 3) rfl ?_); refine zba ?hg (N := 3) ?hd (cs := #[.string (⟨#[]⟩ : ByteArray), .string (⟨#[]⟩ : ByteArray)]) (t := 58) ?hr ?_; (case hd => rfl); (case hg => rfl); (case hr => first | (go_simp; done) | (go_simp; rfl)); intro gb278 hg w4 hbox hb; have n0_ := zaa.mk (zbg (g := gb276) (o := .cells #[.string a0_0, .string a0_1] 79 (0, 0)) (yq5 BK276.out) hb); have n1_ := zaa.mk (zbg (g := gb277) (o := .cells #[.string (⟨#[]⟩ : ByteArray), .string (⟨#[]⟩ : ByteArray)] 58 (0, 0)) (yq5 BK277.out) hb); have n2_ := zaa.mk (zam (yq22 HB.out GE276.out GE277.out) hb); have n3_ := zaa.mk (hbox); have n4_ := zaa.mk ((by rw [hg]; exact (zaq (yq22 HB.out GE276.out GE277.out)) : w.heap.size ≤ gb278)); have n5_ := zaa.mk ((by rw [hg]; exact (zaq (yq22 HB.out GE276.out GE277.out)) : w.heap.size ≤ gb278)); have n6_ := zaa.mk ((by rw [hg]; exact Nat.ne_of_lt (blk_lt (g := gb276) (o := .cells #[.string a0_0, .string a0_1] 79 (0, 0)) (yq5 BK276.out)) : gb276 ≠ gb278)); have n7_ := zaa.mk ((by rw [hg]; exact Nat.ne_of_gt (blk_lt (g := gb276) (o := .cells #[.string a0_0, .string a0_1] 79 (0, 0)) (yq5 BK276.out)) : gb278 ≠ gb276)); have n8_ := zaa.mk ((by rw [hg]; exact Nat.ne_of_lt (blk_lt (g := gb277) (o := .cells #[.string (⟨#[]⟩ : ByteArray), .string (⟨#[]⟩ : ByteArray)] 58 (0, 0)) (yq5 BK277.out)) : gb277 ≠ gb278)); have n9_ := zaa.mk ((by rw [hg]; exact Nat.ne_of_gt (blk_lt (g := gb277) (o := .cells #[.string (⟨#[]⟩ : ByteArray), .string (⟨#[]⟩ : ByteArray)] 58 (0, 0)) (yq5 BK277.out)) : gb278 ≠ gb277)); clear BK276 BK277 HB; have BK276 := n0_; have BK277 := n1_; have HB := n2_; have BK278 := n3_; have GW278 := n4_; have GE278 := n5_; have NB276_278 := n6_; have NB278_276 := n7_; have NB277_278 := n8_; have NB278_277 := n9_; clear n0_ n1_ n2_ n3_ n4_ n5_ n6_ n7_ n8_ n9_ hb hbox hg; have hnb5 := NB276_277.out; have hnc5 := NB277_276.out; have hnb6 := NB276_278.out; have hnc6 := NB278_276.out; have hcz7_0 : w4.cell? ⟨gb276, 0, none⟩ = some (.string a0_0) := (zal BK276.out 0).trans rfl; have hcz7_1 : w4.cell? ⟨gb276, 1, none⟩ = some (.string a0_1) := (zal BK276.out 1).trans rfl; have hfz7_0 := zah BK276.out 0; have hfz7_1 := zah BK276.out 1; have hnb8 := NB278_277.out; have hnc8 := NB277_278.out; have hcz9_0 : w4.cell? ⟨gb278, 0, none⟩ = some (.string (⟨#[]⟩ : ByteArray)) := (zal BK278.out 0).trans rfl; have hcz9_1 : w4.cell? ⟨gb278, 1, none⟩ = some (.string (⟨#[]⟩ : ByteArray)) := (zal BK278.out 1).trans rfl; have hfz9_0 := zah BK278.out 0; have hfz9_1 := zah BK278.out 1; have hcz10_0 : w4.cell? ⟨gb277, 0, none⟩ = some (.string (⟨#[]⟩ : ByteArray)) := (zal BK277.out 0).trans rfl; have hcz10_1 : w4.cell? ⟨gb277, 1, none⟩ = some (.string (⟨#[]⟩ : ByteArray)) := (zal BK277.out 1).trans rfl; have hfz10_0 := zah BK277.out 0; have hfz10_1 := zah BK277.out 1))
 refine bodyPost_ret (results_cell_row rfl _ _ gb277 58 #[.string a0_0, .string a0_1] (0, 0) _ rfl (by (with_reducible repeat (first | refine blk_drewN ?_ _ | refine zar ?_ | refine blk_alloc ?_ _)); refine zbb (cs := #[.string a0_0, .string (⟨#[]⟩ : ByteArray)]) ?_ 1 _ rfl; (with_reducible repeat (first | refine blk_drewN ?_ _ | refine zar ?_ | refine blk_alloc ?_ _)); refine zbb (cs := #[.string (⟨#[]⟩ : ByteArray), .string (⟨#[]⟩ : ByteArray)]) ?_ 0 _ rfl; (with_reducible repeat (first | refine blk_drewN ?_ _ | refine zar ?_ | refine blk_alloc ?_ _)); refine blk_far ?_ NB277_278.out _; (with_reducible repeat (first | refine blk_drewN ?_ _ | refine zar ?_ | refine blk_alloc ?_ _)); refine blk_far ?_ NB277_278.out _; (with_reducible repeat (first | refine blk_drewN ?_ _ | refine zar ?_ | refine blk_alloc ?_ _)); exact BK277.out) Tryz.underlying58 rfl yq10) rfl ?_
 exact ⟨yq4, by repeat (first | (with_reducible first | exact HB.out | apply zad | apply zab | apply zac | refine zai ?_ GE276.out | refine zai ?_ GE277.out | refine zai ?_ GE278.out) | exact HB.out)⟩
def zaM.l0 : Nat → List (S79) → List (S58) → Int → Option ((List (S58)))
 | 0, _, _, _ => none
 | k + 1, x0, x3, x4 => if x4 < (x0.length : Int) then (if 0 ≤ x4 then ((laws_toPluralRule.f ((rd_T79 x0 x4).f0) ((rd_T79 x0 x4).f1)).bind fun bt283 => (if x4 < (x3.length : Int) then (zaM.l0 k x0 (x3.set (x4 : Int).toNat (⟨bt283.1, bt283.2⟩ : S58)) (wrap64 (x4 + 1))) else (none))) else (none)) else (some x3)
def zaM.f (k : Nat) (l0 : List (S79)) : Option ((List (S58))) := if 0 ≤ (l0.length : Int) then (if ((l0.length : Int) : Int).toNat ≤ 8796093022208 then (zaM.l0 k l0 (List.replicate ((l0.length : Int) : Int).toNat z58) 0) else (none)) else (none)
set_option maxHeartbeats 8000000 in
set_option maxRecDepth 100000 in
theorem zaM.calls (k : Nat) (A0 : Option Addr) (c0 : Nat) (l0 : List (S79)) (r : List (S58)) (w : World) (hr0 : Kd.C k79 w A0 l0.length l0) (hc0 : l0.length ≤ c0) (h : zaM.f k l0 = some r) :
  Calls Tryz.prog 40 #[.slice A0 l0.length c0] w fun e w' => ∃ v0_ : Value, e = .returned (v0_) ∧ Kd.R k58 58 w' w.heap.size (fun _ => True) v0_ r ∧ Below w.heap.size w w' := by
 have hu79 := Tryz.underlying79
 have hu58 := Tryz.underlying58
 have HR0 := zaa.mk hr0; have HC0 := zaa.mk hc0; clear hr0 hc0
 have HB := zaa.mk (Below.refl w.heap.size w)
 have H : (if 0 ≤ (l0.length : Int) then (if ((l0.length : Int) : Int).toNat ≤ 8796093022208 then (zaM.l0 k l0 (List.replicate ((l0.length : Int) : Int).toNat z58) 0) else (none)) else (none)) = some r := h
 clear h
 by_cases c2 : 0 ≤ (l0.length : Int)
 ·rw [if_pos c2] at H
  have c2b0 := eq_true c2
  have c2b1 : decide (0 ≤ (l0.length : Int)) = true := decide_eq_true c2
  clear c2
  by_cases c3 : ((l0.length : Int) : Int).toNat ≤ 8796093022208
  ·rw [if_pos c3] at H
   have c3b0 := eq_true c3
   have c3b1 : decide (((l0.length : Int) : Int).toNat ≤ 8796093022208) = true := decide_eq_true c3
   clear c3
   obtain ⟨y279, hy279⟩ : ∃ y_ : List (S58), y_ = (List.replicate ((l0.length : Int) : Int).toNat z58) := ⟨_, rfl⟩
   replace H : (zaM.l0 k l0 y279 0) = some r := by first | (rw [hy279]; with_reducible exact H) | (have H2_ := (Option.bind_some _ _).symm.trans H; rw [hy279]; with_reducible exact H2_) | (have H2_ := (Option.bind_some _ _).symm.trans H; with_reducible exact H2_) | with_reducible exact H | (rw [hy279]; exact H) | exact H
   have Ny279 := zaa.mk hy279; clear hy279; have H' := zaa.mk H; clear H
   go_enter Tryz.func40, Tryz.ntmps40
   go_wp2_with (first | ((with_reducible refine zaU (N := 7) rfl ?_); refine Kd.R_make k58 _ 58 rfl (N := 7) rfl 29 _ _ rfl (l0.length : Int) rfl rfl Tryz.underlying29 (.agg #[(.string ⟨#[]⟩), (.string ⟨#[]⟩)]) 32 info58 rfl yq38 yq9 z58 (ok := fun _ => True) (okp := fun _ => True) (k58_mkM _ _ _ z58 ) (fun _ hk => hk) trivial (of_decide_eq_true yq1) (Nat.le_trans (Nat.mul_le_mul_right _ (of_decide_eq_true yq1 : (l0.length : Int).toNat ≤ 8796093022208)) yq9) (Below.refl _ _) (Nat.le_refl _) ?_; intro v280 w4 ho5 hb hg_ hnew_; clear hg_ hnew_; (first | rw [← Ny279.out] at ho5 | (simp only [Int.reduceToNat] at ho5; rw [← Ny279.out] at ho5)); have n0_ := zaa.mk (Kd.R_lower ho5 (zaq (yq0 HB.out))); have n1_ := zaa.mk (zam (yq0 HB.out) hb); clear HB; have HO281 := n0_; have HB := n1_; clear n0_ n1_ hb ho5))
   go_loopg [4] k (fun kq v4 w' => ∃ (x3_1 : List (S58)) (x4_1 : Int), v4 = .int .i64 x4_1 ∧ zaa (zaM.l0 kq l0 x3_1 x4_1 = some r) ∧ zaa (kq ≤ k) ∧ zaa (Kd.R k58 58 w' w.heap.size (fun _ => True) v280 x3_1) ∧ zaa (Below w.heap.size w w'))
   case atStart => exact ⟨(y279), (0), yq3, H', ⟨Nat.le_refl _⟩, ⟨yq7 HO281.out⟩, ⟨yq0 HB.out⟩⟩
   case round =>
    clear H'
    try clear c2b0
    try clear c2b1
    try clear c3b0
    try clear c3b1
    obtain ⟨x3_1, x4_1, rfl, HA, HK1, HO_3, HB⟩ := hrel
    cases gk with
    | zero => exact absurd HA.out (by simp [zaM.l0])
    | succ k1 =>
     have H := HA.out; clear HA
     simp only [zaM.l0] at H
     by_cases c6 : x4_1 < (l0.length : Int)
     ·rw [if_pos c6] at H
      have c6b0 : decide (x4_1 < (l0.length : Int)) = true := decide_eq_true c6
      clear c6
      by_cases c7 : 0 ≤ x4_1
      ·rw [if_pos c7] at H
       have c7b0 : decide (0 ≤ x4_1) = true := decide_eq_true c7
       clear c7; replace H := Option.bind_eq_some_iff.mp H
       obtain ⟨⟨t283, t284⟩, A80, H⟩ := H
       replace H : (if x4_1 < (x3_1.length : Int) then (zaM.l0 k1 l0 (x3_1.set (x4_1 : Int).toNat (⟨t283, t284⟩ : S58)) (wrap64 (x4_1 + 1))) else (none)) = some r := H
       have A8 := zaa.mk A80; clear A80
       by_cases c9 : x4_1 < (x3_1.length : Int)
       ·rw [if_pos c9] at H
        have c9b0 : decide (x4_1 < (x3_1.length : Int)) = true := decide_eq_true c9
        clear c9
        obtain ⟨y285, hy285⟩ : ∃ y_ : List (S58), y_ = (x3_1.set (x4_1 : Int).toNat (⟨t283, t284⟩ : S58)) := ⟨_, rfl⟩
        replace H : (zaM.l0 k1 l0 y285 (wrap64 (x4_1 + 1))) = some r := by first | (rw [hy285]; with_reducible exact H) | (have H2_ := (Option.bind_some _ _).symm.trans H; rw [hy285]; with_reducible exact H2_) | (have H2_ := (Option.bind_some _ _).symm.trans H; with_reducible exact H2_) | with_reducible exact H | (rw [hy285]; exact H) | exact H
        have Ny285 := zaa.mk hy285; clear hy285; have H' := zaa.mk H; clear H
        have p282 : 0 ≤ (x4_1 : Int) := of_decide_eq_true yq1
        have q282 : x4_1 < (l0.length : Int) := of_decide_eq_true yq1
        obtain ⟨ad282, e282, hx282_0, hx282_1⟩ := at_T79 HR0.out x4_1 p282 q282
        cases e282
        replace hx282_0 := (HB.out.cell (World.block_lt_of_cell? w _ hx282_0)).trans hx282_0
        replace hx282_1 := (HB.out.cell (World.block_lt_of_cell? w _ hx282_1)).trans hx282_1
        replace p282 := eq_true p282
        replace q282 := eq_true q282
        go_wp2_with (first | ((with_reducible refine zaD (f := 75) rfl ?_); refine zbr (some 20) rfl rfl Tryz.func75 yq10 rfl #[.agg #[.string ((rd_T79 l0 x4_1).f0), .string ((rd_T79 l0 x4_1).f1)]] rfl yq2 ?_; (with_reducible refine (laws_toPluralRule.calls ((rd_T79 l0 x4_1).f0) ((rd_T79 l0 x4_1).f1) t283 t284 _ A8.out).mono ?_); rintro e w11 ⟨rfl, hb⟩; refine ⟨_, rfl, ?_⟩; have n0_ := zaa.mk (Kd.za3 (yq7 HO_3.out) hb); have n1_ := zaa.mk (zam (yq0 HB.out) hb); clear HO_3 HB; have HO_3 := n0_; have HB := n1_; clear n0_ n1_; (try clear hb); (try clear hb2); (try clear hk); (try clear hi); have p10 : 0 ≤ (x4_1 : Int) := of_decide_eq_true yq1; have q10 : (x4_1 : Int) < ((x3_1.length : Int) : Int) := of_decide_eq_true yq1; obtain ⟨go10, co10, eo10, gb10, gl10, cl10, HG10⟩ := Kd.R_form HO_3.out yq9; (first | cases eo10 | (injection eo10 with ea_ en_ ec_; (first | subst ea_ | (injection ea_ with ea_; subst ea_)); subst ec_; clear en_)); have GB10 := zaa.mk gb10; have GG10 := zaa.mk HG10; clear gb10 gl10 HG10; obtain ⟨ce10, hcl10, hM10, hcc10, hfr10⟩ := Kd.R_elem HO_3.out z58 (x4_1 : Int) p10 q10; obtain rfl := k58_openM hM10; have hx10_0 : w11.cell? ⟨go10, (x4_1 : Int).toNat * 2, none⟩ = some (.string ((rd_T58 x3_1 x4_1).f0)) := hcc10 0 _ rfl; have hx10_1 : w11.cell? ⟨go10, (x4_1 : Int).toNat * 2 + 1, none⟩ = some (.string ((rd_T58 x3_1 x4_1).f1)) := hcc10 1 _ rfl; have hf10_0 : w11.frozen? ⟨go10, (x4_1 : Int).toNat * 2, none⟩ = false := hfr10 0; have hf10_1 : w11.frozen? ⟨go10, (x4_1 : Int).toNat * 2 + 1, none⟩ = false := hfr10 1; clear hcl10 hcc10 hfr10 hM10; replace p10 := eq_true p10; replace q10 := eq_true q10; have HX12 := zaa.mk (show Kd.R k58 58 w11 w.heap.size (fun _ => True) (.slice (some ⟨go10, 0, none⟩) x3_1.length co10) x3_1 from (yq7 HO_3.out)); obtain ⟨ce12, hcl12, hM12, hcc12, hfr12⟩ := Kd.R_elem HX12.out z58 (x4_1 : Int) (of_decide_eq_true yq1) (by have h_ : (x4_1 : Int) < ((x3_1.length : Int) : Int) := of_decide_eq_true yq1; first | exact h_ | (have e_ := (Kd.zbl HO_3.out).1; omega) | simpa using h_); obtain rfl := k58_openM hM12; have HP12 := Kd.R_seg HX12.out (x4_1 : Int) (of_decide_eq_true yq1) (by have h_ : (x4_1 : Int) < ((x3_1.length : Int) : Int) := of_decide_eq_true yq1; first | exact h_ | (have e_ := (Kd.zbl HO_3.out).1; omega) | simpa using h_) (seg := [.string t283, .string t284]) (j := 0) hcl12 hcc12 (show 2 ≤ 2 from by decide) (x' := (⟨t283, t284⟩ : S58)) (k58_mkM _ _ _ (⟨t283, t284⟩ : S58) ) (fun _ hk => hk); have hx12_0 := hcc12 0 _ rfl; (try simp only [show (k58).sz = 2 from rfl, Nat.mul_one, Nat.add_zero] at hx12_0); have hf12_0 := hfr12 0; (try simp only [show (k58).sz = 2 from rfl, Nat.mul_one, Nat.add_zero] at hf12_0); have hx12_1 := hcc12 1 _ rfl; (try simp only [show (k58).sz = 2 from rfl, Nat.mul_one, Nat.add_zero] at hx12_1); have hf12_1 := hfr12 1; (try simp only [show (k58).sz = 2 from rfl, Nat.mul_one, Nat.add_zero] at hf12_1); clear hcl12 hcc12 hfr12 hM12) | ((with_reducible refine gate_store (t := 58) (p := 21) rfl ?_); refine store_event (t := 58) (p := 21) (v := ?vo_w13) (w1 := ((w11.setCell ⟨go10, (x4_1 : Int).toNat * 2, none⟩ (.string t283)).setCell ⟨go10, (x4_1 : Int).toNat * 2 + 1, none⟩ (.string t284))) ?hg ?ho ?hn ?hr ?_; (case ho => rfl); (case hg => rfl); (case hn => rfl); (case hr => first | (go_simp; done) | (go_simp; rfl)); intro w13 hw; have hg : w11.grownBy w13 (some go10) := (by rw [hw]; exact HP12.2); have hp_ : Kd.R k58 58 w13 w.heap.size (fun _ => True) (.slice (some ⟨go10, 0, none⟩) x3_1.length co10) y285 := (by rw [hw, Ny285.out]; exact HP12.1); clear HP12; have n0_ := zaa.mk (hp_); have n1_ := zaa.mk ((by rw [hw]; exact zai (zai (HB.out) GB10.out) GB10.out : Below w.heap.size w w13)); clear HO_3 HB; have HO_3 := n0_; have HB := n1_; clear n0_ n1_ hg hw hp_))
        go_roundg k1
        case measure => have := HK1.out; omega
        case rel => exact ⟨(y285), (wrap64 (x4_1 + 1)), yq3, H', ⟨yq15 HK1.out⟩, ⟨yq7 HO_3.out⟩, ⟨yq0 HB.out⟩⟩
       rw [if_neg c9] at H
       exact absurd H yq21
      rw [if_neg c7] at H
      exact absurd H yq21
     rw [if_neg c6] at H
     have c6b0 : decide (x4_1 < (l0.length : Int)) = false := decide_eq_false c6
     clear c6; obtain rfl := Option.some.inj H
     go_wp2
     go_ret
     exact ⟨_, yq4, yq7 HO_3.out, yq0 HB.out⟩
  rw [if_neg c3] at H
  exact absurd H yq21
 rw [if_neg c2] at H
 exact absurd H yq21
theorem BX.put {w wc : World} {g : Nat} {t : TypeId} {vs us : Array Value} (h : BX w wc g t vs) (j : Nat) (u : Value) (e : vs.setIfInBounds j u = us) : BX w (wc.setCell ⟨g, j, none⟩ u) g t us := ⟨zai h.b h.g, zbb h.k j u e, h.g⟩
theorem BX.away {w wc : World} {g g' : Nat} {t : TypeId} {vs : Array Value} (h : BX w wc g t vs) (hne : g ≠ g') (hge : w.heap.size ≤ g') (j : Nat) (u : Value) : BX w (wc.setCell ⟨g', j, none⟩ u) g t vs := ⟨zai h.b hge, (Below.heap_setCell wc ⟨g', j, none⟩ u g hne).trans h.k, h.g⟩
def RX {α : Type} (d : Kd α) (e : Nat) (w wc : World) (lo hi : Nat) (v : Value) (xs : List α) : Prop := Kd.R d e wc w.heap.size (fun k => lo ≤ k ∧ k < hi) v xs ∧ hi ≤ wc.heap.size
theorem RX.mk' {α : Type} {d : Kd α} {e : Nat} {w wb wc : World} {v : Value} {xs : List α} (h : Kd.R d e wc wb.heap.size (fun _ => True) v xs) (hb : w.heap.size ≤ wb.heap.size) : RX d e w wc wb.heap.size wc.heap.size v xs :=
 ⟨Kd.R_lower (Kd.R_mono (Kd.R_bound h) (fun k hk => ⟨hk.2.1, hk.2.2.1⟩)) hb, Nat.le_refl _⟩
theorem RX.step {α : Type} {d : Kd α} {e : Nat} {w wc w' : World} {lo hi : Nat} {v : Value} {xs : List α} (h : RX d e w wc lo hi v xs) (hb : Below wc.heap.size wc w') : RX d e w w' lo hi v xs := ⟨Kd.za3 h.1 hb, Nat.le_trans h.2 hb.size⟩
theorem RX.away {α : Type} {d : Kd α} {e : Nat} {w wc : World} {lo hi : Nat} {v : Value} {xs : List α} (h : RX d e w wc lo hi v xs) {g : Nat} (hg : g < lo) (j : Nat) (u : Value) : RX d e w (wc.setCell ⟨g, j, none⟩ u) lo hi v xs := ⟨Kd.R_far h.1 (fun k hk => by have := hk.1; show k ≠ g; omega) u, by have := h.2; simpa [World.setCell] using this⟩
theorem RX.row {α : Type} {d : Kd α} {e : Nat} {w wc : World} {lo hi : Nat} {v : Value} {xs : List α} (h : RX d e w wc lo hi v xs) {g : Nat} (hg : g < lo) (us : Array Value) : RX d e w (wc.setRow g us) lo hi v xs := ⟨Kd.R_step h.1 (fun k hk _ => setRow_other wc g k us (by have := hk.1; omega)), by have := h.2; simpa [World.setRow] using this⟩
def laws_toLocale.f (k : Nat) (a0_0 : ByteArray) (a0_1 : ByteArray) (a0_2 : ByteArray) (a0_3 : ByteArray) (a0_4 : ByteArray) (l0_5 : List Int) (a0_6 : Int) (l0_7 : List (S79)) (a0_8 : ByteArray) (a0_9 : ByteArray) (a0_10 : ByteArray) (a0_11 : ByteArray) (l0_12 : List ByteArray) (l0_13 : List ByteArray) (a0_14 : ByteArray) : Option (ByteArray × ByteArray × ByteArray × ByteArray × ByteArray × List Int × Int × (List (S58)) × ByteArray × ByteArray × ByteArray × ByteArray × List ByteArray × List ByteArray × ByteArray) := (zbf.f k l0_5).bind fun t289 => ((zaM.f k l0_7).bind fun t292 => ((za2.f k l0_12).bind fun t295 => ((za2.f k l0_13).bind fun t298 => (some (a0_0, a0_1, a0_2, a0_3, a0_4, t289, a0_6, t292, a0_8, a0_9, a0_10, a0_11, t295, t298, a0_14)))))
set_option maxHeartbeats 8000000 in
set_option maxRecDepth 100000 in
theorem laws_toLocale.calls (k : Nat) (a0_0 : ByteArray) (a0_1 : ByteArray) (a0_2 : ByteArray) (a0_3 : ByteArray) (a0_4 : ByteArray) (A0_5 : Option Addr) (c0_5 : Nat) (l0_5 : List Int) (a0_6 : Int) (A0_7 : Option Addr) (c0_7 : Nat) (l0_7 : List (S79)) (a0_8 : ByteArray) (a0_9 : ByteArray) (a0_10 : ByteArray) (a0_11 : ByteArray) (A0_12 : Option Addr) (c0_12 : Nat) (l0_12 : List ByteArray) (A0_13 : Option Addr) (c0_13 : Nat) (l0_13 : List ByteArray) (a0_14 : ByteArray) (r1 : ByteArray) (r2 : ByteArray) (r3 : ByteArray) (r4 : ByteArray) (r5 : ByteArray) (r6 : List Int) (r7 : Int) (r8 : List (S58)) (r9 : ByteArray) (r10 : ByteArray) (r11 : ByteArray) (r12 : ByteArray) (r13 : List ByteArray) (r14 : List ByteArray) (r15 : ByteArray) (w : World) (hr0_5 : Kd.C (Kd.int .i64) w A0_5 l0_5.length l0_5) (hc0_5 : l0_5.length ≤ c0_5) (hr0_7 : Kd.C k79 w A0_7 l0_7.length l0_7) (hc0_7 : l0_7.length ≤ c0_7) (hr0_12 : Kd.C Kd.string w A0_12 l0_12.length l0_12) (hc0_12 : l0_12.length ≤ c0_12) (hr0_13 : Kd.C Kd.string w A0_13 l0_13.length l0_13) (hc0_13 : l0_13.length ≤ c0_13) (h : laws_toLocale.f k a0_0 a0_1 a0_2 a0_3 a0_4 l0_5 a0_6 l0_7 a0_8 a0_9 a0_10 a0_11 l0_12 l0_13 a0_14 = some (r1, r2, r3, r4, r5, r6, r7, r8, r9, r10, r11, r12, r13, r14, r15)) :
  Calls Tryz.prog 10 #[.agg #[.string a0_0, .string a0_1, .string a0_2, .string a0_3, .string a0_4, .slice A0_5 l0_5.length c0_5, .int .i64 a0_6, .slice A0_7 l0_7.length c0_7, .string a0_8, .string a0_9, .string a0_10, .string a0_11, .slice A0_12 l0_12.length c0_12, .slice A0_13 l0_13.length c0_13, .string a0_14]] w fun e w' => ∃ v5_ v7_ v12_ v13_ : Value, e = .returned (.agg #[.string r1, .string r2, .string r3, .string r4, .string r5, v5_, .int .i64 r7, v7_, .string r9, .string r10, .string r11, .string r12, v12_, v13_, .string r15]) ∧ Kd.R (Kd.int .i64) 2 w' w.heap.size (fun _ => True) v5_ r6 ∧ Kd.R k58 58 w' w.heap.size (fun _ => True) v7_ r8 ∧ Kd.R Kd.string 9 w' w.heap.size (fun k_ => some k_ ≠ (v13_ : Value).ownBlock) v12_ r13 ∧ Kd.R Kd.string 9 w' w.heap.size (fun k_ => some k_ ≠ (v12_ : Value).ownBlock) v13_ r14 ∧ Below w.heap.size w w' := by
 unfold laws_toLocale.f at h
 obtain ⟨t5, E5, h'⟩ := Option.bind_eq_some_iff.mp h
 replace h := h'
 clear h'
 have C5 : zaa (∀ w1, Below w.heap.size w w1 → Calls Tryz.prog 39 #[.slice A0_5 l0_5.length c0_5] w1 fun e w' => ∃ v, e = .returned v ∧ Kd.R (Kd.int .i64) 2 w' w1.heap.size (fun _ => True) v t5 ∧ Below w1.heap.size w1 w') := ⟨fun w1 hb => zbf.calls k A0_5 c0_5 l0_5 t5 w1 (Kd.zaS hr0_5 hb) hc0_5 E5⟩
 clear E5
 obtain ⟨t7, E7, h'⟩ := Option.bind_eq_some_iff.mp h
 replace h := h'
 clear h'
 have C7 : zaa (∀ w1, Below w.heap.size w w1 → Calls Tryz.prog 40 #[.slice A0_7 l0_7.length c0_7] w1 fun e w' => ∃ v, e = .returned v ∧ Kd.R k58 58 w' w1.heap.size (fun _ => True) v t7 ∧ Below w1.heap.size w1 w') := ⟨fun w1 hb => zaM.calls k A0_7 c0_7 l0_7 t7 w1 (Kd.zaS hr0_7 hb) hc0_7 E7⟩
 clear E7
 obtain ⟨t12, E12, h'⟩ := Option.bind_eq_some_iff.mp h
 replace h := h'
 clear h'
 have C12 : zaa (∀ w1, Below w.heap.size w w1 → Calls Tryz.prog 20 #[.slice A0_12 l0_12.length c0_12] w1 fun e w' => ∃ v, e = .returned v ∧ Kd.R Kd.string 9 w' w1.heap.size (fun _ => True) v t12 ∧ Below w1.heap.size w1 w') := ⟨fun w1 hb => za2.calls k A0_12 c0_12 l0_12 t12 w1 (Kd.zaS hr0_12 hb) hc0_12 E12⟩
 clear E12
 obtain ⟨t13, E13, h'⟩ := Option.bind_eq_some_iff.mp h
 replace h := h'
 clear h'
 have C13 : zaa (∀ w1, Below w.heap.size w w1 → Calls Tryz.prog 20 #[.slice A0_13 l0_13.length c0_13] w1 fun e w' => ∃ v, e = .returned v ∧ Kd.R Kd.string 9 w' w1.heap.size (fun _ => True) v t13 ∧ Below w1.heap.size w1 w') := ⟨fun w1 hb => za2.calls k A0_13 c0_13 l0_13 t13 w1 (Kd.zaS hr0_13 hb) hc0_13 E13⟩
 clear E13
 simp only [Option.some.injEq, Prod.mk.injEq] at h
 obtain ⟨rfl, rfl, rfl, rfl, rfl, rfl, rfl, rfl, rfl, rfl, rfl, rfl, rfl, rfl, rfl⟩ := h
 clear hr0_5 hc0_5 hr0_7 hc0_7 hr0_12 hc0_12 hr0_13 hc0_13
 go_enter Tryz.func10, Tryz.ntmps10
 go_upto_region 2 with (first
  | ((with_reducible refine zaU (N := 1) rfl ?_); refine zba ?hg (N := 1) ?hd (cs := #[.string a0_0, .string a0_1, .string a0_2, .string a0_3, .string a0_4, .slice A0_5 l0_5.length c0_5, .int .i64 a0_6, .slice A0_7 l0_7.length c0_7, .string a0_8, .string a0_9, .string a0_10, .string a0_11, .slice A0_12 l0_12.length c0_12, .slice A0_13 l0_13.length c0_13, .string a0_14]) (t := 26) ?hr ?_; (case hd => rfl); (case hg => rfl); (case hr => first | (go_simp; done) | (go_simp; rfl)); intro gb hg wc hbox hb; have L : zaa (BX w wc gb 26 #[.string a0_0, .string a0_1, .string a0_2, .string a0_3, .string a0_4, .slice A0_5 l0_5.length c0_5, .int .i64 a0_6, .slice A0_7 l0_7.length c0_7, .string a0_8, .string a0_9, .string a0_10, .string a0_11, .slice A0_12 l0_12.length c0_12, .slice A0_13 l0_13.length c0_13, .string a0_14]) := ⟨⟨zam (Below.refl _ _) hb, hbox, by rw [hg]; exact Nat.le_refl _⟩⟩; clear hb hbox hg)
  | ((with_reducible refine zaU (N := 2) rfl ?_); refine zba ?hg (N := 2) ?hd (cs := #[.string ⟨#[]⟩, .string ⟨#[]⟩, .string ⟨#[]⟩, .string ⟨#[]⟩, .string ⟨#[]⟩, .slice none 0 0, .int .i64 0, .slice none 0 0, .string ⟨#[]⟩, .string ⟨#[]⟩, .string ⟨#[]⟩, .string ⟨#[]⟩, .slice none 0 0, .slice none 0 0, .string ⟨#[]⟩]) (t := 31) ?hr ?_; (case hd => rfl); (case hg => rfl); (case hr => first | (go_simp; done) | (go_simp; rfl)); intro gr hg wc hbox hb; have N : zaa (BX w wc gr 31 #[.string ⟨#[]⟩, .string ⟨#[]⟩, .string ⟨#[]⟩, .string ⟨#[]⟩, .string ⟨#[]⟩, .slice none 0 0, .int .i64 0, .slice none 0 0, .string ⟨#[]⟩, .string ⟨#[]⟩, .string ⟨#[]⟩, .string ⟨#[]⟩, .slice none 0 0, .slice none 0 0, .string ⟨#[]⟩]) := ⟨⟨zam L.out.b hb, hbox, by rw [hg]; exact zaq L.out.b⟩⟩; have NA : zaa (gb < gr) := ⟨by rw [hg]; exact blk_lt L.out.k⟩; have L1 := zaa.mk (L.out.step hb); clear L hb hg hbox; have L := L1; clear L1)
  | ((with_reducible refine zaU (N := 3) rfl ?_); refine zba ?hg (N := 3) ?hd (cs := #[.string ⟨#[]⟩, .string ⟨#[]⟩, .string ⟨#[]⟩, .string ⟨#[]⟩, .string ⟨#[]⟩, .slice none 0 0, .int .i64 0, .slice none 0 0, .string ⟨#[]⟩, .string ⟨#[]⟩, .string ⟨#[]⟩, .string ⟨#[]⟩, .slice none 0 0, .slice none 0 0, .string ⟨#[]⟩]) (t := 31) ?hr ?_; (case hd => rfl); (case hg => rfl); (case hr => first | (go_simp; done) | (go_simp; rfl)); intro gc hg wc hbox hb; have M : zaa (BX w wc gc 31 #[.string ⟨#[]⟩, .string ⟨#[]⟩, .string ⟨#[]⟩, .string ⟨#[]⟩, .string ⟨#[]⟩, .slice none 0 0, .int .i64 0, .slice none 0 0, .string ⟨#[]⟩, .string ⟨#[]⟩, .string ⟨#[]⟩, .string ⟨#[]⟩, .slice none 0 0, .slice none 0 0, .string ⟨#[]⟩]) := ⟨⟨zam L.out.b hb, hbox, by rw [hg]; exact zaq L.out.b⟩⟩; have NB : zaa (gr < gc) := ⟨by rw [hg]; exact blk_lt N.out.k⟩; have L1 := zaa.mk (L.out.step hb); have N1 := zaa.mk (N.out.step hb); clear L N hb hg hbox; have L := L1; have N := N1; clear L1 N1)
  | fail)
 rename World => wc
 have k : wc.cell? ⟨gb, 0, none⟩ = some (.string a0_0) := (zal L.out.k 0).trans rfl
 have m : wc.cell? ⟨gc, 0, none⟩ = some (.string ⟨#[]⟩) := (zal M.out.k 0).trans rfl
 have f := zah M.out.k 0
 go_upto_region 3 with (fail)
 have L1 := zaa.mk (L.out.away (Nat.ne_of_lt (Nat.lt_trans NA.out NB.out)) M.out.g 0 (.string a0_0))
 have N1 := zaa.mk (N.out.away (Nat.ne_of_lt NB.out) M.out.g 0 (.string a0_0))
 have M1 := zaa.mk (M.out.put 0 (.string a0_0) rfl)
 simp only [List.setIfInBounds_toArray, List.set_cons_zero, List.set_cons_succ] at M1
 clear L N M m f k
 generalize World.setCell _ _ _ = wq at L1 N1 M1  ⊢
 rename World => wc
 have L := L1; have N := N1; have M := M1; clear L1 N1 M1
 have k : wc.cell? ⟨gb, 1, none⟩ = some (.string a0_1) := (zal L.out.k 1).trans rfl
 have m : wc.cell? ⟨gc, 1, none⟩ = some (.string ⟨#[]⟩) := (zal M.out.k 1).trans rfl
 have f := zah M.out.k 1
 go_upto_region 4 with (fail)
 have L1 := zaa.mk (L.out.away (Nat.ne_of_lt (Nat.lt_trans NA.out NB.out)) M.out.g 1 (.string a0_1))
 have N1 := zaa.mk (N.out.away (Nat.ne_of_lt NB.out) M.out.g 1 (.string a0_1))
 have M1 := zaa.mk (M.out.put 1 (.string a0_1) rfl)
 simp only [List.setIfInBounds_toArray, List.set_cons_zero, List.set_cons_succ] at M1
 clear L N M m f k
 generalize World.setCell _ _ _ = wq at L1 N1 M1  ⊢
 rename World => wc
 have L := L1; have N := N1; have M := M1; clear L1 N1 M1
 have k : wc.cell? ⟨gb, 2, none⟩ = some (.string a0_2) := (zal L.out.k 2).trans rfl
 have m : wc.cell? ⟨gc, 2, none⟩ = some (.string ⟨#[]⟩) := (zal M.out.k 2).trans rfl
 have f := zah M.out.k 2
 go_upto_region 5 with (fail)
 have L1 := zaa.mk (L.out.away (Nat.ne_of_lt (Nat.lt_trans NA.out NB.out)) M.out.g 2 (.string a0_2))
 have N1 := zaa.mk (N.out.away (Nat.ne_of_lt NB.out) M.out.g 2 (.string a0_2))
 have M1 := zaa.mk (M.out.put 2 (.string a0_2) rfl)
 simp only [List.setIfInBounds_toArray, List.set_cons_zero, List.set_cons_succ] at M1
 clear L N M m f k
 generalize World.setCell _ _ _ = wq at L1 N1 M1  ⊢
 rename World => wc
 have L := L1; have N := N1; have M := M1; clear L1 N1 M1
 have k : wc.cell? ⟨gb, 3, none⟩ = some (.string a0_3) := (zal L.out.k 3).trans rfl
 have m : wc.cell? ⟨gc, 3, none⟩ = some (.string ⟨#[]⟩) := (zal M.out.k 3).trans rfl
 have f := zah M.out.k 3
 go_upto_region 6 with (fail)
 have L1 := zaa.mk (L.out.away (Nat.ne_of_lt (Nat.lt_trans NA.out NB.out)) M.out.g 3 (.string a0_3))
 have N1 := zaa.mk (N.out.away (Nat.ne_of_lt NB.out) M.out.g 3 (.string a0_3))
 have M1 := zaa.mk (M.out.put 3 (.string a0_3) rfl)
 simp only [List.setIfInBounds_toArray, List.set_cons_zero, List.set_cons_succ] at M1
 clear L N M m f k
 generalize World.setCell _ _ _ = wq at L1 N1 M1  ⊢
 rename World => wc
 have L := L1; have N := N1; have M := M1; clear L1 N1 M1
 have k : wc.cell? ⟨gb, 4, none⟩ = some (.string a0_4) := (zal L.out.k 4).trans rfl
 have m : wc.cell? ⟨gc, 4, none⟩ = some (.string ⟨#[]⟩) := (zal M.out.k 4).trans rfl
 have f := zah M.out.k 4
 go_upto_region 7 with (fail)
 have L1 := zaa.mk (L.out.away (Nat.ne_of_lt (Nat.lt_trans NA.out NB.out)) M.out.g 4 (.string a0_4))
 have N1 := zaa.mk (N.out.away (Nat.ne_of_lt NB.out) M.out.g 4 (.string a0_4))
 have M1 := zaa.mk (M.out.put 4 (.string a0_4) rfl)
 simp only [List.setIfInBounds_toArray, List.set_cons_zero, List.set_cons_succ] at M1
 clear L N M m f k
 generalize World.setCell _ _ _ = wq at L1 N1 M1  ⊢
 rename World => wc
 have L := L1; have N := N1; have M := M1; clear L1 N1 M1
 have k : wc.cell? ⟨gb, 5, none⟩ = some (.slice A0_5 l0_5.length c0_5) := (zal L.out.k 5).trans rfl
 go_upto_region 8 with (first | ((go_at_call 39; with_reducible refine (C5.out _ L.out.b).mono ?_); rintro e wd ⟨v, rfl, ho, hb⟩; obtain ⟨AA5, cc5, ee, _, _⟩ := Kd.R_reads ho; subst ee; obtain ⟨lo5, hlo⟩ : ∃ q, q = wc.heap.size := ⟨_, rfl⟩; obtain ⟨hi5, hhi⟩ : ∃ q, q = wd.heap.size := ⟨_, rfl⟩; have G5 := zaa.mk (RX.mk' ho (zaq L.out.b)); rw [← hlo, ← hhi] at G5; have Q5 : zaa (gc < lo5) := ⟨by rw [hlo]; exact blk_lt M.out.k⟩; have L1 := zaa.mk (L.out.step hb); have N1 := zaa.mk (N.out.step hb); have M1 := zaa.mk (M.out.step hb); clear L N M k hb ho hlo hhi C5 ; have L := L1; have N := N1; have M := M1; clear L1 N1 M1; have H5 := G5; clear G5; rename World => wc; have m : wc.cell? ⟨gc, 5, none⟩ = some (.slice none 0 0) := (zal M.out.k 5).trans rfl; have f := zah M.out.k 5) | fail)
 have L1 := zaa.mk (L.out.away (Nat.ne_of_lt (Nat.lt_trans NA.out NB.out)) M.out.g 5 (.slice AA5 t5.length cc5))
 have N1 := zaa.mk (N.out.away (Nat.ne_of_lt NB.out) M.out.g 5 (.slice AA5 t5.length cc5))
 have M1 := zaa.mk (M.out.put 5 (.slice AA5 t5.length cc5) rfl)
 simp only [List.setIfInBounds_toArray, List.set_cons_zero, List.set_cons_succ] at M1
 have G5 := zaa.mk (H5.out.away Q5.out 5 (.slice AA5 t5.length cc5))
 clear L N M m f H5
 generalize World.setCell _ _ _ = wq at L1 N1 M1 G5 ⊢
 rename World => wc
 have L := L1; have N := N1; have M := M1; have H5 := G5; clear L1 N1 M1 G5
 have k : wc.cell? ⟨gb, 6, none⟩ = some (.int .i64 a0_6) := (zal L.out.k 6).trans rfl
 have m : wc.cell? ⟨gc, 6, none⟩ = some (.int .i64 0) := (zal M.out.k 6).trans rfl
 have f := zah M.out.k 6
 go_upto_region 9 with (fail)
 have L1 := zaa.mk (L.out.away (Nat.ne_of_lt (Nat.lt_trans NA.out NB.out)) M.out.g 6 (.int .i64 a0_6))
 have N1 := zaa.mk (N.out.away (Nat.ne_of_lt NB.out) M.out.g 6 (.int .i64 a0_6))
 have M1 := zaa.mk (M.out.put 6 (.int .i64 a0_6) rfl)
 simp only [List.setIfInBounds_toArray, List.set_cons_zero, List.set_cons_succ] at M1
 have G5 := zaa.mk (H5.out.away Q5.out 6 (.int .i64 a0_6))
 clear L N M m f k H5
 generalize World.setCell _ _ _ = wq at L1 N1 M1 G5 ⊢
 rename World => wc
 have L := L1; have N := N1; have M := M1; have H5 := G5; clear L1 N1 M1 G5
 have k : wc.cell? ⟨gb, 7, none⟩ = some (.slice A0_7 l0_7.length c0_7) := (zal L.out.k 7).trans rfl
 go_upto_region 10 with (first | ((go_at_call 40; with_reducible refine (C7.out _ L.out.b).mono ?_); rintro e wd ⟨v, rfl, ho, hb⟩; obtain ⟨AA7, cc7, ee, _, _⟩ := Kd.R_reads ho; subst ee; obtain ⟨lo7, hlo⟩ : ∃ q, q = wc.heap.size := ⟨_, rfl⟩; obtain ⟨hi7, hhi⟩ : ∃ q, q = wd.heap.size := ⟨_, rfl⟩; have G7 := zaa.mk (RX.mk' ho (zaq L.out.b)); rw [← hlo, ← hhi] at G7; have Q7 : zaa (gc < lo7) := ⟨by rw [hlo]; exact blk_lt M.out.k⟩; have L1 := zaa.mk (L.out.step hb); have N1 := zaa.mk (N.out.step hb); have M1 := zaa.mk (M.out.step hb); have G5 := zaa.mk (H5.out.step hb); clear L N M k hb ho hlo hhi C7 H5; have L := L1; have N := N1; have M := M1; clear L1 N1 M1; have H5 := G5; clear G5; have H7 := G7; clear G7; rename World => wc; have m : wc.cell? ⟨gc, 7, none⟩ = some (.slice none 0 0) := (zal M.out.k 7).trans rfl; have f := zah M.out.k 7) | fail)
 have L1 := zaa.mk (L.out.away (Nat.ne_of_lt (Nat.lt_trans NA.out NB.out)) M.out.g 7 (.slice AA7 t7.length cc7))
 have N1 := zaa.mk (N.out.away (Nat.ne_of_lt NB.out) M.out.g 7 (.slice AA7 t7.length cc7))
 have M1 := zaa.mk (M.out.put 7 (.slice AA7 t7.length cc7) rfl)
 simp only [List.setIfInBounds_toArray, List.set_cons_zero, List.set_cons_succ] at M1
 have G5 := zaa.mk (H5.out.away Q5.out 7 (.slice AA7 t7.length cc7))
 have G7 := zaa.mk (H7.out.away Q7.out 7 (.slice AA7 t7.length cc7))
 clear L N M m f H5 H7
 generalize World.setCell _ _ _ = wq at L1 N1 M1 G5 G7 ⊢
 rename World => wc
 have L := L1; have N := N1; have M := M1; have H5 := G5; have H7 := G7; clear L1 N1 M1 G5 G7
 have k : wc.cell? ⟨gb, 8, none⟩ = some (.string a0_8) := (zal L.out.k 8).trans rfl
 have m : wc.cell? ⟨gc, 8, none⟩ = some (.string ⟨#[]⟩) := (zal M.out.k 8).trans rfl
 have f := zah M.out.k 8
 go_upto_region 11 with (fail)
 have L1 := zaa.mk (L.out.away (Nat.ne_of_lt (Nat.lt_trans NA.out NB.out)) M.out.g 8 (.string a0_8))
 have N1 := zaa.mk (N.out.away (Nat.ne_of_lt NB.out) M.out.g 8 (.string a0_8))
 have M1 := zaa.mk (M.out.put 8 (.string a0_8) rfl)
 simp only [List.setIfInBounds_toArray, List.set_cons_zero, List.set_cons_succ] at M1
 have G5 := zaa.mk (H5.out.away Q5.out 8 (.string a0_8))
 have G7 := zaa.mk (H7.out.away Q7.out 8 (.string a0_8))
 clear L N M m f k H5 H7
 generalize World.setCell _ _ _ = wq at L1 N1 M1 G5 G7 ⊢
 rename World => wc
 have L := L1; have N := N1; have M := M1; have H5 := G5; have H7 := G7; clear L1 N1 M1 G5 G7
 have k : wc.cell? ⟨gb, 9, none⟩ = some (.string a0_9) := (zal L.out.k 9).trans rfl
 have m : wc.cell? ⟨gc, 9, none⟩ = some (.string ⟨#[]⟩) := (zal M.out.k 9).trans rfl
 have f := zah M.out.k 9
 go_upto_region 12 with (fail)
 have L1 := zaa.mk (L.out.away (Nat.ne_of_lt (Nat.lt_trans NA.out NB.out)) M.out.g 9 (.string a0_9))
 have N1 := zaa.mk (N.out.away (Nat.ne_of_lt NB.out) M.out.g 9 (.string a0_9))
 have M1 := zaa.mk (M.out.put 9 (.string a0_9) rfl)
 simp only [List.setIfInBounds_toArray, List.set_cons_zero, List.set_cons_succ] at M1
 have G5 := zaa.mk (H5.out.away Q5.out 9 (.string a0_9))
 have G7 := zaa.mk (H7.out.away Q7.out 9 (.string a0_9))
 clear L N M m f k H5 H7
 generalize World.setCell _ _ _ = wq at L1 N1 M1 G5 G7 ⊢
 rename World => wc
 have L := L1; have N := N1; have M := M1; have H5 := G5; have H7 := G7; clear L1 N1 M1 G5 G7
 have k : wc.cell? ⟨gb, 10, none⟩ = some (.string a0_10) := (zal L.out.k 10).trans rfl
 have m : wc.cell? ⟨gc, 10, none⟩ = some (.string ⟨#[]⟩) := (zal M.out.k 10).trans rfl
 have f := zah M.out.k 10
 go_upto_region 13 with (fail)
 have L1 := zaa.mk (L.out.away (Nat.ne_of_lt (Nat.lt_trans NA.out NB.out)) M.out.g 10 (.string a0_10))
 have N1 := zaa.mk (N.out.away (Nat.ne_of_lt NB.out) M.out.g 10 (.string a0_10))
 have M1 := zaa.mk (M.out.put 10 (.string a0_10) rfl)
 simp only [List.setIfInBounds_toArray, List.set_cons_zero, List.set_cons_succ] at M1
 have G5 := zaa.mk (H5.out.away Q5.out 10 (.string a0_10))
 have G7 := zaa.mk (H7.out.away Q7.out 10 (.string a0_10))
 clear L N M m f k H5 H7
 generalize World.setCell _ _ _ = wq at L1 N1 M1 G5 G7 ⊢
 rename World => wc
 have L := L1; have N := N1; have M := M1; have H5 := G5; have H7 := G7; clear L1 N1 M1 G5 G7
 have k : wc.cell? ⟨gb, 11, none⟩ = some (.string a0_11) := (zal L.out.k 11).trans rfl
 have m : wc.cell? ⟨gc, 11, none⟩ = some (.string ⟨#[]⟩) := (zal M.out.k 11).trans rfl
 have f := zah M.out.k 11
 go_upto_region 14 with (fail)
 have L1 := zaa.mk (L.out.away (Nat.ne_of_lt (Nat.lt_trans NA.out NB.out)) M.out.g 11 (.string a0_11))
 have N1 := zaa.mk (N.out.away (Nat.ne_of_lt NB.out) M.out.g 11 (.string a0_11))
 have M1 := zaa.mk (M.out.put 11 (.string a0_11) rfl)
 simp only [List.setIfInBounds_toArray, List.set_cons_zero, List.set_cons_succ] at M1
 have G5 := zaa.mk (H5.out.away Q5.out 11 (.string a0_11))
 have G7 := zaa.mk (H7.out.away Q7.out 11 (.string a0_11))
 clear L N M m f k H5 H7
 generalize World.setCell _ _ _ = wq at L1 N1 M1 G5 G7 ⊢
 rename World => wc
 have L := L1; have N := N1; have M := M1; have H5 := G5; have H7 := G7; clear L1 N1 M1 G5 G7
 have k : wc.cell? ⟨gb, 12, none⟩ = some (.slice A0_12 l0_12.length c0_12) := (zal L.out.k 12).trans rfl
 go_upto_region 15 with (first | ((go_at_call 20; with_reducible refine (C12.out _ L.out.b).mono ?_); rintro e wd ⟨v, rfl, ho, hb⟩; obtain ⟨AA12, cc12, ee, _, _⟩ := Kd.R_reads ho; subst ee; obtain ⟨lo12, hlo⟩ : ∃ q, q = wc.heap.size := ⟨_, rfl⟩; obtain ⟨hi12, hhi⟩ : ∃ q, q = wd.heap.size := ⟨_, rfl⟩; have G12 := zaa.mk (RX.mk' ho (zaq L.out.b)); rw [← hlo, ← hhi] at G12; have Q12 : zaa (gc < lo12) := ⟨by rw [hlo]; exact blk_lt M.out.k⟩; have L1 := zaa.mk (L.out.step hb); have N1 := zaa.mk (N.out.step hb); have M1 := zaa.mk (M.out.step hb); have G5 := zaa.mk (H5.out.step hb); have G7 := zaa.mk (H7.out.step hb); clear L N M k hb ho hlo hhi C12 H5 H7; have L := L1; have N := N1; have M := M1; clear L1 N1 M1; have H5 := G5; clear G5; have H7 := G7; clear G7; have H12 := G12; clear G12; rename World => wc; have m : wc.cell? ⟨gc, 12, none⟩ = some (.slice none 0 0) := (zal M.out.k 12).trans rfl; have f := zah M.out.k 12) | fail)
 have L1 := zaa.mk (L.out.away (Nat.ne_of_lt (Nat.lt_trans NA.out NB.out)) M.out.g 12 (.slice AA12 t12.length cc12))
 have N1 := zaa.mk (N.out.away (Nat.ne_of_lt NB.out) M.out.g 12 (.slice AA12 t12.length cc12))
 have M1 := zaa.mk (M.out.put 12 (.slice AA12 t12.length cc12) rfl)
 simp only [List.setIfInBounds_toArray, List.set_cons_zero, List.set_cons_succ] at M1
 have G5 := zaa.mk (H5.out.away Q5.out 12 (.slice AA12 t12.length cc12))
 have G7 := zaa.mk (H7.out.away Q7.out 12 (.slice AA12 t12.length cc12))
 have G12 := zaa.mk (H12.out.away Q12.out 12 (.slice AA12 t12.length cc12))
 clear L N M m f H5 H7 H12
 generalize World.setCell _ _ _ = wq at L1 N1 M1 G5 G7 G12 ⊢
 rename World => wc
 have L := L1; have N := N1; have M := M1; have H5 := G5; have H7 := G7; have H12 := G12; clear L1 N1 M1 G5 G7 G12
 have k : wc.cell? ⟨gb, 13, none⟩ = some (.slice A0_13 l0_13.length c0_13) := (zal L.out.k 13).trans rfl
 go_upto_region 16 with (first | ((go_at_call 20; with_reducible refine (C13.out _ L.out.b).mono ?_); rintro e wd ⟨v, rfl, ho, hb⟩; obtain ⟨AA13, cc13, ee, _, _⟩ := Kd.R_reads ho; subst ee; obtain ⟨lo13, hlo⟩ : ∃ q, q = wc.heap.size := ⟨_, rfl⟩; obtain ⟨hi13, hhi⟩ : ∃ q, q = wd.heap.size := ⟨_, rfl⟩; have G13 := zaa.mk (RX.mk' ho (zaq L.out.b)); rw [← hlo, ← hhi] at G13; have Q13 : zaa (gc < lo13) := ⟨by rw [hlo]; exact blk_lt M.out.k⟩; have Q99 : zaa (hi12 ≤ lo13) := ⟨by rw [hlo]; exact H12.out.2⟩; have L1 := zaa.mk (L.out.step hb); have N1 := zaa.mk (N.out.step hb); have M1 := zaa.mk (M.out.step hb); have G5 := zaa.mk (H5.out.step hb); have G7 := zaa.mk (H7.out.step hb); have G12 := zaa.mk (H12.out.step hb); clear L N M k hb ho hlo hhi C13 H5 H7 H12; have L := L1; have N := N1; have M := M1; clear L1 N1 M1; have H5 := G5; clear G5; have H7 := G7; clear G7; have H12 := G12; clear G12; have H13 := G13; clear G13; rename World => wc; have m : wc.cell? ⟨gc, 13, none⟩ = some (.slice none 0 0) := (zal M.out.k 13).trans rfl; have f := zah M.out.k 13) | fail)
 have L1 := zaa.mk (L.out.away (Nat.ne_of_lt (Nat.lt_trans NA.out NB.out)) M.out.g 13 (.slice AA13 t13.length cc13))
 have N1 := zaa.mk (N.out.away (Nat.ne_of_lt NB.out) M.out.g 13 (.slice AA13 t13.length cc13))
 have M1 := zaa.mk (M.out.put 13 (.slice AA13 t13.length cc13) rfl)
 simp only [List.setIfInBounds_toArray, List.set_cons_zero, List.set_cons_succ] at M1
 have G5 := zaa.mk (H5.out.away Q5.out 13 (.slice AA13 t13.length cc13))
 have G7 := zaa.mk (H7.out.away Q7.out 13 (.slice AA13 t13.length cc13))
 have G12 := zaa.mk (H12.out.away Q12.out 13 (.slice AA13 t13.length cc13))
 have G13 := zaa.mk (H13.out.away Q13.out 13 (.slice AA13 t13.length cc13))
 clear L N M m f H5 H7 H12 H13
 generalize World.setCell _ _ _ = wq at L1 N1 M1 G5 G7 G12 G13 ⊢
 rename World => wc
 have L := L1; have N := N1; have M := M1; have H5 := G5; have H7 := G7; have H12 := G12; have H13 := G13; clear L1 N1 M1 G5 G7 G12 G13
 have k : wc.cell? ⟨gb, 14, none⟩ = some (.string a0_14) := (zal L.out.k 14).trans rfl
 have m : wc.cell? ⟨gc, 14, none⟩ = some (.string ⟨#[]⟩) := (zal M.out.k 14).trans rfl
 have f := zah M.out.k 14
 go_upto_region 17 with (fail)
 have L1 := zaa.mk (L.out.away (Nat.ne_of_lt (Nat.lt_trans NA.out NB.out)) M.out.g 14 (.string a0_14))
 have N1 := zaa.mk (N.out.away (Nat.ne_of_lt NB.out) M.out.g 14 (.string a0_14))
 have M1 := zaa.mk (M.out.put 14 (.string a0_14) rfl)
 simp only [List.setIfInBounds_toArray, List.set_cons_zero, List.set_cons_succ] at M1
 have G5 := zaa.mk (H5.out.away Q5.out 14 (.string a0_14))
 have G7 := zaa.mk (H7.out.away Q7.out 14 (.string a0_14))
 have G12 := zaa.mk (H12.out.away Q12.out 14 (.string a0_14))
 have G13 := zaa.mk (H13.out.away Q13.out 14 (.string a0_14))
 clear L N M m f k H5 H7 H12 H13
 generalize World.setCell _ _ _ = wq at L1 N1 M1 G5 G7 G12 G13 ⊢
 rename World => wc
 have L := L1; have N := N1; have M := M1; have H5 := G5; have H7 := G7; have H12 := G12; have H13 := G13; clear L1 N1 M1 G5 G7 G12 G13
 obtain ⟨j0, j1, j2, j3, j4, j5, j6, j7, j8, j9, j10, j11, j12, j13, j14⟩ := M.out.at
 go_wp2_with (first | ((with_reducible refine gate_store (t := 31) (p := 2) rfl ?_); refine wpList_plain rfl (fun K_ hK_ => wp_store_row 31 (.tmp 2) (.tmp 53) rfl gr #[.string a0_0, .string a0_1, .string a0_2, .string a0_3, .string a0_4, .slice AA5 t5.length cc5, .int .i64 a0_6, .slice AA7 t7.length cc7, .string a0_8, .string a0_9, .string a0_10, .string a0_11, .slice AA12 t12.length cc12, .slice AA13 t13.length cc13, .string a0_14] rfl rfl 31 #[.string ⟨#[]⟩, .string ⟨#[]⟩, .string ⟨#[]⟩, .string ⟨#[]⟩, .string ⟨#[]⟩, .slice none 0 0, .int .i64 0, .slice none 0 0, .string ⟨#[]⟩, .string ⟨#[]⟩, .string ⟨#[]⟩, .string ⟨#[]⟩, .slice none 0 0, .slice none 0 0, .string ⟨#[]⟩] N.out.k (show (Tryz.prog.info? 31).map (·.size) = some 15 by kernel_rfl) rfl (by simp [Value.oneCell']) (hK_ _ _ ?_)); have N1 := zaa.mk (N.out.row #[.string a0_0, .string a0_1, .string a0_2, .string a0_3, .string a0_4, .slice AA5 t5.length cc5, .int .i64 a0_6, .slice AA7 t7.length cc7, .string a0_8, .string a0_9, .string a0_10, .string a0_11, .slice AA12 t12.length cc12, .slice AA13 t13.length cc13, .string a0_14]); have G5 := zaa.mk (H5.out.row (show gr < lo5 by have := NB.out; have := Q5.out; omega) #[.string a0_0, .string a0_1, .string a0_2, .string a0_3, .string a0_4, .slice AA5 t5.length cc5, .int .i64 a0_6, .slice AA7 t7.length cc7, .string a0_8, .string a0_9, .string a0_10, .string a0_11, .slice AA12 t12.length cc12, .slice AA13 t13.length cc13, .string a0_14]); have G7 := zaa.mk (H7.out.row (show gr < lo7 by have := NB.out; have := Q7.out; omega) #[.string a0_0, .string a0_1, .string a0_2, .string a0_3, .string a0_4, .slice AA5 t5.length cc5, .int .i64 a0_6, .slice AA7 t7.length cc7, .string a0_8, .string a0_9, .string a0_10, .string a0_11, .slice AA12 t12.length cc12, .slice AA13 t13.length cc13, .string a0_14]); have G12 := zaa.mk (H12.out.row (show gr < lo12 by have := NB.out; have := Q12.out; omega) #[.string a0_0, .string a0_1, .string a0_2, .string a0_3, .string a0_4, .slice AA5 t5.length cc5, .int .i64 a0_6, .slice AA7 t7.length cc7, .string a0_8, .string a0_9, .string a0_10, .string a0_11, .slice AA12 t12.length cc12, .slice AA13 t13.length cc13, .string a0_14]); have G13 := zaa.mk (H13.out.row (show gr < lo13 by have := NB.out; have := Q13.out; omega) #[.string a0_0, .string a0_1, .string a0_2, .string a0_3, .string a0_4, .slice AA5 t5.length cc5, .int .i64 a0_6, .slice AA7 t7.length cc7, .string a0_8, .string a0_9, .string a0_10, .string a0_11, .slice AA12 t12.length cc12, .slice AA13 t13.length cc13, .string a0_14]); clear L M N j0 j1 j2 j3 j4 j5 j6 j7 j8 j9 j10 j11 j12 j13 j14 H5 H7 H12 H13; generalize World.setRow _ _ _ = wq at N1 G5 G7 G12 G13 ⊢) | fail)
 refine bodyPost_ret (results_cell_row rfl _ _ gr 31 #[.string a0_0, .string a0_1, .string a0_2, .string a0_3, .string a0_4, .slice AA5 t5.length cc5, .int .i64 a0_6, .slice AA7 t7.length cc7, .string a0_8, .string a0_9, .string a0_10, .string a0_11, .slice AA12 t12.length cc12, .slice AA13 t13.length cc13, .string a0_14] (0, 0) _ rfl N1.out.k Tryz.underlying31 rfl yq10) rfl ?_
 refine ⟨_, _, _, _, rfl, Kd.R_mono G5.out.1 (fun _ _ => trivial), Kd.R_mono G7.out.1 (fun _ _ => trivial), Kd.R_mono G12.out.1 (fun k hk e => ?_), Kd.R_mono G13.out.1 (fun k hk e => ?_), N1.out.b⟩
 ·have h1 := G13.out.1.1 k e.symm
  have h2 := hk.2
  have h3 := Q99.out
  have h4 := h1.1
  omega
 have h1 := G12.out.1.1 k e.symm
 have h2 := hk.1
 have h3 := Q99.out
 have h4 := h1.2
 omega
def za5.l0 : Nat → List (S26) → List (S31) → Int → Option ((List (S31)))
 | 0, _, _, _ => none
 | k + 1, x0, x3, x4 => if x4 < (x0.length : Int) then (if 0 ≤ x4 then ((laws_toLocale.f k ((zaA x0 x4).f0) ((zaA x0 x4).f1) ((zaA x0 x4).f2) ((zaA x0 x4).f3) ((zaA x0 x4).f4) ((zaA x0 x4).f5) ((zaA x0 x4).f6) ((zaA x0 x4).f7) ((zaA x0 x4).f8) ((zaA x0 x4).f9) ((zaA x0 x4).f10) ((zaA x0 x4).f11) ((zaA x0 x4).f12) ((zaA x0 x4).f13) ((zaA x0 x4).f14)).bind fun bt305 => (if x4 < (x3.length : Int) then (za5.l0 k x0 (x3.set (x4 : Int).toNat (⟨bt305.1, bt305.2.1, bt305.2.2.1, bt305.2.2.2.1, bt305.2.2.2.2.1, bt305.2.2.2.2.2.1, bt305.2.2.2.2.2.2.1, bt305.2.2.2.2.2.2.2.1, bt305.2.2.2.2.2.2.2.2.1, bt305.2.2.2.2.2.2.2.2.2.1, bt305.2.2.2.2.2.2.2.2.2.2.1, bt305.2.2.2.2.2.2.2.2.2.2.2.1, bt305.2.2.2.2.2.2.2.2.2.2.2.2.1, bt305.2.2.2.2.2.2.2.2.2.2.2.2.2.1, bt305.2.2.2.2.2.2.2.2.2.2.2.2.2.2⟩ : S31)) (wrap64 (x4 + 1))) else (none))) else (none)) else (some x3)
def za5.f (k : Nat) (l0 : List (S26)) : Option ((List (S31))) := if 0 ≤ (l0.length : Int) then (if ((l0.length : Int) : Int).toNat ≤ 1066193093600 then (za5.l0 k l0 (List.replicate ((l0.length : Int) : Int).toNat z31) 0) else (none)) else (none)
set_option maxHeartbeats 8000000 in
set_option maxRecDepth 100000 in
theorem za5.calls (k : Nat) (A0 : Option Addr) (c0 : Nat) (l0 : List (S26)) (r : List (S31)) (w : World) (hr0 : Kd.C k26 w A0 l0.length l0) (hc0 : l0.length ≤ c0) (h : za5.f k l0 = some r) :
  Calls Tryz.prog 15 #[.slice A0 l0.length c0] w fun e w' => ∃ v0_ : Value, e = .returned (v0_) ∧ Kd.S k31 31 w' w.heap.size (fun _ => True) v0_ r ∧ Below w.heap.size w w' := by
 have hu26 := Tryz.underlying26
 have hu31 := Tryz.underlying31
 have HR0 := zaa.mk hr0; have HC0 := zaa.mk hc0; clear hr0 hc0
 have HB := zaa.mk (Below.refl w.heap.size w)
 have H : (if 0 ≤ (l0.length : Int) then (if ((l0.length : Int) : Int).toNat ≤ 1066193093600 then (za5.l0 k l0 (List.replicate ((l0.length : Int) : Int).toNat z31) 0) else (none)) else (none)) = some r := h
 clear h
 by_cases c2 : 0 ≤ (l0.length : Int)
 ·rw [if_pos c2] at H
  have c2b0 := eq_true c2
  have c2b1 : decide (0 ≤ (l0.length : Int)) = true := decide_eq_true c2
  clear c2
  by_cases c3 : ((l0.length : Int) : Int).toNat ≤ 1066193093600
  ·rw [if_pos c3] at H
   have c3b0 := eq_true c3
   have c3b1 : decide (((l0.length : Int) : Int).toNat ≤ 1066193093600) = true := decide_eq_true c3
   clear c3
   obtain ⟨y301, hy301⟩ : ∃ y_ : List (S31), y_ = (List.replicate ((l0.length : Int) : Int).toNat z31) := ⟨_, rfl⟩
   replace H : (za5.l0 k l0 y301 0) = some r := by first | (rw [hy301]; with_reducible exact H) | (have H2_ := (Option.bind_some _ _).symm.trans H; rw [hy301]; with_reducible exact H2_) | (have H2_ := (Option.bind_some _ _).symm.trans H; with_reducible exact H2_) | with_reducible exact H | (rw [hy301]; exact H) | exact H
   have Ny301 := zaa.mk hy301; clear hy301; have H' := zaa.mk H; clear H
   go_enter Tryz.func15, Tryz.ntmps15
   go_wp2_with (first | ((with_reducible refine zaU (N := 7) rfl ?_); refine Kd.S_make k31 _ 31 rfl (N := 7) rfl 38 _ _ rfl (l0.length : Int) rfl rfl Tryz.underlying38 (.agg #[(.string ⟨#[]⟩), (.string ⟨#[]⟩), (.string ⟨#[]⟩), (.string ⟨#[]⟩), (.string ⟨#[]⟩), (.slice none 0 0), (.int .i64 0), (.slice none 0 0), (.string ⟨#[]⟩), (.string ⟨#[]⟩), (.string ⟨#[]⟩), (.string ⟨#[]⟩), (.slice none 0 0), (.slice none 0 0), (.string ⟨#[]⟩)]) 264 info31 rfl yq38 yq9 z31 (ok := fun _ => True) (okp := fun _ => True) (k31_mkM _ _ _ z31 (Kd.R_nil _ _ _ _ _) (Kd.R_nil _ _ _ _ _) (Kd.R_nil _ _ _ _ _) (Kd.R_nil _ _ _ _ _)) (fun _ hk => hk) trivial (of_decide_eq_true yq1) (Nat.le_trans (Nat.mul_le_mul_right _ (of_decide_eq_true yq1 : (l0.length : Int).toNat ≤ 1066193093600)) yq9) (Below.refl _ _) (Nat.le_refl _) ?_; intro v302 w4 ho5 hb hg_ hnew_; clear hg_ hnew_; (first | rw [← Ny301.out] at ho5 | (simp only [Int.reduceToNat] at ho5; rw [← Ny301.out] at ho5)); have n0_ := zaa.mk (Kd.S_lower ho5 (zaq (yq0 HB.out))); have n1_ := zaa.mk (zam (yq0 HB.out) hb); clear HB; have HO303 := n0_; have HB := n1_; clear n0_ n1_ hb ho5))
   go_loopg [4] k (fun kq v4 w' => ∃ (x3_1 : List (S31)) (x4_1 : Int), v4 = .int .i64 x4_1 ∧ zaa (za5.l0 kq l0 x3_1 x4_1 = some r) ∧ zaa (kq ≤ k) ∧ zaa (Kd.S k31 31 w' w.heap.size (fun _ => True) v302 x3_1) ∧ zaa (Below w.heap.size w w'))
   case atStart => exact ⟨(y301), (0), yq3, H', ⟨Nat.le_refl _⟩, ⟨yq40 HO303.out⟩, ⟨yq0 HB.out⟩⟩
   case round =>
    clear H'
    try clear c2b0
    try clear c2b1
    try clear c3b0
    try clear c3b1
    obtain ⟨x3_1, x4_1, rfl, HA, HK1, HO_3, HB⟩ := hrel
    cases gk with
    | zero => exact absurd HA.out (by simp [za5.l0])
    | succ k1 =>
     have H := HA.out; clear HA
     simp only [za5.l0] at H
     by_cases c6 : x4_1 < (l0.length : Int)
     ·rw [if_pos c6] at H
      have c6b0 : decide (x4_1 < (l0.length : Int)) = true := decide_eq_true c6
      clear c6
      by_cases c7 : 0 ≤ x4_1
      ·rw [if_pos c7] at H
       have c7b0 : decide (0 ≤ x4_1) = true := decide_eq_true c7
       clear c7; replace H := Option.bind_eq_some_iff.mp H
       obtain ⟨⟨t305, t306, t307, t308, t309, t310, t313, t314, t317, t318, t319, t320, t321, t324, t327⟩, A80, H⟩ := H
       replace H : (if x4_1 < (x3_1.length : Int) then (za5.l0 k1 l0 (x3_1.set (x4_1 : Int).toNat (⟨t305, t306, t307, t308, t309, t310, t313, t314, t317, t318, t319, t320, t321, t324, t327⟩ : S31)) (wrap64 (x4_1 + 1))) else (none)) = some r := H
       have A8 := zaa.mk A80; clear A80
       by_cases c9 : x4_1 < (x3_1.length : Int)
       ·rw [if_pos c9] at H
        have c9b0 : decide (x4_1 < (x3_1.length : Int)) = true := decide_eq_true c9
        clear c9
        obtain ⟨y328, hy328⟩ : ∃ y_ : List (S31), y_ = (x3_1.set (x4_1 : Int).toNat (⟨t305, t306, t307, t308, t309, t310, t313, t314, t317, t318, t319, t320, t321, t324, t327⟩ : S31)) := ⟨_, rfl⟩
        replace H : (za5.l0 k1 l0 y328 (wrap64 (x4_1 + 1))) = some r := by first | (rw [hy328]; with_reducible exact H) | (have H2_ := (Option.bind_some _ _).symm.trans H; rw [hy328]; with_reducible exact H2_) | (have H2_ := (Option.bind_some _ _).symm.trans H; with_reducible exact H2_) | with_reducible exact H | (rw [hy328]; exact H) | exact H
        have Ny328 := zaa.mk hy328; clear hy328; have H' := zaa.mk H; clear H
        have p304 : 0 ≤ (x4_1 : Int) := of_decide_eq_true yq1
        have q304 : x4_1 < (l0.length : Int) := of_decide_eq_true yq1
        obtain ⟨ad304, A304_5, c304_5, A304_7, c304_7, A304_12, c304_12, A304_13, c304_13, e304, hx304_0, hx304_1, hx304_2, hx304_3, hx304_4, hx304_5, hx304_6, hx304_7, hx304_8, hx304_9, hx304_10, hx304_11, hx304_12, hx304_13, hx304_14, hl304_5, hi304_5, hl304_7, hi304_7, hl304_12, hi304_12, hl304_13, hi304_13⟩ := at_T26 HR0.out x4_1 p304 q304
        cases e304
        replace hx304_0 := (HB.out.cell (World.block_lt_of_cell? w _ hx304_0)).trans hx304_0
        replace hx304_1 := (HB.out.cell (World.block_lt_of_cell? w _ hx304_1)).trans hx304_1
        replace hx304_2 := (HB.out.cell (World.block_lt_of_cell? w _ hx304_2)).trans hx304_2
        replace hx304_3 := (HB.out.cell (World.block_lt_of_cell? w _ hx304_3)).trans hx304_3
        replace hx304_4 := (HB.out.cell (World.block_lt_of_cell? w _ hx304_4)).trans hx304_4
        replace hx304_5 := (HB.out.cell (World.block_lt_of_cell? w _ hx304_5)).trans hx304_5
        replace hx304_6 := (HB.out.cell (World.block_lt_of_cell? w _ hx304_6)).trans hx304_6
        replace hx304_7 := (HB.out.cell (World.block_lt_of_cell? w _ hx304_7)).trans hx304_7
        replace hx304_8 := (HB.out.cell (World.block_lt_of_cell? w _ hx304_8)).trans hx304_8
        replace hx304_9 := (HB.out.cell (World.block_lt_of_cell? w _ hx304_9)).trans hx304_9
        replace hx304_10 := (HB.out.cell (World.block_lt_of_cell? w _ hx304_10)).trans hx304_10
        replace hx304_11 := (HB.out.cell (World.block_lt_of_cell? w _ hx304_11)).trans hx304_11
        replace hx304_12 := (HB.out.cell (World.block_lt_of_cell? w _ hx304_12)).trans hx304_12
        replace hx304_13 := (HB.out.cell (World.block_lt_of_cell? w _ hx304_13)).trans hx304_13
        replace hx304_14 := (HB.out.cell (World.block_lt_of_cell? w _ hx304_14)).trans hx304_14
        have HR304_5 := zaa.mk hi304_5; have HC304_5 := zaa.mk hl304_5; clear hi304_5 hl304_5; have HR304_7 := zaa.mk hi304_7; have HC304_7 := zaa.mk hl304_7; clear hi304_7 hl304_7; have HR304_12 := zaa.mk hi304_12; have HC304_12 := zaa.mk hl304_12; clear hi304_12 hl304_12; have HR304_13 := zaa.mk hi304_13; have HC304_13 := zaa.mk hl304_13; clear hi304_13 hl304_13
        replace p304 := eq_true p304
        replace q304 := eq_true q304
        go_wp2_with (first | ((with_reducible refine zaD (f := 10) rfl ?_); refine zbr (some 20) rfl rfl Tryz.func10 yq10 rfl #[.agg #[.string ((zaA l0 x4_1).f0), .string ((zaA l0 x4_1).f1), .string ((zaA l0 x4_1).f2), .string ((zaA l0 x4_1).f3), .string ((zaA l0 x4_1).f4), .slice A304_5 ((zaA l0 x4_1).f5).length c304_5, .int .i64 ((zaA l0 x4_1).f6), .slice A304_7 ((zaA l0 x4_1).f7).length c304_7, .string ((zaA l0 x4_1).f8), .string ((zaA l0 x4_1).f9), .string ((zaA l0 x4_1).f10), .string ((zaA l0 x4_1).f11), .slice A304_12 ((zaA l0 x4_1).f12).length c304_12, .slice A304_13 ((zaA l0 x4_1).f13).length c304_13, .string ((zaA l0 x4_1).f14)]] rfl yq2 ?_; (with_reducible refine (laws_toLocale.calls k1 ((zaA l0 x4_1).f0) ((zaA l0 x4_1).f1) ((zaA l0 x4_1).f2) ((zaA l0 x4_1).f3) ((zaA l0 x4_1).f4) _ _ ((zaA l0 x4_1).f5) ((zaA l0 x4_1).f6) _ _ ((zaA l0 x4_1).f7) ((zaA l0 x4_1).f8) ((zaA l0 x4_1).f9) ((zaA l0 x4_1).f10) ((zaA l0 x4_1).f11) _ _ ((zaA l0 x4_1).f12) _ _ ((zaA l0 x4_1).f13) ((zaA l0 x4_1).f14) t305 t306 t307 t308 t309 t310 t313 t314 t317 t318 t319 t320 t321 t324 t327 _ ?side1 ?side2 ?side3 ?side4 ?side5 ?side6 ?side7 ?side8 A8.out).mono ?_); (case side1 => repeat (first | exact (Kd.zaS HR304_5.out HB.out) | (with_reducible refine Kd.C_alloc ?_ _) | (with_reducible refine Kd.C_drewN ?_ _) | (with_reducible refine Kd.C_drew ?_))); (case side2 => exact HC304_5.out); (case side3 => repeat (first | exact (Kd.zaS HR304_7.out HB.out) | (with_reducible refine Kd.C_alloc ?_ _) | (with_reducible refine Kd.C_drewN ?_ _) | (with_reducible refine Kd.C_drew ?_))); (case side4 => exact HC304_7.out); (case side5 => repeat (first | exact (Kd.zaS HR304_12.out HB.out) | (with_reducible refine Kd.C_alloc ?_ _) | (with_reducible refine Kd.C_drewN ?_ _) | (with_reducible refine Kd.C_drew ?_))); (case side6 => exact HC304_12.out); (case side7 => repeat (first | exact (Kd.zaS HR304_13.out HB.out) | (with_reducible refine Kd.C_alloc ?_ _) | (with_reducible refine Kd.C_drewN ?_ _) | (with_reducible refine Kd.C_drew ?_))); (case side8 => exact HC304_13.out); rintro e w11 ⟨v311, v315, v322, v325, rfl, ho0, ho1, ho2, ho3, hb⟩; obtain ⟨AA311, cc311, ee311, _, _⟩ := Kd.R_reads ho0; subst ee311; obtain ⟨AA315, cc315, ee315, _, _⟩ := Kd.R_reads ho1; subst ee315; obtain ⟨AA322, cc322, ee322, _, _⟩ := Kd.R_reads ho2; subst ee322; obtain ⟨AA325, cc325, ee325, _, _⟩ := Kd.R_reads ho3; subst ee325; refine ⟨_, rfl, ?_⟩; have n0_ := zaa.mk (Kd.S_mono (Kd.S_told (Kd.S_told (Kd.S_told (Kd.S_told (Kd.S_old (yq40 HO_3.out) hb) (Kd.R_base ho0)) (Kd.R_base ho1)) (Kd.R_base ho2)) (Kd.R_base ho3)) (fun _ h_ => h_.1)); have n1_ := zaa.mk (Kd.R_lower ho0 (zaq (yq0 HB.out))); have n2_ := zaa.mk (Kd.R_lower ho1 (zaq (yq0 HB.out))); have n3_ := zaa.mk (Kd.R_lower ho2 (zaq (yq0 HB.out))); have n4_ := zaa.mk (Kd.R_lower ho3 (zaq (yq0 HB.out))); have n5_ := zaa.mk (zam (yq0 HB.out) hb); clear HO_3 HB; have HO_3 := n0_; have HO312 := n1_; have HO316 := n2_; have HO323 := n3_; have HO326 := n4_; have HB := n5_; clear n0_ n1_ n2_ n3_ n4_ n5_; (try clear hb); (try clear hb2); (try clear hk); (try clear hi); (try clear ho0); (try clear ho1); (try clear ho2); (try clear ho3); have p10 : 0 ≤ (x4_1 : Int) := of_decide_eq_true yq1; have q10 : (x4_1 : Int) < ((x3_1.length : Int) : Int) := of_decide_eq_true yq1; obtain ⟨go10, co10, eo10, gb10, gl10, cl10, HG10⟩ := Kd.S_form HO_3.out yq9; (first | cases eo10 | (injection eo10 with ea_ en_ ec_; (first | subst ea_ | (injection ea_ with ea_; subst ea_)); subst ec_; clear en_)); have GB10 := zaa.mk gb10; have GG10 := zaa.mk HG10; clear gb10 gl10 HG10; obtain ⟨_, ce10, hcl10, hM10, hcc10, hfr10, _, _⟩ := Kd.S_elem HO_3.out z31 (x4_1 : Int) p10 q10; obtain ⟨ve10_5, ve10_7, ve10_12, ve10_13, rfl, ge10_5, ge10_7, ge10_12, ge10_13⟩ := k31_openM hM10; have hx10_0 : w11.cell? ⟨go10, (x4_1 : Int).toNat * 15, none⟩ = some (.string ((zao x3_1 x4_1).f0)) := hcc10 0 _ rfl; have hx10_1 : w11.cell? ⟨go10, (x4_1 : Int).toNat * 15 + 1, none⟩ = some (.string ((zao x3_1 x4_1).f1)) := hcc10 1 _ rfl; have hx10_2 : w11.cell? ⟨go10, (x4_1 : Int).toNat * 15 + 2, none⟩ = some (.string ((zao x3_1 x4_1).f2)) := hcc10 2 _ rfl; have hx10_3 : w11.cell? ⟨go10, (x4_1 : Int).toNat * 15 + 3, none⟩ = some (.string ((zao x3_1 x4_1).f3)) := hcc10 3 _ rfl; have hx10_4 : w11.cell? ⟨go10, (x4_1 : Int).toNat * 15 + 4, none⟩ = some (.string ((zao x3_1 x4_1).f4)) := hcc10 4 _ rfl; have hx10_5 : w11.cell? ⟨go10, (x4_1 : Int).toNat * 15 + 5, none⟩ = some (ve10_5) := hcc10 5 _ rfl; have hx10_6 : w11.cell? ⟨go10, (x4_1 : Int).toNat * 15 + 6, none⟩ = some (.int .i64 ((zao x3_1 x4_1).f6)) := hcc10 6 _ rfl; have hx10_7 : w11.cell? ⟨go10, (x4_1 : Int).toNat * 15 + 7, none⟩ = some (ve10_7) := hcc10 7 _ rfl; have hx10_8 : w11.cell? ⟨go10, (x4_1 : Int).toNat * 15 + 8, none⟩ = some (.string ((zao x3_1 x4_1).f8)) := hcc10 8 _ rfl; have hx10_9 : w11.cell? ⟨go10, (x4_1 : Int).toNat * 15 + 9, none⟩ = some (.string ((zao x3_1 x4_1).f9)) := hcc10 9 _ rfl; have hx10_10 : w11.cell? ⟨go10, (x4_1 : Int).toNat * 15 + 10, none⟩ = some (.string ((zao x3_1 x4_1).f10)) := hcc10 10 _ rfl; have hx10_11 : w11.cell? ⟨go10, (x4_1 : Int).toNat * 15 + 11, none⟩ = some (.string ((zao x3_1 x4_1).f11)) := hcc10 11 _ rfl; have hx10_12 : w11.cell? ⟨go10, (x4_1 : Int).toNat * 15 + 12, none⟩ = some (ve10_12) := hcc10 12 _ rfl; have hx10_13 : w11.cell? ⟨go10, (x4_1 : Int).toNat * 15 + 13, none⟩ = some (ve10_13) := hcc10 13 _ rfl; have hx10_14 : w11.cell? ⟨go10, (x4_1 : Int).toNat * 15 + 14, none⟩ = some (.string ((zao x3_1 x4_1).f14)) := hcc10 14 _ rfl; have hf10_0 : w11.frozen? ⟨go10, (x4_1 : Int).toNat * 15, none⟩ = false := hfr10 0; have hf10_1 : w11.frozen? ⟨go10, (x4_1 : Int).toNat * 15 + 1, none⟩ = false := hfr10 1; have hf10_2 : w11.frozen? ⟨go10, (x4_1 : Int).toNat * 15 + 2, none⟩ = false := hfr10 2; have hf10_3 : w11.frozen? ⟨go10, (x4_1 : Int).toNat * 15 + 3, none⟩ = false := hfr10 3; have hf10_4 : w11.frozen? ⟨go10, (x4_1 : Int).toNat * 15 + 4, none⟩ = false := hfr10 4; have hf10_5 : w11.frozen? ⟨go10, (x4_1 : Int).toNat * 15 + 5, none⟩ = false := hfr10 5; have hf10_6 : w11.frozen? ⟨go10, (x4_1 : Int).toNat * 15 + 6, none⟩ = false := hfr10 6; have hf10_7 : w11.frozen? ⟨go10, (x4_1 : Int).toNat * 15 + 7, none⟩ = false := hfr10 7; have hf10_8 : w11.frozen? ⟨go10, (x4_1 : Int).toNat * 15 + 8, none⟩ = false := hfr10 8; have hf10_9 : w11.frozen? ⟨go10, (x4_1 : Int).toNat * 15 + 9, none⟩ = false := hfr10 9; have hf10_10 : w11.frozen? ⟨go10, (x4_1 : Int).toNat * 15 + 10, none⟩ = false := hfr10 10; have hf10_11 : w11.frozen? ⟨go10, (x4_1 : Int).toNat * 15 + 11, none⟩ = false := hfr10 11; have hf10_12 : w11.frozen? ⟨go10, (x4_1 : Int).toNat * 15 + 12, none⟩ = false := hfr10 12; have hf10_13 : w11.frozen? ⟨go10, (x4_1 : Int).toNat * 15 + 13, none⟩ = false := hfr10 13; have hf10_14 : w11.frozen? ⟨go10, (x4_1 : Int).toNat * 15 + 14, none⟩ = false := hfr10 14; clear hcl10 hcc10 hfr10 hM10; replace p10 := eq_true p10; replace q10 := eq_true q10; have n_ := zaa.mk (Kd.S_mono (ok' := (fun k_ => some k_ ≠ (.slice AA311 t310.length cc311 : Value).ownBlock ∧ some k_ ≠ (.slice AA315 t314.length cc315 : Value).ownBlock ∧ some k_ ≠ (.slice AA322 t321.length cc322 : Value).ownBlock ∧ some k_ ≠ (.slice AA325 t324.length cc325 : Value).ownBlock)) HO_3.out (fun k_ hk => ⟨hk.1.1.1.2, ⟨hk.1.1.2, ⟨hk.1.2, hk.2⟩⟩⟩)); clear HO_3; have HO_3 := n_; clear n_; have HX12 := zaa.mk (show Kd.S k31 31 w11 w.heap.size (fun k_ => ((fun _ => True)) k_ ∧ ¬ ((fun k_ => some k_ = (.slice AA311 t310.length cc311 : Value).ownBlock ∨ some k_ = (.slice AA315 t314.length cc315 : Value).ownBlock ∨ some k_ = (.slice AA322 t321.length cc322 : Value).ownBlock ∨ some k_ = (.slice AA325 t324.length cc325 : Value).ownBlock)) k_) (.slice (some ⟨go10, 0, none⟩) x3_1.length co10) x3_1 from (by (with_reducible repeat (first | apply Kd.S_alloc | apply Kd.S_drewN | apply Kd.S_drew)); exact Kd.S_mono HO_3.out (fun k_ hk => ⟨trivial, fun e_ => e_.elim (fun h_ => hk.1 h_) (fun h_ => h_.elim (fun h_ => hk.2.1 h_) (fun h_ => h_.elim (fun h_ => hk.2.2.1 h_) (fun h_ => hk.2.2.2 h_)))⟩))); obtain ⟨oki12, ce12, hcl12, hM12, hcc12, hfr12, hoki12, hH12⟩ := Kd.S_elem HX12.out z31 (x4_1 : Int) (of_decide_eq_true yq1) (by have h_ : (x4_1 : Int) < ((x3_1.length : Int) : Int) := of_decide_eq_true yq1; first | exact h_ | (have e_ := (Kd.S_reads' HO_3.out).1; omega) | simpa using h_); obtain ⟨ve12_5, ve12_7, ve12_12, ve12_13, rfl, ge12_5, ge12_7, ge12_12, ge12_13⟩ := k31_openM hM12; have HP12 := Kd.S_seg hH12 (of_decide_eq_true yq1) (by have h_ : (x4_1 : Int) < ((x3_1.length : Int) : Int) := of_decide_eq_true yq1; first | exact h_ | (have e_ := (Kd.S_reads' HO_3.out).1; omega) | simpa using h_) (seg := [.string t305, .string t306, .string t307, .string t308, .string t309, (.slice AA311 t310.length cc311), .int .i64 t313, (.slice AA315 t314.length cc315), .string t317, .string t318, .string t319, .string t320, (.slice AA322 t321.length cc322), (.slice AA325 t324.length cc325), .string t327]) (j := 0) (show 15 ≤ 15 from by decide) (x' := (⟨t305, t306, t307, t308, t309, t310, t313, t314, t317, t318, t319, t320, t321, t324, t327⟩ : S31)) (k31_mkM _ _ _ (⟨t305, t306, t307, t308, t309, t310, t313, t314, t317, t318, t319, t320, t321, t324, t327⟩ : S31) (Kd.R_mono (Kd.R_tight rfl (Kd.R_mono (ok' := fun k_ => ((fun _ => True)) k_ ∧ k_ ≠ go10) (Kd.R_apart' (HO312.out) (Kd.S_typed HO_3.out) yq38) (fun k_ hk => ⟨trivial, fun e_ => (hk.2) (by rw [e_]; rfl)⟩))) (fun _ h_ => Or.inr (Or.inl h_))) (Kd.R_mono (Kd.R_tight rfl (Kd.R_mono (ok' := fun k_ => ((fun _ => True)) k_ ∧ k_ ≠ go10) (Kd.R_apart' (HO316.out) (Kd.S_typed HO_3.out) yq38) (fun k_ hk => ⟨trivial, fun e_ => (hk.2) (by rw [e_]; rfl)⟩))) (fun _ h_ => Or.inr (Or.inr (Or.inl h_)))) (Kd.R_mono (Kd.R_tight rfl (Kd.R_mono (ok' := fun k_ => ((fun _ => True)) k_ ∧ k_ ≠ go10) (Kd.R_apart' (HO323.out) (Kd.S_typed HO_3.out) yq38) (fun k_ hk => ⟨trivial, fun e_ => (hk.2) (by rw [e_]; rfl)⟩))) (fun _ h_ => Or.inr (Or.inr (Or.inr (Or.inl h_))))) (Kd.R_mono (Kd.R_tight rfl (Kd.R_mono (ok' := fun k_ => ((fun _ => True)) k_ ∧ k_ ≠ go10) (Kd.R_apart' (HO326.out) (Kd.S_typed HO_3.out) yq38) (fun k_ hk => ⟨trivial, fun e_ => (hk.2) (by rw [e_]; rfl)⟩))) (fun _ h_ => Or.inr (Or.inr (Or.inr (Or.inr (h_))))))) (fun _ hk => hk) (fun k_ hk_ => hk_.elim (fun h_ => ((Kd.R_mono (ok' := fun k_ => ((fun _ => True)) k_ ∧ k_ ≠ go10) (Kd.R_apart' (HO312.out) (Kd.S_typed HO_3.out) yq38) (fun k_ hk => ⟨trivial, fun e_ => (hk.2) (by rw [e_]; rfl)⟩))).1 k_ h_.symm) (fun h_ => h_.elim (fun h_ => ((Kd.R_mono (ok' := fun k_ => ((fun _ => True)) k_ ∧ k_ ≠ go10) (Kd.R_apart' (HO316.out) (Kd.S_typed HO_3.out) yq38) (fun k_ hk => ⟨trivial, fun e_ => (hk.2) (by rw [e_]; rfl)⟩))).1 k_ h_.symm) (fun h_ => h_.elim (fun h_ => ((Kd.R_mono (ok' := fun k_ => ((fun _ => True)) k_ ∧ k_ ≠ go10) (Kd.R_apart' (HO323.out) (Kd.S_typed HO_3.out) yq38) (fun k_ hk => ⟨trivial, fun e_ => (hk.2) (by rw [e_]; rfl)⟩))).1 k_ h_.symm) (fun h_ => ((Kd.R_mono (ok' := fun k_ => ((fun _ => True)) k_ ∧ k_ ≠ go10) (Kd.R_apart' (HO326.out) (Kd.S_typed HO_3.out) yq38) (fun k_ hk => ⟨trivial, fun e_ => (hk.2) (by rw [e_]; rfl)⟩))).1 k_ h_.symm)))); have hx12_0 := hcc12 0 _ rfl; (try simp only [show (k31).sz = 15 from rfl, Nat.mul_one, Nat.add_zero] at hx12_0); have hf12_0 := hfr12 0; (try simp only [show (k31).sz = 15 from rfl, Nat.mul_one, Nat.add_zero] at hf12_0); have hx12_1 := hcc12 1 _ rfl; (try simp only [show (k31).sz = 15 from rfl, Nat.mul_one, Nat.add_zero] at hx12_1); have hf12_1 := hfr12 1; (try simp only [show (k31).sz = 15 from rfl, Nat.mul_one, Nat.add_zero] at hf12_1); have hx12_2 := hcc12 2 _ rfl; (try simp only [show (k31).sz = 15 from rfl, Nat.mul_one, Nat.add_zero] at hx12_2); have hf12_2 := hfr12 2; (try simp only [show (k31).sz = 15 from rfl, Nat.mul_one, Nat.add_zero] at hf12_2); have hx12_3 := hcc12 3 _ rfl; (try simp only [show (k31).sz = 15 from rfl, Nat.mul_one, Nat.add_zero] at hx12_3); have hf12_3 := hfr12 3; (try simp only [show (k31).sz = 15 from rfl, Nat.mul_one, Nat.add_zero] at hf12_3); have hx12_4 := hcc12 4 _ rfl; (try simp only [show (k31).sz = 15 from rfl, Nat.mul_one, Nat.add_zero] at hx12_4); have hf12_4 := hfr12 4; (try simp only [show (k31).sz = 15 from rfl, Nat.mul_one, Nat.add_zero] at hf12_4); have hx12_5 := hcc12 5 _ rfl; (try simp only [show (k31).sz = 15 from rfl, Nat.mul_one, Nat.add_zero] at hx12_5); have hf12_5 := hfr12 5; (try simp only [show (k31).sz = 15 from rfl, Nat.mul_one, Nat.add_zero] at hf12_5); have hx12_6 := hcc12 6 _ rfl; (try simp only [show (k31).sz = 15 from rfl, Nat.mul_one, Nat.add_zero] at hx12_6); have hf12_6 := hfr12 6; (try simp only [show (k31).sz = 15 from rfl, Nat.mul_one, Nat.add_zero] at hf12_6); have hx12_7 := hcc12 7 _ rfl; (try simp only [show (k31).sz = 15 from rfl, Nat.mul_one, Nat.add_zero] at hx12_7); have hf12_7 := hfr12 7; (try simp only [show (k31).sz = 15 from rfl, Nat.mul_one, Nat.add_zero] at hf12_7); have hx12_8 := hcc12 8 _ rfl; (try simp only [show (k31).sz = 15 from rfl, Nat.mul_one, Nat.add_zero] at hx12_8); have hf12_8 := hfr12 8; (try simp only [show (k31).sz = 15 from rfl, Nat.mul_one, Nat.add_zero] at hf12_8); have hx12_9 := hcc12 9 _ rfl; (try simp only [show (k31).sz = 15 from rfl, Nat.mul_one, Nat.add_zero] at hx12_9); have hf12_9 := hfr12 9; (try simp only [show (k31).sz = 15 from rfl, Nat.mul_one, Nat.add_zero] at hf12_9); have hx12_10 := hcc12 10 _ rfl; (try simp only [show (k31).sz = 15 from rfl, Nat.mul_one, Nat.add_zero] at hx12_10); have hf12_10 := hfr12 10; (try simp only [show (k31).sz = 15 from rfl, Nat.mul_one, Nat.add_zero] at hf12_10); have hx12_11 := hcc12 11 _ rfl; (try simp only [show (k31).sz = 15 from rfl, Nat.mul_one, Nat.add_zero] at hx12_11); have hf12_11 := hfr12 11; (try simp only [show (k31).sz = 15 from rfl, Nat.mul_one, Nat.add_zero] at hf12_11); have hx12_12 := hcc12 12 _ rfl; (try simp only [show (k31).sz = 15 from rfl, Nat.mul_one, Nat.add_zero] at hx12_12); have hf12_12 := hfr12 12; (try simp only [show (k31).sz = 15 from rfl, Nat.mul_one, Nat.add_zero] at hf12_12); have hx12_13 := hcc12 13 _ rfl; (try simp only [show (k31).sz = 15 from rfl, Nat.mul_one, Nat.add_zero] at hx12_13); have hf12_13 := hfr12 13; (try simp only [show (k31).sz = 15 from rfl, Nat.mul_one, Nat.add_zero] at hf12_13); have hx12_14 := hcc12 14 _ rfl; (try simp only [show (k31).sz = 15 from rfl, Nat.mul_one, Nat.add_zero] at hx12_14); have hf12_14 := hfr12 14; (try simp only [show (k31).sz = 15 from rfl, Nat.mul_one, Nat.add_zero] at hf12_14); clear hcl12 hcc12 hfr12 hM12 hoki12 hH12) | ((with_reducible refine gate_store (t := 31) (p := 21) rfl ?_); refine store_event (t := 31) (p := 21) (v := ?vo_w13) (w1 := (((((((((((((((w11.setCell ⟨go10, (x4_1 : Int).toNat * 15, none⟩ (.string t305)).setCell ⟨go10, (x4_1 : Int).toNat * 15 + 1, none⟩ (.string t306)).setCell ⟨go10, (x4_1 : Int).toNat * 15 + 2, none⟩ (.string t307)).setCell ⟨go10, (x4_1 : Int).toNat * 15 + 3, none⟩ (.string t308)).setCell ⟨go10, (x4_1 : Int).toNat * 15 + 4, none⟩ (.string t309)).setCell ⟨go10, (x4_1 : Int).toNat * 15 + 5, none⟩ ((.slice AA311 t310.length cc311))).setCell ⟨go10, (x4_1 : Int).toNat * 15 + 6, none⟩ (.int .i64 t313)).setCell ⟨go10, (x4_1 : Int).toNat * 15 + 7, none⟩ ((.slice AA315 t314.length cc315))).setCell ⟨go10, (x4_1 : Int).toNat * 15 + 8, none⟩ (.string t317)).setCell ⟨go10, (x4_1 : Int).toNat * 15 + 9, none⟩ (.string t318)).setCell ⟨go10, (x4_1 : Int).toNat * 15 + 10, none⟩ (.string t319)).setCell ⟨go10, (x4_1 : Int).toNat * 15 + 11, none⟩ (.string t320)).setCell ⟨go10, (x4_1 : Int).toNat * 15 + 12, none⟩ ((.slice AA322 t321.length cc322))).setCell ⟨go10, (x4_1 : Int).toNat * 15 + 13, none⟩ ((.slice AA325 t324.length cc325))).setCell ⟨go10, (x4_1 : Int).toNat * 15 + 14, none⟩ (.string t327))) ?hg ?ho ?hn ?hr ?_; (case ho => rfl); (case hg => rfl); (case hn => rfl); (case hr => first | (go_simp; done) | (go_simp; rfl)); intro w13 hw; have hg : w11.grownBy w13 (some go10) := (by rw [hw]; exact HP12.2); have hp_ : Kd.S k31 31 w13 w.heap.size (fun _ => True) (.slice (some ⟨go10, 0, none⟩) x3_1.length co10) y328 := (by rw [hw, Ny328.out]; exact HP12.1); clear HP12; have n0_ := zaa.mk (hp_); have n1_ := zaa.mk ((by rw [hw]; exact zai (zai (zai (zai (zai (zai (zai (zai (zai (zai (zai (zai (zai (zai (zai (HB.out) GB10.out) GB10.out) GB10.out) GB10.out) GB10.out) GB10.out) GB10.out) GB10.out) GB10.out) GB10.out) GB10.out) GB10.out) GB10.out) GB10.out) GB10.out : Below w.heap.size w w13)); clear HO_3 HB HO312 HO316 HO323 HO326; have HO_3 := n0_; have HB := n1_; clear n0_ n1_ hg hw hp_))
        go_roundg k1
        case measure => have := HK1.out; omega
        case rel => exact ⟨(y328), (wrap64 (x4_1 + 1)), yq3, H', ⟨yq15 HK1.out⟩, ⟨yq40 HO_3.out⟩, ⟨yq0 HB.out⟩⟩
       rw [if_neg c9] at H
       exact absurd H yq21
      rw [if_neg c7] at H
      exact absurd H yq21
     rw [if_neg c6] at H
     have c6b0 : decide (x4_1 < (l0.length : Int)) = false := decide_eq_false c6
     clear c6; obtain rfl := Option.some.inj H
     go_wp2
     go_ret
     exact ⟨_, yq4, yq40 HO_3.out, yq0 HB.out⟩
  rw [if_neg c3] at H
  exact absurd H yq21
 rw [if_neg c2] at H
 exact absurd H yq21
end Go.Proofs.YtfafjbolmeimmaaGreatDoor.P
