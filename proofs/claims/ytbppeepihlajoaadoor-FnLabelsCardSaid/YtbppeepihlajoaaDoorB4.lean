/- Written by a program of this session: plain Lean functions for Go functions, and for each the proof that the call comes to what the function says. -/
import Derived.Test.YtbppeepihlajoaaDoorB0
import Derived.Test.YtbppeepihlajoaaDoorB1
import Derived.Test.YtbppeepihlajoaaDoorB2
import Derived.Test.YtbppeepihlajoaaDoorB3
import Derived.Test.YtbppeepihlajoaaDoorXSn
namespace Go.Proofs.YtbppeepihlajoaaDoor.P
open Go.RowKit Go.Proofs.YtbppeepihlajoaaDoorW.PrintWords Go.Proofs.YtbppeepihlajoaaDoorW.PrintLast Go.Proofs.YtbppeepihlajoaaDoorW.PrintMore
attribute [local go_sem] max2_int min2_int max_two min_two max_three min_three max_four min_four
set_option linter.unusedVariables false
set_option linter.unusedSimpArgs false
def zaI.l0 : Nat → Int → List Int → List Int → Int → Int → Int → Option (ByteArray × Int × Int × Int)
 | 0, _, _, _, _, _, _ => none
 | k + 1, x1, x5, x1000, x1001, x1002, x1003 => if x1 > 0 then ((zal.f k x1000 x1001 x1002 x1003).bind fun bt343 => (if x5.length < 17592186044416 then (zaI.l0 k (wrap64 (x1 - 1)) (x5 ++ [bt343.1]) x1000 bt343.2.1 bt343.2.2.1 bt343.2.2.2) else (none))) else ((zaS.f k x5).bind fun t350 => (some (t350, x1001, x1002, x1003)))
def zaI.f (k : Nat) (s0_0 : List Int) (s0_1 : Int) (s0_2 : Int) (s0_3 : Int) (a1 : Int) : Option (ByteArray × Int × Int × Int) := zaI.l0 k a1 (([] : List Int)) s0_0 s0_1 s0_2 s0_3
set_option maxHeartbeats 8000000 in
set_option maxRecDepth 100000 in
theorem zaI.calls (k : Nat) (g : Nat) (s0_0 : List Int) (s0_1 : Int) (s0_2 : Int) (s0_3 : Int) (a1 : Int) (r1 : ByteArray) (r2 : Int) (r3 : Int) (r4 : Int) (w0 w : World) (hI : zab w0 w g s0_0 s0_1 s0_2 s0_3) (hB : Below w0.heap.size w0 w) (h : zaI.f k s0_0 s0_1 s0_2 s0_3 a1 = some (r1, r2, r3, r4)) :
  Calls Tryd.prog 91 #[.pointer (some ⟨g, 0, none⟩), .int .i64 a1] w fun e w' => e = .returned (.string r1) ∧ zab w0 w' g s0_0 r2 r3 r4 ∧ Below w0.heap.size w0 w' ∧ KeepBut w w' g none := by
 have HI0 := zac.mk hI
 have HK := zac.mk (KeepBut.refl w g none)
 have HL := zac.mk hB.size; clear hI; have HW0 := zac.mk hB.size; have HB := zac.mk hB; clear hB
 have H : (zaI.l0 k a1 (([] : List Int)) s0_0 s0_1 s0_2 s0_3) = some (r1, r2, r3, r4) := h
 clear h
 obtain ⟨y340, hy340⟩ : ∃ y_ : List Int, y_ = (([] : List Int)) := ⟨_, rfl⟩
 replace H : (zaI.l0 k a1 y340 s0_0 s0_1 s0_2 s0_3) = some (r1, r2, r3, r4) := by first | (rw [hy340]; with_reducible exact H) | (have H2_ := (Option.bind_some _ _).symm.trans H; rw [hy340]; with_reducible exact H2_) | (have H2_ := (Option.bind_some _ _).symm.trans H; with_reducible exact H2_) | with_reducible exact H | (rw [hy340]; exact H) | exact H
 have Ny340 := zac.mk hy340; clear hy340; have H' := zac.mk H; clear H
 go_enter Tryd.func91, Tryd.ntmps91
 go_wp2_with (first | ((with_reducible refine zaW (N := 6) rfl ?_); refine Kd.R_lit (Kd.int .i64) _ 2 ?hg (N := 6) ?hd (xs := ([] : List Int)) (inner := []) (ok := fun _ => True) (okp := fun _ => True) ?hr ?hp (fun _ hk => hk) trivial (Below.refl _ _) (Nat.le_refl _) (by simp) ?_; (case hd => rfl); (case hg => rfl); (case hr => first | (go_simp; done) | (go_simp; rfl)); (case hp => exact (Reps.none _ _)); intro v341 w3 ho4 hb hg_ hnew_; clear hg_ hnew_; (first | rw [← Ny340.out] at ho4 | (simp only [Int.reduceToNat] at ho4; rw [← Ny340.out] at ho4)); have n0_ := zac.mk (Kd.R_lower ho4 (keep_size (w := w) (g := g) (row := none) (by repeat (first | (with_reducible first | exact HK.out | apply KeepBut.set_ | apply zah | apply zaj | apply keep_alloc) | exact HK.out)))); have n1_ := zac.mk (zab.below (by repeat (first | (with_reducible first | exact HI0.out | apply zab.alloc | apply zab.drewN | apply zab.drew | apply zab.zaC | apply zab.zaB | apply zab.zaD) | exact HI0.out)) hb); have n2_ := zac.mk (KeepBut.trans (by repeat (first | (with_reducible first | exact HK.out | apply KeepBut.set_ | apply zah | apply zaj | apply keep_alloc) | exact HK.out)) (KeepBut.of_below hb g none) (.inl rfl)); have n3_ := zac.mk (zaw (by repeat (first | (with_reducible first | exact HB.out | apply zae | apply zaa | apply zad | refine zai ?_ (zab.ge HI0.out)) | exact HB.out)) hb); clear HI0 HK HB; have HO342 := n0_; have HI0 := n1_; have HK := n2_; have HB := n3_; clear n0_ n1_ n2_ n3_ hb ho4))
 go_loopg [1, 5] k (fun kq v1 v5 w' => ∃ (x1_1 : Int) (x5_1 : List Int) (x1001_1 : Int) (x1002_1 : Int) (x1003_1 : Int), v1 = .int .i64 x1_1 ∧ zac (zaI.l0 kq x1_1 x5_1 s0_0 x1001_1 x1002_1 x1003_1 = some (r1, r2, r3, r4)) ∧ zac (kq ≤ k) ∧ zac (Kd.R (Kd.int .i64) 2 w' w.heap.size (fun _ => True) v5 x5_1) ∧ zac (zab w0 w' g s0_0 x1001_1 x1002_1 x1003_1) ∧ zac (KeepBut w w' g none) ∧ zac (Below w0.heap.size w0 w'))
 case atStart => exact ⟨(a1), (y340), (s0_1), (s0_2), (s0_3), (by first | rfl | (simp; done) | (simp [*]; done)), H', ⟨Nat.le_refl _⟩, ⟨by (with_reducible repeat (first | apply Kd.zav | apply Kd.zau | apply Kd.R_drew)); exact HO342.out⟩, ⟨by repeat (first | (with_reducible first | exact HI0.out | apply zab.alloc | apply zab.drewN | apply zab.drew | apply zab.zaC | apply zab.zaB | apply zab.zaD) | exact HI0.out)⟩, ⟨by repeat (first | (with_reducible first | exact HK.out | apply KeepBut.set_ | apply zah | apply zaj | apply keep_alloc) | exact HK.out)⟩, ⟨by repeat (first | (with_reducible first | exact HB.out | apply zae | apply zaa | apply zad | refine zai ?_ (zab.ge HI0.out)) | exact HB.out)⟩⟩
 case round =>
  clear H'
  obtain ⟨x1_1, x5_1, x1001_1, x1002_1, x1003_1, rfl, HA, HK1, HO_5, HI0, HK, HB⟩ := hrel
  cases gk with
  | zero => exact absurd HA.out (by simp [zaI.l0])
  | succ k1 =>
   have H := HA.out; clear HA
   simp only [zaI.l0] at H
   by_cases c5 : x1_1 > 0
   ·rw [if_pos c5] at H
    have c5b0 : decide (0 < x1_1) = true := decide_eq_true c5
    clear c5; replace H := Option.bind_eq_some_iff.mp H
    obtain ⟨⟨t343, t344, t345, t346⟩, A60, H⟩ := H
    replace H : (if x5_1.length < 17592186044416 then (zaI.l0 k1 (wrap64 (x1_1 - 1)) (x5_1 ++ [t343]) s0_0 t344 t345 t346) else (none)) = some (r1, r2, r3, r4) := H
    have A6 := zac.mk A60; clear A60
    by_cases c7 : x5_1.length < 17592186044416
    ·rw [if_pos c7] at H; have LMc7 := zac.mk c7; clear c7
     obtain ⟨y347, hy347⟩ : ∃ y_ : List Int, y_ = (x5_1 ++ [t343]) := ⟨_, rfl⟩
     replace H : (zaI.l0 k1 (wrap64 (x1_1 - 1)) y347 s0_0 t344 t345 t346) = some (r1, r2, r3, r4) := by first | (rw [hy347]; with_reducible exact H) | (have H2_ := (Option.bind_some _ _).symm.trans H; rw [hy347]; with_reducible exact H2_) | (have H2_ := (Option.bind_some _ _).symm.trans H; with_reducible exact H2_) | with_reducible exact H | (rw [hy347]; exact H) | exact H
     have Ny347 := zac.mk hy347; clear hy347; have H' := zac.mk H; clear H
     go_wp2_with (first | ((with_reducible refine zak (f := 137) rfl ?_); refine zaG (some 13) rfl rfl Tryd.func137 (by kernel_rfl) rfl #[.pointer (some ⟨g, 0, none⟩)] rfl (by (try simp only [List.map_toArray, List.map_cons, List.map_nil]); first | done | rfl | (simp only [List.length_drop, List.length_take]; rfl)) ?_; (with_reducible refine (zal.calls k1 g s0_0 x1001_1 x1002_1 x1003_1 t343 t344 t345 t346 w0 _ ?side1 ?side2 A6.out).mono ?_); (case side1 => repeat (first | (with_reducible first | exact HI0.out | apply zab.alloc | apply zab.drewN | apply zab.drew | apply zab.zaC | apply zab.zaB | apply zab.zaD) | exact HI0.out)); (case side2 => repeat (first | (with_reducible first | exact HB.out | apply zae | apply zaa | apply zad | refine zai ?_ (zab.ge HI0.out)) | exact HB.out)); rintro e w8 ⟨rfl, hi, hb, hk⟩; refine ⟨_, rfl, ?_⟩; have n0_ := zac.mk (Kd.R_mono (Kd.R_keep (zab.apart (show zab w0 _ g s0_0 x1001_1 x1002_1 x1003_1 from by repeat (first | (with_reducible first | exact HI0.out | apply zab.alloc | apply zab.drewN | apply zab.drew | apply zab.zaC | apply zab.zaB | apply zab.zaD) | exact HI0.out)) (by (with_reducible repeat (first | apply Kd.zav | apply Kd.zau | apply Kd.R_drew)); exact HO_5.out) (by decide)) hk (fun _ h => h.2)) (fun _ h => h.1)); have n1_ := zac.mk (KeepBut.trans (by repeat (first | (with_reducible first | exact HK.out | apply KeepBut.set_ | apply zah | apply zaj | apply keep_alloc) | exact HK.out)) hk (.inl rfl)); have n2_ := zac.mk (hb); have n3_ := zac.mk (hi); clear HO_5 HK HB HI0; have HO_5 := n0_; have HK := n1_; have HB := n2_; have HI0 := n3_; clear n0_ n1_ n2_ n3_; (try clear hb); (try clear hb2); (try clear hk); (try clear hi)) | ((with_reducible refine gate_builtin (b := .append) (xs := #[.tmp 11, .tmp 14]) rfl ?_); at_builtin; refine Kd.R_append (Kd.int .i64) w.heap.size rfl (.tmp 11) (.tmp 14) 67 2 (.int .i64 0) 8 rfl Tryd.underlying67 info2 rfl (by decide) (by omega) u5 x5_1 t343 [.int .i64 t343] (fun _ => True) (fun _ => False) rfl rfl ?aP (fun _ hk => hk.elim) ?aF ?aO (Below.refl _ _) ?aS ?aL ?_; (case aP => exact rfl); (case aF => exact (fun _ _ => trivial)); (case aO => exact (by (with_reducible repeat (first | apply Kd.zav | apply Kd.zau | apply Kd.R_drew)); exact HO_5.out)); (case aS => exact (keep_size (w := w) (g := g) (row := none) (by repeat (first | (with_reducible first | exact HK.out | apply KeepBut.set_ | apply zah | apply zaj | apply keep_alloc) | exact HK.out)))); (case aL => have := LMc7.out; omega); intro v348 w9 ho hb hg hat; rw [← Ny347.out] at ho; have n0_ := zac.mk (zab.grown (by repeat (first | (with_reducible first | exact HI0.out | apply zab.alloc | apply zab.drewN | apply zab.drew | apply zab.zaC | apply zab.zaB | apply zab.zaD) | exact HI0.out)) hg (zab.own_ne HI0.out HO_5.out (by decide))); have n1_ := zac.mk (below_weaken (by repeat (first | (with_reducible first | exact HB.out | apply zae | apply zaa | apply zad | refine zai ?_ (zab.ge HI0.out)) | exact HB.out)) HL.out hb); have n2_ := zac.mk (KeepBut.trans (by repeat (first | (with_reducible first | exact HK.out | apply KeepBut.set_ | apply zah | apply zaj | apply keep_alloc) | exact HK.out)) (KeepBut.of_grown hg g) (Kd.R_base2 HO_5.out)); have n3_ := zac.mk (ho); clear HI0 HB HK HO_5; have HI0 := n0_; have HB := n1_; have HK := n2_; have HO349 := n3_; clear n0_ n1_ n2_ n3_ ho hb hg hat))
     go_roundg k1
     case measure => have := HK1.out; omega
     case rel => exact ⟨(wrap64 (x1_1 - 1)), (y347), (t344), (t345), (t346), (by first | rfl | (simp; done) | (simp [*]; done)), H', ⟨by have := HK1.out; omega⟩, ⟨by (with_reducible repeat (first | apply Kd.zav | apply Kd.zau | apply Kd.R_drew)); exact HO349.out⟩, ⟨by repeat (first | (with_reducible first | exact HI0.out | apply zab.alloc | apply zab.drewN | apply zab.drew | apply zab.zaC | apply zab.zaB | apply zab.zaD) | exact HI0.out)⟩, ⟨by repeat (first | (with_reducible first | exact HK.out | apply KeepBut.set_ | apply zah | apply zaj | apply keep_alloc) | exact HK.out)⟩, ⟨by repeat (first | (with_reducible first | exact HB.out | apply zae | apply zaa | apply zad | refine zai ?_ (zab.ge HI0.out)) | exact HB.out)⟩⟩
    rw [if_neg c7] at H
    exact absurd H (by simp)
   rw [if_neg c5] at H
   have c5b0 : decide (0 < x1_1) = false := decide_eq_false c5
   clear c5; replace H := Option.bind_eq_some_iff.mp H
   obtain ⟨t350, A100, H⟩ := H
   replace H : (some (t350, x1001_1, x1002_1, x1003_1)) = some (r1, r2, r3, r4) := H
   have A10 := zac.mk A100; clear A100
   simp only [Option.some.injEq, Prod.mk.injEq] at H
   obtain ⟨rfl, rfl, rfl, rfl⟩ := H
   obtain ⟨Ao11, co11, eo11⟩ := Kd.R_slice HO_5.out
   subst eo11
   go_wp2_with (first | ((with_reducible refine zak (f := 53) rfl ?_); refine zaG (some 17) rfl rfl Tryd.func53 (by kernel_rfl) rfl #[.slice Ao11 x5_1.length co11] rfl (by (try simp only [List.map_toArray, List.map_cons, List.map_nil]); first | done | rfl | (simp only [List.length_drop, List.length_take]; rfl)) ?_; (with_reducible refine (zaS.calls k1 _ _ x5_1 t350 _ ?side1 ?side2 A10.out).mono ?_); (case side1 => repeat (first | exact (Kd.zaY HO_5.out).2.2 | (with_reducible refine Kd.C_alloc ?_ _) | (with_reducible refine Kd.C_drewN ?_ _) | (with_reducible refine Kd.C_drew ?_))); (case side2 => exact (Kd.zaY HO_5.out).2.1); rintro e w12 ⟨rfl, hb⟩; refine ⟨_, rfl, ?_⟩; have n0_ := zac.mk (Kd.R_below (by (with_reducible repeat (first | apply Kd.zav | apply Kd.zau | apply Kd.R_drew)); exact HO_5.out) hb); have n1_ := zac.mk (zab.below (by repeat (first | (with_reducible first | exact HI0.out | apply zab.alloc | apply zab.drewN | apply zab.drew | apply zab.zaC | apply zab.zaB | apply zab.zaD) | exact HI0.out)) hb); have n2_ := zac.mk (KeepBut.trans (by repeat (first | (with_reducible first | exact HK.out | apply KeepBut.set_ | apply zah | apply zaj | apply keep_alloc) | exact HK.out)) (KeepBut.of_below hb g none) (.inl rfl)); have n3_ := zac.mk (zaw (by repeat (first | (with_reducible first | exact HB.out | apply zae | apply zaa | apply zad | refine zai ?_ (zab.ge HI0.out)) | exact HB.out)) hb); clear HO_5 HI0 HK HB; have HO_5 := n0_; have HI0 := n1_; have HK := n2_; have HB := n3_; clear n0_ n1_ n2_ n3_; (try clear hb); (try clear hb2); (try clear hk); (try clear hi)))
   go_ret
   exact ⟨by first | rfl | (simp [zan, zam] <;> rfl) | (simp [*, zan, zam] <;> rfl), by repeat (first | (with_reducible first | exact HI0.out | apply zab.alloc | apply zab.drewN | apply zab.drew | apply zab.zaC | apply zab.zaB | apply zab.zaD) | exact HI0.out), by repeat (first | (with_reducible first | exact HB.out | apply zae | apply zaa | apply zad | refine zai ?_ (zab.ge HI0.out)) | exact HB.out), by repeat (first | (with_reducible first | exact HK.out | apply KeepBut.set_ | apply zah | apply zaj | apply keep_alloc) | exact HK.out)⟩
def zay.j0 : Nat → ByteArray → Int → ByteArray → Bool → List Int → Int → Int → Int → Option (ByteArray × Int × Int × Int)
 | 0, _, _, _, _, _, _, _, _ => none
 | k + 1, x1, x5, x6, x24, x1000, x1001, x1002, x1003 => if x24 = true then (if 0 ≤ x5 then (if x5 ≤ (x1.size : Int) then (if (x1.extract 0 (x5 : Int).toNat).size + x6.size ≤ 9223372036854775807 then (if ((x1.extract 0 (x5 : Int).toNat) ++ x6).size + (x1.extract (x5 : Int).toNat x1.size).size ≤ 9223372036854775807 then (some (((x1.extract 0 (x5 : Int).toNat) ++ x6) ++ (x1.extract (x5 : Int).toNat x1.size), x1001, x1002, x1003)) else (none)) else (none)) else (none)) else (none)) else ((zax.f x1000 x1001 x1002 x1003 2).bind fun bt366 => (if bt366.1 = true then (if 0 ≤ x5 then (if x5 ≤ (x1.size : Int) then (if 0 ≤ (wrap64 (x5 + 1)) then (if (wrap64 (x5 + 1)) ≤ (x1.size : Int) then (if (x1.extract 0 (x5 : Int).toNat).size + (x1.extract ((wrap64 (x5 + 1)) : Int).toNat x1.size).size ≤ 9223372036854775807 then (some ((x1.extract 0 (x5 : Int).toNat) ++ (x1.extract ((wrap64 (x5 + 1)) : Int).toNat x1.size), bt366.2.1, bt366.2.2.1, bt366.2.2.2)) else (none)) else (none)) else (none)) else (none)) else (none)) else (if 0 ≤ x5 then (if x5 ≤ (x1.size : Int) then (if (x1.extract 0 (x5 : Int).toNat).size + x6.size ≤ 9223372036854775807 then (if 0 ≤ (wrap64 (x5 + 1)) then (if (wrap64 (x5 + 1)) ≤ (x1.size : Int) then (if ((x1.extract 0 (x5 : Int).toNat) ++ x6).size + (x1.extract ((wrap64 (x5 + 1)) : Int).toNat x1.size).size ≤ 9223372036854775807 then (some (((x1.extract 0 (x5 : Int).toNat) ++ x6) ++ (x1.extract ((wrap64 (x5 + 1)) : Int).toNat x1.size), bt366.2.1, bt366.2.2.1, bt366.2.2.2)) else (none)) else (none)) else (none)) else (none)) else (none)) else (none))))
def zay.f (k : Nat) (s0_0 : List Int) (s0_1 : Int) (s0_2 : Int) (s0_3 : Int) (a1 : ByteArray) : Option (ByteArray × Int × Int × Int) := (zaf.f s0_0 s0_1 s0_2 s0_3 (wrap64 ((a1.size : Int) + 1))).bind fun bt351 => ((zaf.f s0_0 bt351.2.1 bt351.2.2.1 bt351.2.2.2 17).bind fun bt355 => (if 0 ≤ bt355.1 then (if bt355.1 < 17 then ((some (([bt (⟨#[32, 10, 48, 97, 45, 110, 44, 58, 93, 255, 40, 120, 34, 49, 128, 225, 59]⟩ : ByteArray) bt355.1] : List Int) : List Int)).bind fun y359 => (if bt351.1 = (a1.size : Int) then (zay.j0 k a1 bt351.1 (strOfNums y359) true s0_0 bt355.2.1 bt355.2.2.1 bt355.2.2.2) else ((zax.f s0_0 bt355.2.1 bt355.2.2.1 bt355.2.2.2 3).bind fun bt362 => (zay.j0 k a1 bt351.1 (strOfNums y359) bt362.1 s0_0 bt362.2.1 bt362.2.2.1 bt362.2.2.2)))) else (none)) else (none)))
set_option maxHeartbeats 8000000 in
set_option maxRecDepth 100000 in
theorem zay.calls (k : Nat) (g : Nat) (s0_0 : List Int) (s0_1 : Int) (s0_2 : Int) (s0_3 : Int) (a1 : ByteArray) (r1 : ByteArray) (r2 : Int) (r3 : Int) (r4 : Int) (w0 w : World) (hI : zab w0 w g s0_0 s0_1 s0_2 s0_3) (hB : Below w0.heap.size w0 w) (h : zay.f k s0_0 s0_1 s0_2 s0_3 a1 = some (r1, r2, r3, r4)) :
  Calls Tryd.prog 92 #[.pointer (some ⟨g, 0, none⟩), .string a1] w fun e w' => e = .returned (.string r1) ∧ zab w0 w' g s0_0 r2 r3 r4 ∧ Below w0.heap.size w0 w' ∧ KeepBut w w' g none := by
 have HI0 := zac.mk hI
 have HK := zac.mk (KeepBut.refl w g none)
 have HL := zac.mk hB.size; clear hI; have HW0 := zac.mk hB.size; have HB := zac.mk hB; clear hB
 have H : ((zaf.f s0_0 s0_1 s0_2 s0_3 (wrap64 ((a1.size : Int) + 1))).bind fun bt351 => ((zaf.f s0_0 bt351.2.1 bt351.2.2.1 bt351.2.2.2 17).bind fun bt355 => (if 0 ≤ bt355.1 then (if bt355.1 < 17 then ((some (([bt (⟨#[32, 10, 48, 97, 45, 110, 44, 58, 93, 255, 40, 120, 34, 49, 128, 225, 59]⟩ : ByteArray) bt355.1] : List Int) : List Int)).bind fun y359 => (if bt351.1 = (a1.size : Int) then (zay.j0 k a1 bt351.1 (strOfNums y359) true s0_0 bt355.2.1 bt355.2.2.1 bt355.2.2.2) else ((zax.f s0_0 bt355.2.1 bt355.2.2.1 bt355.2.2.2 3).bind fun bt362 => (zay.j0 k a1 bt351.1 (strOfNums y359) bt362.1 s0_0 bt362.2.1 bt362.2.2.1 bt362.2.2.2)))) else (none)) else (none)))) = some (r1, r2, r3, r4) := h
 clear h; replace H := Option.bind_eq_some_iff.mp H
 obtain ⟨⟨t351, t352, t353, t354⟩, A30, H⟩ := H
 replace H : ((zaf.f s0_0 t352 t353 t354 17).bind fun bt355 => (if 0 ≤ bt355.1 then (if bt355.1 < 17 then ((some (([bt (⟨#[32, 10, 48, 97, 45, 110, 44, 58, 93, 255, 40, 120, 34, 49, 128, 225, 59]⟩ : ByteArray) bt355.1] : List Int) : List Int)).bind fun y359 => (if t351 = (a1.size : Int) then (zay.j0 k a1 t351 (strOfNums y359) true s0_0 bt355.2.1 bt355.2.2.1 bt355.2.2.2) else ((zax.f s0_0 bt355.2.1 bt355.2.2.1 bt355.2.2.2 3).bind fun bt362 => (zay.j0 k a1 t351 (strOfNums y359) bt362.1 s0_0 bt362.2.1 bt362.2.2.1 bt362.2.2.2)))) else (none)) else (none))) = some (r1, r2, r3, r4) := H
 have A3 := zac.mk A30; clear A30; replace H := Option.bind_eq_some_iff.mp H
 obtain ⟨⟨t355, t356, t357, t358⟩, A40, H⟩ := H
 replace H : (if 0 ≤ t355 then (if t355 < 17 then ((some (([bt (⟨#[32, 10, 48, 97, 45, 110, 44, 58, 93, 255, 40, 120, 34, 49, 128, 225, 59]⟩ : ByteArray) t355] : List Int) : List Int)).bind fun y359 => (if t351 = (a1.size : Int) then (zay.j0 k a1 t351 (strOfNums y359) true s0_0 t356 t357 t358) else ((zax.f s0_0 t356 t357 t358 3).bind fun bt362 => (zay.j0 k a1 t351 (strOfNums y359) bt362.1 s0_0 bt362.2.1 bt362.2.2.1 bt362.2.2.2)))) else (none)) else (none)) = some (r1, r2, r3, r4) := H
 have A4 := zac.mk A40; clear A40
 by_cases c5 : 0 ≤ t355
 ·rw [if_pos c5] at H
  have c5b0 : decide (0 ≤ t355) = true := decide_eq_true c5
  clear c5
  by_cases c6 : t355 < 17
  ·rw [if_pos c6] at H
   have c6b0 : decide (t355 < 17) = true := decide_eq_true c6
   clear c6
   obtain ⟨y359, hy359⟩ : ∃ y_ : List Int, y_ = (([bt (⟨#[32, 10, 48, 97, 45, 110, 44, 58, 93, 255, 40, 120, 34, 49, 128, 225, 59]⟩ : ByteArray) t355] : List Int)) := ⟨_, rfl⟩
   replace H : (if t351 = (a1.size : Int) then (zay.j0 k a1 t351 (strOfNums y359) true s0_0 t356 t357 t358) else ((zax.f s0_0 t356 t357 t358 3).bind fun bt362 => (zay.j0 k a1 t351 (strOfNums y359) bt362.1 s0_0 bt362.2.1 bt362.2.2.1 bt362.2.2.2))) = some (r1, r2, r3, r4) := by first | (rw [hy359]; with_reducible exact H) | (have H2_ := (Option.bind_some _ _).symm.trans H; rw [hy359]; with_reducible exact H2_) | (have H2_ := (Option.bind_some _ _).symm.trans H; with_reducible exact H2_) | with_reducible exact H | (rw [hy359]; exact H) | exact H
   have Ny359 := zac.mk hy359; clear hy359; have HC8 := zac.mk H; clear H
   go_enter Tryd.func92, Tryd.ntmps92
   go_upto_region 3 with (first | (go_at_call 88; (with_reducible refine (zaf.calls g s0_0 s0_1 s0_2 s0_3 (wrap64 ((a1.size : Int) + 1)) t351 t352 t353 t354 w0 _ ?side1 ?side2 A3.out).mono ?_); (case side1 => repeat (first | (with_reducible first | exact HI0.out | apply zab.alloc | apply zab.drewN | apply zab.drew | apply zab.zaC | apply zab.zaB | apply zab.zaD) | exact HI0.out)); (case side2 => repeat (first | (with_reducible first | exact HB.out | apply zae | apply zaa | apply zad | refine zai ?_ (zab.ge HI0.out)) | exact HB.out)); rintro e w9 ⟨rfl, hi, hb, hk⟩; have n0_ := zac.mk (KeepBut.trans (by repeat (first | (with_reducible first | exact HK.out | apply KeepBut.set_ | apply zah | apply zaj | apply keep_alloc) | exact HK.out)) hk (.inl rfl)); have n1_ := zac.mk (hb); have n2_ := zac.mk (hi); clear HK HB HI0; have HK := n0_; have HB := n1_; have HI0 := n2_; clear n0_ n1_ n2_; (try clear hb); (try clear hb2); (try clear hk); (try clear hi)) | (go_at_call 88; (with_reducible refine (zaf.calls g s0_0 t352 t353 t354 17 t355 t356 t357 t358 w0 _ ?side1 ?side2 A4.out).mono ?_); (case side1 => repeat (first | (with_reducible first | exact HI0.out | apply zab.alloc | apply zab.drewN | apply zab.drew | apply zab.zaC | apply zab.zaB | apply zab.zaD) | exact HI0.out)); (case side2 => repeat (first | (with_reducible first | exact HB.out | apply zae | apply zaa | apply zad | refine zai ?_ (zab.ge HI0.out)) | exact HB.out)); rintro e w10 ⟨rfl, hi, hb, hk⟩; have n0_ := zac.mk (KeepBut.trans (by repeat (first | (with_reducible first | exact HK.out | apply KeepBut.set_ | apply zah | apply zaj | apply keep_alloc) | exact HK.out)) hk (.inl rfl)); have n1_ := zac.mk (hb); have n2_ := zac.mk (hi); clear HK HB HI0; have HK := n0_; have HB := n1_; have HI0 := n2_; clear n0_ n1_ n2_; (try clear hb); (try clear hb2); (try clear hk); (try clear hi); have p7 : 0 ≤ (t355 : Int) := of_decide_eq_true (by first | (with_reducible assumption) | assumption); have q7 : t355 < (17 : Int) := of_decide_eq_true (by first | (with_reducible assumption) | assumption); have hx7 := bt_at (⟨#[32, 10, 48, 97, 45, 110, 44, 58, 93, 255, 40, 120, 34, 49, 128, 225, 59]⟩ : ByteArray) t355; replace p7 := eq_true p7; replace q7 := eq_true q7) | ((with_reducible refine zaW (N := 15) rfl ?_); refine Kd.R_lit (Kd.int .u8) _ 5 ?hg (N := 15) ?hd (xs := ([bt (⟨#[32, 10, 48, 97, 45, 110, 44, 58, 93, 255, 40, 120, 34, 49, 128, 225, 59]⟩ : ByteArray) t355] : List Int)) (inner := [.int .u8 (bt (⟨#[32, 10, 48, 97, 45, 110, 44, 58, 93, 255, 40, 120, 34, 49, 128, 225, 59]⟩ : ByteArray) t355)]) (ok := fun _ => True) (okp := fun _ => True) ?hr ?hp (fun _ hk => hk) trivial (Below.refl _ _) (Nat.le_refl _) (by simp) ?_; (case hd => rfl); (case hg => rfl); (case hr => first | (go_simp; done) | (go_simp; rfl)); (case hp => exact (Reps.one (show Kd.M (Kd.int .u8) _ _ _ (bt (⟨#[32, 10, 48, 97, 45, 110, 44, 58, 93, 255, 40, 120, 34, 49, 128, 225, 59]⟩ : ByteArray) t355) [.int .u8 (bt (⟨#[32, 10, 48, 97, 45, 110, 44, 58, 93, 255, 40, 120, 34, 49, 128, 225, 59]⟩ : ByteArray) t355)] from rfl) (Reps.none _ _))); intro v360 w11 ho12 hb hg_ hnew_; clear hg_ hnew_; (first | rw [← Ny359.out] at ho12 | (simp only [Int.reduceToNat] at ho12; rw [← Ny359.out] at ho12)); have n0_ := zac.mk (Kd.R_lower ho12 (keep_size (w := w) (g := g) (row := none) (by repeat (first | (with_reducible first | exact HK.out | apply KeepBut.set_ | apply zah | apply zaj | apply keep_alloc) | exact HK.out)))); have n1_ := zac.mk (zab.below (by repeat (first | (with_reducible first | exact HI0.out | apply zab.alloc | apply zab.drewN | apply zab.drew | apply zab.zaC | apply zab.zaB | apply zab.zaD) | exact HI0.out)) hb); have n2_ := zac.mk (KeepBut.trans (by repeat (first | (with_reducible first | exact HK.out | apply KeepBut.set_ | apply zah | apply zaj | apply keep_alloc) | exact HK.out)) (KeepBut.of_below hb g none) (.inl rfl)); have n3_ := zac.mk (zaw (by repeat (first | (with_reducible first | exact HB.out | apply zae | apply zaa | apply zad | refine zai ?_ (zab.ge HI0.out)) | exact HB.out)) hb); clear HI0 HK HB; have HO361 := n0_; have HI0 := n1_; have HK := n2_; have HB := n3_; clear n0_ n1_ n2_ n3_ hb ho12; have hcv13 := own_string (P := Tryd.prog) Tryd.underlying22 Tryd.underlying5 Tryd.underlying9 (Kd.own_of_R HO361.out)))
   repeat (go_quiet (first | (go_at_call 88; (with_reducible refine (zaf.calls g s0_0 s0_1 s0_2 s0_3 (wrap64 ((a1.size : Int) + 1)) t351 t352 t353 t354 w0 _ ?side1 ?side2 A3.out).mono ?_); (case side1 => repeat (first | (with_reducible first | exact HI0.out | apply zab.alloc | apply zab.drewN | apply zab.drew | apply zab.zaC | apply zab.zaB | apply zab.zaD) | exact HI0.out)); (case side2 => repeat (first | (with_reducible first | exact HB.out | apply zae | apply zaa | apply zad | refine zai ?_ (zab.ge HI0.out)) | exact HB.out)); rintro e w9 ⟨rfl, hi, hb, hk⟩; have n0_ := zac.mk (KeepBut.trans (by repeat (first | (with_reducible first | exact HK.out | apply KeepBut.set_ | apply zah | apply zaj | apply keep_alloc) | exact HK.out)) hk (.inl rfl)); have n1_ := zac.mk (hb); have n2_ := zac.mk (hi); clear HK HB HI0; have HK := n0_; have HB := n1_; have HI0 := n2_; clear n0_ n1_ n2_; (try clear hb); (try clear hb2); (try clear hk); (try clear hi)) | (go_at_call 88; (with_reducible refine (zaf.calls g s0_0 t352 t353 t354 17 t355 t356 t357 t358 w0 _ ?side1 ?side2 A4.out).mono ?_); (case side1 => repeat (first | (with_reducible first | exact HI0.out | apply zab.alloc | apply zab.drewN | apply zab.drew | apply zab.zaC | apply zab.zaB | apply zab.zaD) | exact HI0.out)); (case side2 => repeat (first | (with_reducible first | exact HB.out | apply zae | apply zaa | apply zad | refine zai ?_ (zab.ge HI0.out)) | exact HB.out)); rintro e w10 ⟨rfl, hi, hb, hk⟩; have n0_ := zac.mk (KeepBut.trans (by repeat (first | (with_reducible first | exact HK.out | apply KeepBut.set_ | apply zah | apply zaj | apply keep_alloc) | exact HK.out)) hk (.inl rfl)); have n1_ := zac.mk (hb); have n2_ := zac.mk (hi); clear HK HB HI0; have HK := n0_; have HB := n1_; have HI0 := n2_; clear n0_ n1_ n2_; (try clear hb); (try clear hb2); (try clear hk); (try clear hi); have p7 : 0 ≤ (t355 : Int) := of_decide_eq_true (by first | (with_reducible assumption) | assumption); have q7 : t355 < (17 : Int) := of_decide_eq_true (by first | (with_reducible assumption) | assumption); have hx7 := bt_at (⟨#[32, 10, 48, 97, 45, 110, 44, 58, 93, 255, 40, 120, 34, 49, 128, 225, 59]⟩ : ByteArray) t355; replace p7 := eq_true p7; replace q7 := eq_true q7) | ((with_reducible refine zaW (N := 15) rfl ?_); refine Kd.R_lit (Kd.int .u8) _ 5 ?hg (N := 15) ?hd (xs := ([bt (⟨#[32, 10, 48, 97, 45, 110, 44, 58, 93, 255, 40, 120, 34, 49, 128, 225, 59]⟩ : ByteArray) t355] : List Int)) (inner := [.int .u8 (bt (⟨#[32, 10, 48, 97, 45, 110, 44, 58, 93, 255, 40, 120, 34, 49, 128, 225, 59]⟩ : ByteArray) t355)]) (ok := fun _ => True) (okp := fun _ => True) ?hr ?hp (fun _ hk => hk) trivial (Below.refl _ _) (Nat.le_refl _) (by simp) ?_; (case hd => rfl); (case hg => rfl); (case hr => first | (go_simp; done) | (go_simp; rfl)); (case hp => exact (Reps.one (show Kd.M (Kd.int .u8) _ _ _ (bt (⟨#[32, 10, 48, 97, 45, 110, 44, 58, 93, 255, 40, 120, 34, 49, 128, 225, 59]⟩ : ByteArray) t355) [.int .u8 (bt (⟨#[32, 10, 48, 97, 45, 110, 44, 58, 93, 255, 40, 120, 34, 49, 128, 225, 59]⟩ : ByteArray) t355)] from rfl) (Reps.none _ _))); intro v360 w11 ho12 hb hg_ hnew_; clear hg_ hnew_; (first | rw [← Ny359.out] at ho12 | (simp only [Int.reduceToNat] at ho12; rw [← Ny359.out] at ho12)); have n0_ := zac.mk (Kd.R_lower ho12 (keep_size (w := w) (g := g) (row := none) (by repeat (first | (with_reducible first | exact HK.out | apply KeepBut.set_ | apply zah | apply zaj | apply keep_alloc) | exact HK.out)))); have n1_ := zac.mk (zab.below (by repeat (first | (with_reducible first | exact HI0.out | apply zab.alloc | apply zab.drewN | apply zab.drew | apply zab.zaC | apply zab.zaB | apply zab.zaD) | exact HI0.out)) hb); have n2_ := zac.mk (KeepBut.trans (by repeat (first | (with_reducible first | exact HK.out | apply KeepBut.set_ | apply zah | apply zaj | apply keep_alloc) | exact HK.out)) (KeepBut.of_below hb g none) (.inl rfl)); have n3_ := zac.mk (zaw (by repeat (first | (with_reducible first | exact HB.out | apply zae | apply zaa | apply zad | refine zai ?_ (zab.ge HI0.out)) | exact HB.out)) hb); clear HI0 HK HB; have HO361 := n0_; have HI0 := n1_; have HK := n2_; have HB := n3_; clear n0_ n1_ n2_ n3_ hb ho12; have hcv13 := own_string (P := Tryd.prog) Tryd.underlying22 Tryd.underlying5 Tryd.underlying9 (Kd.own_of_R HO361.out))); go_upto_region 3 with (first | (go_at_call 88; (with_reducible refine (zaf.calls g s0_0 s0_1 s0_2 s0_3 (wrap64 ((a1.size : Int) + 1)) t351 t352 t353 t354 w0 _ ?side1 ?side2 A3.out).mono ?_); (case side1 => repeat (first | (with_reducible first | exact HI0.out | apply zab.alloc | apply zab.drewN | apply zab.drew | apply zab.zaC | apply zab.zaB | apply zab.zaD) | exact HI0.out)); (case side2 => repeat (first | (with_reducible first | exact HB.out | apply zae | apply zaa | apply zad | refine zai ?_ (zab.ge HI0.out)) | exact HB.out)); rintro e w9 ⟨rfl, hi, hb, hk⟩; have n0_ := zac.mk (KeepBut.trans (by repeat (first | (with_reducible first | exact HK.out | apply KeepBut.set_ | apply zah | apply zaj | apply keep_alloc) | exact HK.out)) hk (.inl rfl)); have n1_ := zac.mk (hb); have n2_ := zac.mk (hi); clear HK HB HI0; have HK := n0_; have HB := n1_; have HI0 := n2_; clear n0_ n1_ n2_; (try clear hb); (try clear hb2); (try clear hk); (try clear hi)) | (go_at_call 88; (with_reducible refine (zaf.calls g s0_0 t352 t353 t354 17 t355 t356 t357 t358 w0 _ ?side1 ?side2 A4.out).mono ?_); (case side1 => repeat (first | (with_reducible first | exact HI0.out | apply zab.alloc | apply zab.drewN | apply zab.drew | apply zab.zaC | apply zab.zaB | apply zab.zaD) | exact HI0.out)); (case side2 => repeat (first | (with_reducible first | exact HB.out | apply zae | apply zaa | apply zad | refine zai ?_ (zab.ge HI0.out)) | exact HB.out)); rintro e w10 ⟨rfl, hi, hb, hk⟩; have n0_ := zac.mk (KeepBut.trans (by repeat (first | (with_reducible first | exact HK.out | apply KeepBut.set_ | apply zah | apply zaj | apply keep_alloc) | exact HK.out)) hk (.inl rfl)); have n1_ := zac.mk (hb); have n2_ := zac.mk (hi); clear HK HB HI0; have HK := n0_; have HB := n1_; have HI0 := n2_; clear n0_ n1_ n2_; (try clear hb); (try clear hb2); (try clear hk); (try clear hi); have p7 : 0 ≤ (t355 : Int) := of_decide_eq_true (by first | (with_reducible assumption) | assumption); have q7 : t355 < (17 : Int) := of_decide_eq_true (by first | (with_reducible assumption) | assumption); have hx7 := bt_at (⟨#[32, 10, 48, 97, 45, 110, 44, 58, 93, 255, 40, 120, 34, 49, 128, 225, 59]⟩ : ByteArray) t355; replace p7 := eq_true p7; replace q7 := eq_true q7) | ((with_reducible refine zaW (N := 15) rfl ?_); refine Kd.R_lit (Kd.int .u8) _ 5 ?hg (N := 15) ?hd (xs := ([bt (⟨#[32, 10, 48, 97, 45, 110, 44, 58, 93, 255, 40, 120, 34, 49, 128, 225, 59]⟩ : ByteArray) t355] : List Int)) (inner := [.int .u8 (bt (⟨#[32, 10, 48, 97, 45, 110, 44, 58, 93, 255, 40, 120, 34, 49, 128, 225, 59]⟩ : ByteArray) t355)]) (ok := fun _ => True) (okp := fun _ => True) ?hr ?hp (fun _ hk => hk) trivial (Below.refl _ _) (Nat.le_refl _) (by simp) ?_; (case hd => rfl); (case hg => rfl); (case hr => first | (go_simp; done) | (go_simp; rfl)); (case hp => exact (Reps.one (show Kd.M (Kd.int .u8) _ _ _ (bt (⟨#[32, 10, 48, 97, 45, 110, 44, 58, 93, 255, 40, 120, 34, 49, 128, 225, 59]⟩ : ByteArray) t355) [.int .u8 (bt (⟨#[32, 10, 48, 97, 45, 110, 44, 58, 93, 255, 40, 120, 34, 49, 128, 225, 59]⟩ : ByteArray) t355)] from rfl) (Reps.none _ _))); intro v360 w11 ho12 hb hg_ hnew_; clear hg_ hnew_; (first | rw [← Ny359.out] at ho12 | (simp only [Int.reduceToNat] at ho12; rw [← Ny359.out] at ho12)); have n0_ := zac.mk (Kd.R_lower ho12 (keep_size (w := w) (g := g) (row := none) (by repeat (first | (with_reducible first | exact HK.out | apply KeepBut.set_ | apply zah | apply zaj | apply keep_alloc) | exact HK.out)))); have n1_ := zac.mk (zab.below (by repeat (first | (with_reducible first | exact HI0.out | apply zab.alloc | apply zab.drewN | apply zab.drew | apply zab.zaC | apply zab.zaB | apply zab.zaD) | exact HI0.out)) hb); have n2_ := zac.mk (KeepBut.trans (by repeat (first | (with_reducible first | exact HK.out | apply KeepBut.set_ | apply zah | apply zaj | apply keep_alloc) | exact HK.out)) (KeepBut.of_below hb g none) (.inl rfl)); have n3_ := zac.mk (zaw (by repeat (first | (with_reducible first | exact HB.out | apply zae | apply zaa | apply zad | refine zai ?_ (zab.ge HI0.out)) | exact HB.out)) hb); clear HI0 HK HB; have HO361 := n0_; have HI0 := n1_; have HK := n2_; have HB := n3_; clear n0_ n1_ n2_ n3_ hb ho12; have hcv13 := own_string (P := Tryd.prog) Tryd.underlying22 Tryd.underlying5 Tryd.underlying9 (Kd.own_of_R HO361.out))))
   (try simp only [Act.put, List.setIfInBounds_toArray, List.set_cons_zero, List.set_cons_succ])
   go_cut [24] (fun v24 wc => ∃ (kq : Nat) (x24_7 : Bool) (x1001_7 : Int) (x1002_7 : Int) (x1003_7 : Int), v24 = .bool x24_7 ∧ zac (zay.j0 kq a1 t351 (strOfNums y359) x24_7 s0_0 x1001_7 x1002_7 x1003_7 = some (r1, r2, r3, r4)) ∧ zac (kq ≤ k) ∧ zac (zab w0 wc g s0_0 x1001_7 x1002_7 x1003_7) ∧ zac (KeepBut w wc g none) ∧ zac (Below w0.heap.size w0 wc))
   case first =>
    have H := HC8.out; clear HC8
    by_cases c14 : t351 = (a1.size : Int)
    ·rw [if_pos c14] at H
     have c14b0 : (t351 == (a1.size : Int)) = true := beq_iff_eq.mpr c14
     have c14b1 : (t351 != (a1.size : Int)) = false := bne_eq_false_iff_eq.mpr c14
     clear c14
     (first | rw [c14b0] | rw [c14b1] | (simp only [i64_w, i32_w]; rw [c14b0]) | skip)
     have H' := zac.mk H; clear H
     go_wp2
     repeat (go_quiet (fail); try go_wp2)
     go_meet
     case rel => exact ⟨_, (true), (t356), (t357), (t358), (by first | rfl | (simp; done) | (simp [*]; done)), H', ⟨by first | omega | exact Nat.le_refl _⟩, ⟨by repeat (first | (with_reducible first | exact HI0.out | apply zab.alloc | apply zab.drewN | apply zab.drew | apply zab.zaC | apply zab.zaB | apply zab.zaD) | exact HI0.out)⟩, ⟨by repeat (first | (with_reducible first | exact HK.out | apply KeepBut.set_ | apply zah | apply zaj | apply keep_alloc) | exact HK.out)⟩, ⟨by repeat (first | (with_reducible first | exact HB.out | apply zae | apply zaa | apply zad | refine zai ?_ (zab.ge HI0.out)) | exact HB.out)⟩⟩
    rw [if_neg c14] at H
    have c14b0 : (t351 == (a1.size : Int)) = false := beq_eq_false_iff_ne.mpr c14
    have c14b1 : (t351 != (a1.size : Int)) = true := bne_iff_ne.mpr c14
    (first | rw [c14b0] | rw [c14b1] | (simp only [i64_w, i32_w]; rw [c14b0]) | skip)
    replace H := Option.bind_eq_some_iff.mp H
    obtain ⟨⟨t362, t363, t364, t365⟩, A150, H⟩ := H
    replace H : (zay.j0 k a1 t351 (strOfNums y359) t362 s0_0 t363 t364 t365) = some (r1, r2, r3, r4) := H
    have A15 := zac.mk A150; clear A150; have H' := zac.mk H; clear H
    go_wp2_with (first | (go_at_call 44; (with_reducible refine (zax.calls g s0_0 t356 t357 t358 3 t362 t363 t364 t365 w0 _ ?side1 ?side2 A15.out).mono ?_); (case side1 => repeat (first | (with_reducible first | exact HI0.out | apply zab.alloc | apply zab.drewN | apply zab.drew | apply zab.zaC | apply zab.zaB | apply zab.zaD) | exact HI0.out)); (case side2 => repeat (first | (with_reducible first | exact HB.out | apply zae | apply zaa | apply zad | refine zai ?_ (zab.ge HI0.out)) | exact HB.out)); rintro e w16 ⟨rfl, hi, hb, hk⟩; have n0_ := zac.mk (Kd.R_mono (Kd.R_keep (zab.apart (show zab w0 _ g s0_0 t356 t357 t358 from by repeat (first | (with_reducible first | exact HI0.out | apply zab.alloc | apply zab.drewN | apply zab.drew | apply zab.zaC | apply zab.zaB | apply zab.zaD) | exact HI0.out)) (by (with_reducible repeat (first | apply Kd.zav | apply Kd.zau | apply Kd.R_drew)); exact HO361.out) (by decide)) hk (fun _ h => h.2)) (fun _ h => h.1)); have n1_ := zac.mk (KeepBut.trans (by repeat (first | (with_reducible first | exact HK.out | apply KeepBut.set_ | apply zah | apply zaj | apply keep_alloc) | exact HK.out)) hk (.inl rfl)); have n2_ := zac.mk (hb); have n3_ := zac.mk (hi); clear HO361 HK HB HI0; have HO361 := n0_; have HK := n1_; have HB := n2_; have HI0 := n3_; clear n0_ n1_ n2_ n3_; (try clear hb); (try clear hb2); (try clear hk); (try clear hi)))
    repeat (go_quiet (first | (go_at_call 44; (with_reducible refine (zax.calls g s0_0 t356 t357 t358 3 t362 t363 t364 t365 w0 _ ?side1 ?side2 A15.out).mono ?_); (case side1 => repeat (first | (with_reducible first | exact HI0.out | apply zab.alloc | apply zab.drewN | apply zab.drew | apply zab.zaC | apply zab.zaB | apply zab.zaD) | exact HI0.out)); (case side2 => repeat (first | (with_reducible first | exact HB.out | apply zae | apply zaa | apply zad | refine zai ?_ (zab.ge HI0.out)) | exact HB.out)); rintro e w16 ⟨rfl, hi, hb, hk⟩; have n0_ := zac.mk (Kd.R_mono (Kd.R_keep (zab.apart (show zab w0 _ g s0_0 t356 t357 t358 from by repeat (first | (with_reducible first | exact HI0.out | apply zab.alloc | apply zab.drewN | apply zab.drew | apply zab.zaC | apply zab.zaB | apply zab.zaD) | exact HI0.out)) (by (with_reducible repeat (first | apply Kd.zav | apply Kd.zau | apply Kd.R_drew)); exact HO361.out) (by decide)) hk (fun _ h => h.2)) (fun _ h => h.1)); have n1_ := zac.mk (KeepBut.trans (by repeat (first | (with_reducible first | exact HK.out | apply KeepBut.set_ | apply zah | apply zaj | apply keep_alloc) | exact HK.out)) hk (.inl rfl)); have n2_ := zac.mk (hb); have n3_ := zac.mk (hi); clear HO361 HK HB HI0; have HO361 := n0_; have HK := n1_; have HB := n2_; have HI0 := n3_; clear n0_ n1_ n2_ n3_; (try clear hb); (try clear hb2); (try clear hk); (try clear hi))); try go_wp2_with (first | (go_at_call 44; (with_reducible refine (zax.calls g s0_0 t356 t357 t358 3 t362 t363 t364 t365 w0 _ ?side1 ?side2 A15.out).mono ?_); (case side1 => repeat (first | (with_reducible first | exact HI0.out | apply zab.alloc | apply zab.drewN | apply zab.drew | apply zab.zaC | apply zab.zaB | apply zab.zaD) | exact HI0.out)); (case side2 => repeat (first | (with_reducible first | exact HB.out | apply zae | apply zaa | apply zad | refine zai ?_ (zab.ge HI0.out)) | exact HB.out)); rintro e w16 ⟨rfl, hi, hb, hk⟩; have n0_ := zac.mk (Kd.R_mono (Kd.R_keep (zab.apart (show zab w0 _ g s0_0 t356 t357 t358 from by repeat (first | (with_reducible first | exact HI0.out | apply zab.alloc | apply zab.drewN | apply zab.drew | apply zab.zaC | apply zab.zaB | apply zab.zaD) | exact HI0.out)) (by (with_reducible repeat (first | apply Kd.zav | apply Kd.zau | apply Kd.R_drew)); exact HO361.out) (by decide)) hk (fun _ h => h.2)) (fun _ h => h.1)); have n1_ := zac.mk (KeepBut.trans (by repeat (first | (with_reducible first | exact HK.out | apply KeepBut.set_ | apply zah | apply zaj | apply keep_alloc) | exact HK.out)) hk (.inl rfl)); have n2_ := zac.mk (hb); have n3_ := zac.mk (hi); clear HO361 HK HB HI0; have HO361 := n0_; have HK := n1_; have HB := n2_; have HI0 := n3_; clear n0_ n1_ n2_ n3_; (try clear hb); (try clear hb2); (try clear hk); (try clear hi))))
    go_meet
    case rel => exact ⟨_, (t362), (t363), (t364), (t365), (by first | rfl | (simp; done) | (simp [*]; done)), H', ⟨by first | omega | exact Nat.le_refl _⟩, ⟨by repeat (first | (with_reducible first | exact HI0.out | apply zab.alloc | apply zab.drewN | apply zab.drew | apply zab.zaC | apply zab.zaB | apply zab.zaD) | exact HI0.out)⟩, ⟨by repeat (first | (with_reducible first | exact HK.out | apply KeepBut.set_ | apply zah | apply zaj | apply keep_alloc) | exact HK.out)⟩, ⟨by repeat (first | (with_reducible first | exact HB.out | apply zae | apply zaa | apply zad | refine zai ?_ (zab.ge HI0.out)) | exact HB.out)⟩⟩
   case rest =>
    clear HC8
    try clear c5b0
    try clear c6b0
    try clear p7
    try clear q7
    try clear hx7
    try clear hcv13
    try clear p7
    try clear q7
    obtain ⟨kq, x24_7, x1001_7, x1002_7, x1003_7, rfl, HA, HJ7, HI0, HK, HB⟩ := hcut
    cases kq with
    | zero => exact absurd HA.out (by simp [zay.j0])
    | succ kj7 =>
     have H := HA.out; clear HA
     simp only [zay.j0] at H
     by_cases c17 : x24_7 = true
     ·subst c17
      replace H : (if 0 ≤ t351 then (if t351 ≤ (a1.size : Int) then (if (a1.extract 0 (t351 : Int).toNat).size + (strOfNums y359).size ≤ 9223372036854775807 then (if ((a1.extract 0 (t351 : Int).toNat) ++ (strOfNums y359)).size + (a1.extract (t351 : Int).toNat a1.size).size ≤ 9223372036854775807 then (some (((a1.extract 0 (t351 : Int).toNat) ++ (strOfNums y359)) ++ (a1.extract (t351 : Int).toNat a1.size), x1001_7, x1002_7, x1003_7)) else (none)) else (none)) else (none)) else (none)) = some (r1, r2, r3, r4) := by rw [if_pos rfl] at H; exact H
      by_cases c18 : 0 ≤ t351
      ·rw [if_pos c18] at H
       have c18b0 := eq_true c18
       have c18b1 : decide (0 ≤ t351) = true := decide_eq_true c18
       clear c18
       by_cases c19 : t351 ≤ (a1.size : Int)
       ·rw [if_pos c19] at H
        have c19b0 := eq_true c19
        have c19b1 : decide (t351 ≤ (a1.size : Int)) = true := decide_eq_true c19
        clear c19
        by_cases c20 : (a1.extract 0 (t351 : Int).toNat).size + (strOfNums y359).size ≤ 9223372036854775807
        ·rw [if_pos c20] at H
         have c20b0 := eq_true c20
         have c20b1 : decide ((a1.extract 0 (t351 : Int).toNat).size + (strOfNums y359).size ≤ 9223372036854775807) = true := decide_eq_true c20
         try have c20b2 : (9223372036854775807 < (a1.extract 0 (t351 : Int).toNat).size + (strOfNums y359).size) = False := eq_false (Nat.not_lt.2 c20)
         have c21b0 := eq_true (of_decide_eq_true (by first | (with_reducible assumption) | assumption) : 0 ≤ t351)
         have c22b0 := eq_true (of_decide_eq_true (by first | (with_reducible assumption) | assumption) : t351 ≤ (a1.size : Int))
         by_cases c23 : ((a1.extract 0 (t351 : Int).toNat) ++ (strOfNums y359)).size + (a1.extract (t351 : Int).toNat a1.size).size ≤ 9223372036854775807
         ·rw [if_pos c23] at H
          have c23b0 := eq_true c23
          have c23b1 : decide (((a1.extract 0 (t351 : Int).toNat) ++ (strOfNums y359)).size + (a1.extract (t351 : Int).toNat a1.size).size ≤ 9223372036854775807) = true := decide_eq_true c23
          try have c23b2 : (9223372036854775807 < ((a1.extract 0 (t351 : Int).toNat) ++ (strOfNums y359)).size + (a1.extract (t351 : Int).toNat a1.size).size) = False := eq_false (Nat.not_lt.2 c23)
          simp only [Option.some.injEq, Prod.mk.injEq] at H
          obtain ⟨rfl, rfl, rfl, rfl⟩ := H
          go_wp2
          repeat (go_quiet (fail); try go_wp2)
          go_ret
          exact ⟨by first | rfl | (simp [zan, zam] <;> rfl) | (simp [*, zan, zam] <;> rfl), by repeat (first | (with_reducible first | exact HI0.out | apply zab.alloc | apply zab.drewN | apply zab.drew | apply zab.zaC | apply zab.zaB | apply zab.zaD) | exact HI0.out), by repeat (first | (with_reducible first | exact HB.out | apply zae | apply zaa | apply zad | refine zai ?_ (zab.ge HI0.out)) | exact HB.out), by repeat (first | (with_reducible first | exact HK.out | apply KeepBut.set_ | apply zah | apply zaj | apply keep_alloc) | exact HK.out)⟩
         rw [if_neg c23] at H
         exact absurd H (by simp)
        rw [if_neg c20] at H
        exact absurd H (by simp)
       rw [if_neg c19] at H
       exact absurd H (by simp)
      rw [if_neg c18] at H
      exact absurd H (by simp)
     replace c17 := Bool.eq_false_iff.mpr c17
     subst c17
     replace H : ((zax.f s0_0 x1001_7 x1002_7 x1003_7 2).bind fun bt366 => (if bt366.1 = true then (if 0 ≤ t351 then (if t351 ≤ (a1.size : Int) then (if 0 ≤ (wrap64 (t351 + 1)) then (if (wrap64 (t351 + 1)) ≤ (a1.size : Int) then (if (a1.extract 0 (t351 : Int).toNat).size + (a1.extract ((wrap64 (t351 + 1)) : Int).toNat a1.size).size ≤ 9223372036854775807 then (some ((a1.extract 0 (t351 : Int).toNat) ++ (a1.extract ((wrap64 (t351 + 1)) : Int).toNat a1.size), bt366.2.1, bt366.2.2.1, bt366.2.2.2)) else (none)) else (none)) else (none)) else (none)) else (none)) else (if 0 ≤ t351 then (if t351 ≤ (a1.size : Int) then (if (a1.extract 0 (t351 : Int).toNat).size + (strOfNums y359).size ≤ 9223372036854775807 then (if 0 ≤ (wrap64 (t351 + 1)) then (if (wrap64 (t351 + 1)) ≤ (a1.size : Int) then (if ((a1.extract 0 (t351 : Int).toNat) ++ (strOfNums y359)).size + (a1.extract ((wrap64 (t351 + 1)) : Int).toNat a1.size).size ≤ 9223372036854775807 then (some (((a1.extract 0 (t351 : Int).toNat) ++ (strOfNums y359)) ++ (a1.extract ((wrap64 (t351 + 1)) : Int).toNat a1.size), bt366.2.1, bt366.2.2.1, bt366.2.2.2)) else (none)) else (none)) else (none)) else (none)) else (none)) else (none)))) = some (r1, r2, r3, r4) := by rw [if_neg (show ¬ (false = true) by decide)] at H; exact H
     replace H := Option.bind_eq_some_iff.mp H
     obtain ⟨⟨t366, t367, t368, t369⟩, A240, H⟩ := H
     replace H : (if t366 = true then (if 0 ≤ t351 then (if t351 ≤ (a1.size : Int) then (if 0 ≤ (wrap64 (t351 + 1)) then (if (wrap64 (t351 + 1)) ≤ (a1.size : Int) then (if (a1.extract 0 (t351 : Int).toNat).size + (a1.extract ((wrap64 (t351 + 1)) : Int).toNat a1.size).size ≤ 9223372036854775807 then (some ((a1.extract 0 (t351 : Int).toNat) ++ (a1.extract ((wrap64 (t351 + 1)) : Int).toNat a1.size), t367, t368, t369)) else (none)) else (none)) else (none)) else (none)) else (none)) else (if 0 ≤ t351 then (if t351 ≤ (a1.size : Int) then (if (a1.extract 0 (t351 : Int).toNat).size + (strOfNums y359).size ≤ 9223372036854775807 then (if 0 ≤ (wrap64 (t351 + 1)) then (if (wrap64 (t351 + 1)) ≤ (a1.size : Int) then (if ((a1.extract 0 (t351 : Int).toNat) ++ (strOfNums y359)).size + (a1.extract ((wrap64 (t351 + 1)) : Int).toNat a1.size).size ≤ 9223372036854775807 then (some (((a1.extract 0 (t351 : Int).toNat) ++ (strOfNums y359)) ++ (a1.extract ((wrap64 (t351 + 1)) : Int).toNat a1.size), t367, t368, t369)) else (none)) else (none)) else (none)) else (none)) else (none)) else (none))) = some (r1, r2, r3, r4) := H
     have A24 := zac.mk A240; clear A240
     by_cases c25 : t366 = true
     ·subst c25
      replace H : (if 0 ≤ t351 then (if t351 ≤ (a1.size : Int) then (if 0 ≤ (wrap64 (t351 + 1)) then (if (wrap64 (t351 + 1)) ≤ (a1.size : Int) then (if (a1.extract 0 (t351 : Int).toNat).size + (a1.extract ((wrap64 (t351 + 1)) : Int).toNat a1.size).size ≤ 9223372036854775807 then (some ((a1.extract 0 (t351 : Int).toNat) ++ (a1.extract ((wrap64 (t351 + 1)) : Int).toNat a1.size), t367, t368, t369)) else (none)) else (none)) else (none)) else (none)) else (none)) = some (r1, r2, r3, r4) := by rw [if_pos rfl] at H; exact H
      by_cases c26 : 0 ≤ t351
      ·rw [if_pos c26] at H
       have c26b0 := eq_true c26
       have c26b1 : decide (0 ≤ t351) = true := decide_eq_true c26
       clear c26
       by_cases c27 : t351 ≤ (a1.size : Int)
       ·rw [if_pos c27] at H
        have c27b0 := eq_true c27
        have c27b1 : decide (t351 ≤ (a1.size : Int)) = true := decide_eq_true c27
        clear c27
        obtain ⟨ji28, hji28⟩ : ∃ j_ : Int, (wrap64 (t351 + 1)) = j_ := ⟨_, rfl⟩
        replace H : (if 0 ≤ (ji28) then (if (ji28) ≤ (a1.size : Int) then (if (a1.extract 0 (t351 : Int).toNat).size + (a1.extract ((ji28) : Int).toNat a1.size).size ≤ 9223372036854775807 then (some ((a1.extract 0 (t351 : Int).toNat) ++ (a1.extract ((ji28) : Int).toNat a1.size), t367, t368, t369)) else (none)) else (none)) else (none)) = some (r1, r2, r3, r4) := by first | (rw [hji28] at H; exact H) | (simp only [hji28] at H ⊢; exact H)
        (try rw [hji28] at A24)
        have hji28w : (IntKind.i64.wrap (t351 + 1)) = ji28 := (i64_w _).trans hji28
        by_cases c29 : 0 ≤ (ji28)
        ·rw [if_pos c29] at H
         have c29b0 := eq_true c29
         have c29b1 : decide (0 ≤ (ji28)) = true := decide_eq_true c29
         clear c29
         by_cases c30 : (ji28) ≤ (a1.size : Int)
         ·rw [if_pos c30] at H
          have c30b0 := eq_true c30
          have c30b1 : decide ((ji28) ≤ (a1.size : Int)) = true := decide_eq_true c30
          clear c30
          by_cases c31 : (a1.extract 0 (t351 : Int).toNat).size + (a1.extract ((ji28) : Int).toNat a1.size).size ≤ 9223372036854775807
          ·rw [if_pos c31] at H
           have c31b0 := eq_true c31
           have c31b1 : decide ((a1.extract 0 (t351 : Int).toNat).size + (a1.extract ((ji28) : Int).toNat a1.size).size ≤ 9223372036854775807) = true := decide_eq_true c31
           try have c31b2 : (9223372036854775807 < (a1.extract 0 (t351 : Int).toNat).size + (a1.extract ((ji28) : Int).toNat a1.size).size) = False := eq_false (Nat.not_lt.2 c31)
           simp only [Option.some.injEq, Prod.mk.injEq] at H
           obtain ⟨rfl, rfl, rfl, rfl⟩ := H
           go_wp2_with (first | (go_at_call 44; (with_reducible refine (zax.calls g s0_0 x1001_7 x1002_7 x1003_7 2 true t367 t368 t369 w0 _ ?side1 ?side2 A24.out).mono ?_); (case side1 => repeat (first | (with_reducible first | exact HI0.out | apply zab.alloc | apply zab.drewN | apply zab.drew | apply zab.zaC | apply zab.zaB | apply zab.zaD) | exact HI0.out)); (case side2 => repeat (first | (with_reducible first | exact HB.out | apply zae | apply zaa | apply zad | refine zai ?_ (zab.ge HI0.out)) | exact HB.out)); rintro e w32 ⟨rfl, hi, hb, hk⟩; have n0_ := zac.mk (KeepBut.trans (by repeat (first | (with_reducible first | exact HK.out | apply KeepBut.set_ | apply zah | apply zaj | apply keep_alloc) | exact HK.out)) hk (.inl rfl)); have n1_ := zac.mk (hb); have n2_ := zac.mk (hi); clear HK HB HI0; have HK := n0_; have HB := n1_; have HI0 := n2_; clear n0_ n1_ n2_; (try clear hb); (try clear hb2); (try clear hk); (try clear hi)))
           repeat (go_quiet (first | (go_at_call 44; (with_reducible refine (zax.calls g s0_0 x1001_7 x1002_7 x1003_7 2 true t367 t368 t369 w0 _ ?side1 ?side2 A24.out).mono ?_); (case side1 => repeat (first | (with_reducible first | exact HI0.out | apply zab.alloc | apply zab.drewN | apply zab.drew | apply zab.zaC | apply zab.zaB | apply zab.zaD) | exact HI0.out)); (case side2 => repeat (first | (with_reducible first | exact HB.out | apply zae | apply zaa | apply zad | refine zai ?_ (zab.ge HI0.out)) | exact HB.out)); rintro e w32 ⟨rfl, hi, hb, hk⟩; have n0_ := zac.mk (KeepBut.trans (by repeat (first | (with_reducible first | exact HK.out | apply KeepBut.set_ | apply zah | apply zaj | apply keep_alloc) | exact HK.out)) hk (.inl rfl)); have n1_ := zac.mk (hb); have n2_ := zac.mk (hi); clear HK HB HI0; have HK := n0_; have HB := n1_; have HI0 := n2_; clear n0_ n1_ n2_; (try clear hb); (try clear hb2); (try clear hk); (try clear hi))); try go_wp2_with (first | (go_at_call 44; (with_reducible refine (zax.calls g s0_0 x1001_7 x1002_7 x1003_7 2 true t367 t368 t369 w0 _ ?side1 ?side2 A24.out).mono ?_); (case side1 => repeat (first | (with_reducible first | exact HI0.out | apply zab.alloc | apply zab.drewN | apply zab.drew | apply zab.zaC | apply zab.zaB | apply zab.zaD) | exact HI0.out)); (case side2 => repeat (first | (with_reducible first | exact HB.out | apply zae | apply zaa | apply zad | refine zai ?_ (zab.ge HI0.out)) | exact HB.out)); rintro e w32 ⟨rfl, hi, hb, hk⟩; have n0_ := zac.mk (KeepBut.trans (by repeat (first | (with_reducible first | exact HK.out | apply KeepBut.set_ | apply zah | apply zaj | apply keep_alloc) | exact HK.out)) hk (.inl rfl)); have n1_ := zac.mk (hb); have n2_ := zac.mk (hi); clear HK HB HI0; have HK := n0_; have HB := n1_; have HI0 := n2_; clear n0_ n1_ n2_; (try clear hb); (try clear hb2); (try clear hk); (try clear hi))))
           go_ret
           exact ⟨by first | rfl | (simp [zan, zam] <;> rfl) | (simp only [← hji28]; first | rfl | (simp [zan, zam] <;> rfl)) | (simp [*, zan, zam] <;> rfl), by repeat (first | (with_reducible first | exact HI0.out | apply zab.alloc | apply zab.drewN | apply zab.drew | apply zab.zaC | apply zab.zaB | apply zab.zaD) | exact HI0.out), by repeat (first | (with_reducible first | exact HB.out | apply zae | apply zaa | apply zad | refine zai ?_ (zab.ge HI0.out)) | exact HB.out), by repeat (first | (with_reducible first | exact HK.out | apply KeepBut.set_ | apply zah | apply zaj | apply keep_alloc) | exact HK.out)⟩
          rw [if_neg c31] at H
          exact absurd H (by simp)
         rw [if_neg c30] at H
         exact absurd H (by simp)
        rw [if_neg c29] at H
        exact absurd H (by simp)
       rw [if_neg c27] at H
       exact absurd H (by simp)
      rw [if_neg c26] at H
      exact absurd H (by simp)
     replace c25 := Bool.eq_false_iff.mpr c25
     subst c25
     replace H : (if 0 ≤ t351 then (if t351 ≤ (a1.size : Int) then (if (a1.extract 0 (t351 : Int).toNat).size + (strOfNums y359).size ≤ 9223372036854775807 then (if 0 ≤ (wrap64 (t351 + 1)) then (if (wrap64 (t351 + 1)) ≤ (a1.size : Int) then (if ((a1.extract 0 (t351 : Int).toNat) ++ (strOfNums y359)).size + (a1.extract ((wrap64 (t351 + 1)) : Int).toNat a1.size).size ≤ 9223372036854775807 then (some (((a1.extract 0 (t351 : Int).toNat) ++ (strOfNums y359)) ++ (a1.extract ((wrap64 (t351 + 1)) : Int).toNat a1.size), t367, t368, t369)) else (none)) else (none)) else (none)) else (none)) else (none)) else (none)) = some (r1, r2, r3, r4) := by rw [if_neg (show ¬ (false = true) by decide)] at H; exact H
     by_cases c33 : 0 ≤ t351
     ·rw [if_pos c33] at H
      have c33b0 := eq_true c33
      have c33b1 : decide (0 ≤ t351) = true := decide_eq_true c33
      clear c33
      by_cases c34 : t351 ≤ (a1.size : Int)
      ·rw [if_pos c34] at H
       have c34b0 := eq_true c34
       have c34b1 : decide (t351 ≤ (a1.size : Int)) = true := decide_eq_true c34
       clear c34
       by_cases c35 : (a1.extract 0 (t351 : Int).toNat).size + (strOfNums y359).size ≤ 9223372036854775807
       ·rw [if_pos c35] at H
        have c35b0 := eq_true c35
        have c35b1 : decide ((a1.extract 0 (t351 : Int).toNat).size + (strOfNums y359).size ≤ 9223372036854775807) = true := decide_eq_true c35
        try have c35b2 : (9223372036854775807 < (a1.extract 0 (t351 : Int).toNat).size + (strOfNums y359).size) = False := eq_false (Nat.not_lt.2 c35)
        obtain ⟨ji36, hji36⟩ : ∃ j_ : Int, (wrap64 (t351 + 1)) = j_ := ⟨_, rfl⟩
        replace H : (if 0 ≤ (ji36) then (if (ji36) ≤ (a1.size : Int) then (if ((a1.extract 0 (t351 : Int).toNat) ++ (strOfNums y359)).size + (a1.extract ((ji36) : Int).toNat a1.size).size ≤ 9223372036854775807 then (some (((a1.extract 0 (t351 : Int).toNat) ++ (strOfNums y359)) ++ (a1.extract ((ji36) : Int).toNat a1.size), t367, t368, t369)) else (none)) else (none)) else (none)) = some (r1, r2, r3, r4) := by first | (rw [hji36] at H; exact H) | (simp only [hji36] at H ⊢; exact H)
        (try rw [hji36] at A24)
        have hji36w : (IntKind.i64.wrap (t351 + 1)) = ji36 := (i64_w _).trans hji36
        by_cases c37 : 0 ≤ (ji36)
        ·rw [if_pos c37] at H
         have c37b0 := eq_true c37
         have c37b1 : decide (0 ≤ (ji36)) = true := decide_eq_true c37
         clear c37
         by_cases c38 : (ji36) ≤ (a1.size : Int)
         ·rw [if_pos c38] at H
          have c38b0 := eq_true c38
          have c38b1 : decide ((ji36) ≤ (a1.size : Int)) = true := decide_eq_true c38
          clear c38
          by_cases c39 : ((a1.extract 0 (t351 : Int).toNat) ++ (strOfNums y359)).size + (a1.extract ((ji36) : Int).toNat a1.size).size ≤ 9223372036854775807
          ·rw [if_pos c39] at H
           have c39b0 := eq_true c39
           have c39b1 : decide (((a1.extract 0 (t351 : Int).toNat) ++ (strOfNums y359)).size + (a1.extract ((ji36) : Int).toNat a1.size).size ≤ 9223372036854775807) = true := decide_eq_true c39
           try have c39b2 : (9223372036854775807 < ((a1.extract 0 (t351 : Int).toNat) ++ (strOfNums y359)).size + (a1.extract ((ji36) : Int).toNat a1.size).size) = False := eq_false (Nat.not_lt.2 c39)
           simp only [Option.some.injEq, Prod.mk.injEq] at H
           obtain ⟨rfl, rfl, rfl, rfl⟩ := H
           go_wp2_with (first | (go_at_call 44; (with_reducible refine (zax.calls g s0_0 x1001_7 x1002_7 x1003_7 2 false t367 t368 t369 w0 _ ?side1 ?side2 A24.out).mono ?_); (case side1 => repeat (first | (with_reducible first | exact HI0.out | apply zab.alloc | apply zab.drewN | apply zab.drew | apply zab.zaC | apply zab.zaB | apply zab.zaD) | exact HI0.out)); (case side2 => repeat (first | (with_reducible first | exact HB.out | apply zae | apply zaa | apply zad | refine zai ?_ (zab.ge HI0.out)) | exact HB.out)); rintro e w40 ⟨rfl, hi, hb, hk⟩; have n0_ := zac.mk (KeepBut.trans (by repeat (first | (with_reducible first | exact HK.out | apply KeepBut.set_ | apply zah | apply zaj | apply keep_alloc) | exact HK.out)) hk (.inl rfl)); have n1_ := zac.mk (hb); have n2_ := zac.mk (hi); clear HK HB HI0; have HK := n0_; have HB := n1_; have HI0 := n2_; clear n0_ n1_ n2_; (try clear hb); (try clear hb2); (try clear hk); (try clear hi)))
           repeat (go_quiet (first | (go_at_call 44; (with_reducible refine (zax.calls g s0_0 x1001_7 x1002_7 x1003_7 2 false t367 t368 t369 w0 _ ?side1 ?side2 A24.out).mono ?_); (case side1 => repeat (first | (with_reducible first | exact HI0.out | apply zab.alloc | apply zab.drewN | apply zab.drew | apply zab.zaC | apply zab.zaB | apply zab.zaD) | exact HI0.out)); (case side2 => repeat (first | (with_reducible first | exact HB.out | apply zae | apply zaa | apply zad | refine zai ?_ (zab.ge HI0.out)) | exact HB.out)); rintro e w40 ⟨rfl, hi, hb, hk⟩; have n0_ := zac.mk (KeepBut.trans (by repeat (first | (with_reducible first | exact HK.out | apply KeepBut.set_ | apply zah | apply zaj | apply keep_alloc) | exact HK.out)) hk (.inl rfl)); have n1_ := zac.mk (hb); have n2_ := zac.mk (hi); clear HK HB HI0; have HK := n0_; have HB := n1_; have HI0 := n2_; clear n0_ n1_ n2_; (try clear hb); (try clear hb2); (try clear hk); (try clear hi))); try go_wp2_with (first | (go_at_call 44; (with_reducible refine (zax.calls g s0_0 x1001_7 x1002_7 x1003_7 2 false t367 t368 t369 w0 _ ?side1 ?side2 A24.out).mono ?_); (case side1 => repeat (first | (with_reducible first | exact HI0.out | apply zab.alloc | apply zab.drewN | apply zab.drew | apply zab.zaC | apply zab.zaB | apply zab.zaD) | exact HI0.out)); (case side2 => repeat (first | (with_reducible first | exact HB.out | apply zae | apply zaa | apply zad | refine zai ?_ (zab.ge HI0.out)) | exact HB.out)); rintro e w40 ⟨rfl, hi, hb, hk⟩; have n0_ := zac.mk (KeepBut.trans (by repeat (first | (with_reducible first | exact HK.out | apply KeepBut.set_ | apply zah | apply zaj | apply keep_alloc) | exact HK.out)) hk (.inl rfl)); have n1_ := zac.mk (hb); have n2_ := zac.mk (hi); clear HK HB HI0; have HK := n0_; have HB := n1_; have HI0 := n2_; clear n0_ n1_ n2_; (try clear hb); (try clear hb2); (try clear hk); (try clear hi))))
           go_ret
           exact ⟨by first | rfl | (simp [zan, zam] <;> rfl) | (simp only [← hji36]; first | rfl | (simp [zan, zam] <;> rfl)) | (simp [*, zan, zam] <;> rfl), by repeat (first | (with_reducible first | exact HI0.out | apply zab.alloc | apply zab.drewN | apply zab.drew | apply zab.zaC | apply zab.zaB | apply zab.zaD) | exact HI0.out), by repeat (first | (with_reducible first | exact HB.out | apply zae | apply zaa | apply zad | refine zai ?_ (zab.ge HI0.out)) | exact HB.out), by repeat (first | (with_reducible first | exact HK.out | apply KeepBut.set_ | apply zah | apply zaj | apply keep_alloc) | exact HK.out)⟩
          rw [if_neg c39] at H
          exact absurd H (by simp)
         rw [if_neg c38] at H
         exact absurd H (by simp)
        rw [if_neg c37] at H
        exact absurd H (by simp)
       rw [if_neg c35] at H
       exact absurd H (by simp)
      rw [if_neg c34] at H
      exact absurd H (by simp)
     rw [if_neg c33] at H
     exact absurd H (by simp)
  rw [if_neg c6] at H
  exact absurd H (by simp)
 rw [if_neg c5] at H
 exact absurd H (by simp)
def zaM.l0 : Nat → ByteArray → Int → List Int → List Int → Int → Int → Int → Option (ByteArray × Int × Int × Int)
 | 0, _, _, _, _, _, _, _ => none
 | k + 1, x1, x2, x7, x1000, x1001, x1002, x1003 => if (x7.length : Int) < x2 then (if x7.length + x1.size < 140737488355328 then (zaM.l0 k x1 x2 (x7 ++ bytesOf x1) x1000 x1001 x1002 x1003) else (none)) else (if 0 ≤ x2 then (if x2 ≤ (x7.length : Int) then (some (strOfNums (x7.take (x2 : Int).toNat), x1001, x1002, x1003)) else (none)) else (none))
def zaM.f (k : Nat) (s0_0 : List Int) (s0_1 : Int) (s0_2 : Int) (s0_3 : Int) (a1 : ByteArray) (a2 : Int) : Option (ByteArray × Int × Int × Int) := zaM.l0 k a1 a2 (([] : List Int)) s0_0 s0_1 s0_2 s0_3
set_option maxHeartbeats 8000000 in
set_option maxRecDepth 100000 in
theorem zaM.calls (k : Nat) (g : Nat) (s0_0 : List Int) (s0_1 : Int) (s0_2 : Int) (s0_3 : Int) (a1 : ByteArray) (a2 : Int) (r1 : ByteArray) (r2 : Int) (r3 : Int) (r4 : Int) (w0 w : World) (hI : zab w0 w g s0_0 s0_1 s0_2 s0_3) (hB : Below w0.heap.size w0 w) (h : zaM.f k s0_0 s0_1 s0_2 s0_3 a1 a2 = some (r1, r2, r3, r4)) :
  Calls Tryd.prog 93 #[.pointer (some ⟨g, 0, none⟩), .string a1, .int .i64 a2] w fun e w' => e = .returned (.string r1) ∧ zab w0 w' g s0_0 r2 r3 r4 ∧ Below w0.heap.size w0 w' ∧ KeepBut w w' g none := by
 have HI0 := zac.mk hI
 have HK := zac.mk (KeepBut.refl w g none)
 have HL := zac.mk hB.size; clear hI; have HW0 := zac.mk hB.size; have HB := zac.mk hB; clear hB
 have H : (zaM.l0 k a1 a2 (([] : List Int)) s0_0 s0_1 s0_2 s0_3) = some (r1, r2, r3, r4) := h
 clear h
 obtain ⟨y370, hy370⟩ : ∃ y_ : List Int, y_ = (([] : List Int)) := ⟨_, rfl⟩
 replace H : (zaM.l0 k a1 a2 y370 s0_0 s0_1 s0_2 s0_3) = some (r1, r2, r3, r4) := by first | (rw [hy370]; with_reducible exact H) | (have H2_ := (Option.bind_some _ _).symm.trans H; rw [hy370]; with_reducible exact H2_) | (have H2_ := (Option.bind_some _ _).symm.trans H; with_reducible exact H2_) | with_reducible exact H | (rw [hy370]; exact H) | exact H
 have Ny370 := zac.mk hy370; clear hy370; have H' := zac.mk H; clear H
 go_enter Tryd.func93, Tryd.ntmps93
 go_wp2_with (first | ((with_reducible refine zaW (N := 8) rfl ?_); refine Kd.R_lit (Kd.int .u8) _ 5 ?hg (N := 8) ?hd (xs := ([] : List Int)) (inner := []) (ok := fun _ => True) (okp := fun _ => True) ?hr ?hp (fun _ hk => hk) trivial (Below.refl _ _) (Nat.le_refl _) (by simp) ?_; (case hd => rfl); (case hg => rfl); (case hr => first | (go_simp; done) | (go_simp; rfl)); (case hp => exact (Reps.none _ _)); intro v371 w4 ho5 hb hg_ hnew_; clear hg_ hnew_; (first | rw [← Ny370.out] at ho5 | (simp only [Int.reduceToNat] at ho5; rw [← Ny370.out] at ho5)); have n0_ := zac.mk (Kd.R_lower ho5 (keep_size (w := w) (g := g) (row := none) (by repeat (first | (with_reducible first | exact HK.out | apply KeepBut.set_ | apply zah | apply zaj | apply keep_alloc) | exact HK.out)))); have n1_ := zac.mk (zab.below (by repeat (first | (with_reducible first | exact HI0.out | apply zab.alloc | apply zab.drewN | apply zab.drew | apply zab.zaC | apply zab.zaB | apply zab.zaD) | exact HI0.out)) hb); have n2_ := zac.mk (KeepBut.trans (by repeat (first | (with_reducible first | exact HK.out | apply KeepBut.set_ | apply zah | apply zaj | apply keep_alloc) | exact HK.out)) (KeepBut.of_below hb g none) (.inl rfl)); have n3_ := zac.mk (zaw (by repeat (first | (with_reducible first | exact HB.out | apply zae | apply zaa | apply zad | refine zai ?_ (zab.ge HI0.out)) | exact HB.out)) hb); clear HI0 HK HB; have HO372 := n0_; have HI0 := n1_; have HK := n2_; have HB := n3_; clear n0_ n1_ n2_ n3_ hb ho5))
 go_loopg [7] k (fun kq v7 w' => ∃ (x7_1 : List Int), zac (zaM.l0 kq a1 a2 x7_1 s0_0 s0_1 s0_2 s0_3 = some (r1, r2, r3, r4)) ∧ zac (kq ≤ k) ∧ zac (Kd.R (Kd.int .u8) 5 w' w.heap.size (fun _ => True) v7 x7_1) ∧ zac (zab w0 w' g s0_0 s0_1 s0_2 s0_3) ∧ zac (KeepBut w w' g none) ∧ zac (Below w0.heap.size w0 w'))
 case atStart => exact ⟨(y370), H', ⟨Nat.le_refl _⟩, ⟨by (with_reducible repeat (first | apply Kd.zav | apply Kd.zau | apply Kd.R_drew)); exact HO372.out⟩, ⟨by repeat (first | (with_reducible first | exact HI0.out | apply zab.alloc | apply zab.drewN | apply zab.drew | apply zab.zaC | apply zab.zaB | apply zab.zaD) | exact HI0.out)⟩, ⟨by repeat (first | (with_reducible first | exact HK.out | apply KeepBut.set_ | apply zah | apply zaj | apply keep_alloc) | exact HK.out)⟩, ⟨by repeat (first | (with_reducible first | exact HB.out | apply zae | apply zaa | apply zad | refine zai ?_ (zab.ge HI0.out)) | exact HB.out)⟩⟩
 case round =>
  clear H'
  obtain ⟨x7_1, HA, HK1, HO_7, HI0, HK, HB⟩ := hrel
  cases gk with
  | zero => exact absurd HA.out (by simp [zaM.l0])
  | succ k1 =>
   have H := HA.out; clear HA
   simp only [zaM.l0] at H
   by_cases c6 : (x7_1.length : Int) < a2
   ·rw [if_pos c6] at H
    have c6b0 : decide ((x7_1.length : Int) < a2) = true := decide_eq_true c6
    clear c6
    by_cases c7 : x7_1.length + a1.size < 140737488355328
    ·rw [if_pos c7] at H; have LMc7 := zac.mk c7; clear c7
     obtain ⟨y373, hy373⟩ : ∃ y_ : List Int, y_ = (x7_1 ++ bytesOf a1) := ⟨_, rfl⟩
     replace H : (zaM.l0 k1 a1 a2 y373 s0_0 s0_1 s0_2 s0_3) = some (r1, r2, r3, r4) := by first | (rw [hy373]; with_reducible exact H) | (have H2_ := (Option.bind_some _ _).symm.trans H; rw [hy373]; with_reducible exact H2_) | (have H2_ := (Option.bind_some _ _).symm.trans H; with_reducible exact H2_) | with_reducible exact H | (rw [hy373]; exact H) | exact H
     have Ny373 := zac.mk hy373; clear hy373; have H' := zac.mk H; clear H
     obtain ⟨Ao8, co8, eo8⟩ := Kd.R_slice HO_7.out
     subst eo8
     go_wp2_with (first | (at_builtin; refine print_append_str w.heap.size rfl (.tmp 13) _ 22 9 5 rfl Tryd.underlying22 Tryd.underlying9 info5 (.slice Ao8 x7_1.length co8) x7_1 a1 rfl rfl ?aO (Below.refl _ _) ?aS ?aL ?_; (case aO => exact (Kd.own_of_R (by (with_reducible repeat (first | apply Kd.zav | apply Kd.zau | apply Kd.R_drew)); exact HO_7.out))); (case aS => exact (keep_size (w := w) (g := g) (row := none) (by repeat (first | (with_reducible first | exact HK.out | apply KeepBut.set_ | apply zah | apply zaj | apply keep_alloc) | exact HK.out)))); (case aL => have := LMc7.out; omega); intro v374 w9 ho0 hb hg; have ho := Kd.R_of_own (h1 := fun _ => rfl) (ok := fun _ => True) ho0 (fun _ _ => trivial); clear ho0; have hat := True.intro; rw [← Ny373.out] at ho; change Kd.R (Kd.int .u8) 5 w9 w.heap.size (fun _ => True) v374 y373 at ho; have n0_ := zac.mk (zab.grown (by repeat (first | (with_reducible first | exact HI0.out | apply zab.alloc | apply zab.drewN | apply zab.drew | apply zab.zaC | apply zab.zaB | apply zab.zaD) | exact HI0.out)) hg (zab.own_ne HI0.out HO_7.out (by decide))); have n1_ := zac.mk (below_weaken (by repeat (first | (with_reducible first | exact HB.out | apply zae | apply zaa | apply zad | refine zai ?_ (zab.ge HI0.out)) | exact HB.out)) HL.out hb); have n2_ := zac.mk (KeepBut.trans (by repeat (first | (with_reducible first | exact HK.out | apply KeepBut.set_ | apply zah | apply zaj | apply keep_alloc) | exact HK.out)) (KeepBut.of_grown hg g) (Kd.R_base2 HO_7.out)); have n3_ := zac.mk (ho); clear HI0 HB HK HO_7; have HI0 := n0_; have HB := n1_; have HK := n2_; have HO375 := n3_; clear n0_ n1_ n2_ n3_ ho hb hg hat))
     go_roundg k1
     case measure => have := HK1.out; omega
     case rel => exact ⟨(y373), H', ⟨by have := HK1.out; omega⟩, ⟨by (with_reducible repeat (first | apply Kd.zav | apply Kd.zau | apply Kd.R_drew)); exact HO375.out⟩, ⟨by repeat (first | (with_reducible first | exact HI0.out | apply zab.alloc | apply zab.drewN | apply zab.drew | apply zab.zaC | apply zab.zaB | apply zab.zaD) | exact HI0.out)⟩, ⟨by repeat (first | (with_reducible first | exact HK.out | apply KeepBut.set_ | apply zah | apply zaj | apply keep_alloc) | exact HK.out)⟩, ⟨by repeat (first | (with_reducible first | exact HB.out | apply zae | apply zaa | apply zad | refine zai ?_ (zab.ge HI0.out)) | exact HB.out)⟩⟩
    rw [if_neg c7] at H
    exact absurd H (by simp)
   rw [if_neg c6] at H
   have c6b0 : decide ((x7_1.length : Int) < a2) = false := decide_eq_false c6
   clear c6
   by_cases c10 : 0 ≤ a2
   ·rw [if_pos c10] at H
    have c10b0 := eq_true c10
    have c10b1 : decide (0 ≤ a2) = true := decide_eq_true c10
    clear c10
    by_cases c11 : a2 ≤ (x7_1.length : Int)
    ·rw [if_pos c11] at H
     have c11b0 := eq_true c11
     have c11b1 : decide (a2 ≤ (x7_1.length : Int)) = true := decide_eq_true c11
     clear c11
     obtain ⟨y376, hy376⟩ : ∃ y_ : List Int, y_ = (x7_1.take (a2 : Int).toNat) := ⟨_, rfl⟩
     replace H : (some (strOfNums y376, s0_1, s0_2, s0_3)) = some (r1, r2, r3, r4) := by first | (rw [hy376]; with_reducible exact H) | (have H2_ := (Option.bind_some _ _).symm.trans H; rw [hy376]; with_reducible exact H2_) | (have H2_ := (Option.bind_some _ _).symm.trans H; with_reducible exact H2_) | with_reducible exact H | (rw [hy376]; exact H) | exact H
     have Ny376 := zac.mk hy376; clear hy376
     simp only [Option.some.injEq, Prod.mk.injEq] at H
     obtain ⟨rfl, rfl, rfl, rfl⟩ := H
     obtain ⟨Ao12, co12, eo12⟩ := Kd.R_slice HO_7.out
     subst eo12
     have q13 : (a2 : Int) ≤ ((x7_1.length : Int) : Int) := of_decide_eq_true (by first | (with_reducible assumption) | assumption)
     obtain ⟨i013, hi013, _, hsz13, _⟩ := info_parts info5
     have hroom13 : x7_1.length ≤ co12 := (Kd.zaY HO_7.out).2.1
     have hC13 : Kd.C (Kd.int .u8) _ Ao12 x7_1.length x7_1 := (Kd.zaY HO_7.out).2.2
     have hcut13 := cut_to (P := Tryd.prog) 22 5 .i64 Tryd.underlying22 hi013 Ao12 x7_1.length co12 a2 (of_decide_eq_true (by first | (with_reducible assumption) | assumption)) q13 hroom13
     have hr13 := Kd.C_take (m := (a2 : Int).toNat) hC13 (by omega)
     have hy13 : y376.length = (a2 : Int).toNat := (by rw [Ny376.out, List.length_take]; omega)
     rw [← Ny376.out] at hr13
     rw [← hy13] at hcut13
     have HR379 := zac.mk hr13
     have HC379 := zac.mk (show y376.length ≤ co12 from by omega)
     clear hr13 hC13 hroom13 hi013 hsz13; have KY13 := zac.mk hy13; clear hy13
     have KL13 := zac.mk (show (a2 : Int).toNat ≤ x7_1.length from by omega)
     replace q13 := eq_true q13
     have hcv14 := Kd.C_string (P := Tryd.prog) (A := Ao12) (c := co12) Tryd.underlying22 Tryd.underlying5 Tryd.underlying9 (by repeat (first | (with_reducible exact HR379.out) | (with_reducible refine Kd.C_alloc ?_ _) | (with_reducible refine Kd.C_drewN ?_ _) | (with_reducible refine Kd.C_drew ?_) | exact HR379.out))
     go_wp2
     go_ret
     exact ⟨by first | rfl | (simp [zan, zam] <;> rfl) | (simp [*, zan, zam] <;> rfl), by repeat (first | (with_reducible first | exact HI0.out | apply zab.alloc | apply zab.drewN | apply zab.drew | apply zab.zaC | apply zab.zaB | apply zab.zaD) | exact HI0.out), by repeat (first | (with_reducible first | exact HB.out | apply zae | apply zaa | apply zad | refine zai ?_ (zab.ge HI0.out)) | exact HB.out), by repeat (first | (with_reducible first | exact HK.out | apply KeepBut.set_ | apply zah | apply zaj | apply keep_alloc) | exact HK.out)⟩
    rw [if_neg c11] at H
    exact absurd H (by simp)
   rw [if_neg c10] at H
   exact absurd H (by simp)
end Go.Proofs.YtbppeepihlajoaaDoor.P
