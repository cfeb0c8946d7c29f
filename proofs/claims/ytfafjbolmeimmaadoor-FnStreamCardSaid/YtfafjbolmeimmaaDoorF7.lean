/- Written by a program of this session: plain Lean functions for Go functions, and for each the proof that the call comes to what the function says. -/
import Derived.Test.YtfafjbolmeimmaaDoorF0
import Derived.Test.YtfafjbolmeimmaaDoorF1
import Derived.Test.YtfafjbolmeimmaaDoorF5
import Derived.Test.YtfafjbolmeimmaaDoorF6
import Derived.Test.YtfafjbolmeimmaaDoorXSn
namespace Go.Proofs.YtfafjbolmeimmaaDoor.P
open Go.RowKit Go.Proofs.YtfafjbolmeimmaaDoorW.PrintWords Go.Proofs.YtfafjbolmeimmaaDoorW.PrintLast Go.Proofs.YtfafjbolmeimmaaDoorW.PrintMore
attribute [local go_sem] max2_int min2_int max_two min_two max_three min_three max_four min_four
set_option linter.unusedVariables false
set_option linter.unusedSimpArgs false
def za1.l0 : Nat → Int → List Int → List Int → Int → Int → Int → Option (ByteArray × Int × Int × Int)
 | 0, _, _, _, _, _, _ => none
 | k + 1, x1, x5, x1000, x1001, x1002, x1003 => if x1 > 0 then ((zaz.f k x1000 x1001 x1002 x1003).bind fun bt391 => (if x5.length < 17592186044416 then (za1.l0 k (wrap64 (x1 - 1)) (x5 ++ [bt391.1]) x1000 bt391.2.1 bt391.2.2.1 bt391.2.2.2) else (none))) else ((zbq.f k x5).bind fun t398 => (some (t398, x1001, x1002, x1003)))
def za1.f (k : Nat) (s0_0 : List Int) (s0_1 : Int) (s0_2 : Int) (s0_3 : Int) (a1 : Int) : Option (ByteArray × Int × Int × Int) := za1.l0 k a1 (([] : List Int)) s0_0 s0_1 s0_2 s0_3
set_option maxHeartbeats 8000000 in
set_option maxRecDepth 100000 in
theorem za1.calls (k : Nat) (g : Nat) (s0_0 : List Int) (s0_1 : Int) (s0_2 : Int) (s0_3 : Int) (a1 : Int) (r1 : ByteArray) (r2 : Int) (r3 : Int) (r4 : Int) (w0 w : World) (hI : zaf w0 w g s0_0 s0_1 s0_2 s0_3) (hB : Below w0.heap.size w0 w) (h : za1.f k s0_0 s0_1 s0_2 s0_3 a1 = some (r1, r2, r3, r4)) :
  Calls Tryd.prog 33 #[.pointer (some ⟨g, 0, none⟩), .int .i64 a1] w fun e w' => e = .returned (.string r1) ∧ zaf w0 w' g s0_0 r2 r3 r4 ∧ Below w0.heap.size w0 w' ∧ KeepBut w w' g none := by
 have HI0 := zab.mk hI
 have HK := zab.mk (KeepBut.refl w g none)
 have HL := zab.mk hB.size; clear hI; have HW0 := zab.mk hB.size; have HB := zab.mk hB; clear hB
 have H : (za1.l0 k a1 (([] : List Int)) s0_0 s0_1 s0_2 s0_3) = some (r1, r2, r3, r4) := h
 clear h
 obtain ⟨y388, hy388⟩ : ∃ y_ : List Int, y_ = (([] : List Int)) := ⟨_, rfl⟩
 replace H : (za1.l0 k a1 y388 s0_0 s0_1 s0_2 s0_3) = some (r1, r2, r3, r4) := by first | (rw [hy388]; with_reducible exact H) | (have H2_ := (Option.bind_some _ _).symm.trans H; rw [hy388]; with_reducible exact H2_) | (have H2_ := (Option.bind_some _ _).symm.trans H; with_reducible exact H2_) | with_reducible exact H | (rw [hy388]; exact H) | exact H
 have Ny388 := zab.mk hy388; clear hy388; have H' := zab.mk H; clear H
 go_enter Tryd.func33, Tryd.ntmps33
 go_wp2_with (first | ((with_reducible refine zbb (N := 6) rfl ?_); refine Kd.R_lit (Kd.int .i64) _ 2 ?hg (N := 6) ?hd (xs := ([] : List Int)) (inner := []) (ok := fun _ => True) (okp := fun _ => True) ?hr ?hp (fun _ hk => hk) trivial (Below.refl _ _) (Nat.le_refl _) (by simp) ?_; (case hd => rfl); (case hg => rfl); (case hr => first | (go_simp; done) | (go_simp; rfl)); (case hp => exact (Reps.none _ _)); intro v389 w3 ho4 hb hg_ hnew_; clear hg_ hnew_; (first | rw [← Ny388.out] at ho4 | (simp only [Int.reduceToNat] at ho4; rw [← Ny388.out] at ho4)); have n0_ := zab.mk (Kd.zbm ho4 (zbB (w := w) (g := g) (row := none) (by repeat (first | (with_reducible first | exact HK.out | apply KeepBut.set_ | apply zao | apply zaq | apply keep_alloc) | exact HK.out)))); have n1_ := zab.mk (zaf.below (by repeat (first | (with_reducible first | exact HI0.out | apply zaf.alloc | apply zaf.drewN | apply zaf.drew | apply zaf.zaX | apply zaf.zaW | apply zaf.zaY) | exact HI0.out)) hb); have n2_ := zab.mk (KeepBut.trans (by repeat (first | (with_reducible first | exact HK.out | apply KeepBut.set_ | apply zao | apply zaq | apply keep_alloc) | exact HK.out)) (KeepBut.of_below hb g none) (.inl rfl)); have n3_ := zab.mk (zau (by repeat (first | (with_reducible first | exact HB.out | apply zad | apply zaa | apply zac | refine zae ?_ (zaf.ge HI0.out)) | exact HB.out)) hb); clear HI0 HK HB; have HO390 := n0_; have HI0 := n1_; have HK := n2_; have HB := n3_; clear n0_ n1_ n2_ n3_ hb ho4))
 go_loopg [1, 5] k (fun kq v1 v5 w' => ∃ (x1_1 : Int) (x5_1 : List Int) (x1001_1 : Int) (x1002_1 : Int) (x1003_1 : Int), v1 = .int .i64 x1_1 ∧ zab (za1.l0 kq x1_1 x5_1 s0_0 x1001_1 x1002_1 x1003_1 = some (r1, r2, r3, r4)) ∧ zab (kq ≤ k) ∧ zab (Kd.R (Kd.int .i64) 2 w' w.heap.size (fun _ => True) v5 x5_1) ∧ zab (zaf w0 w' g s0_0 x1001_1 x1002_1 x1003_1) ∧ zab (KeepBut w w' g none) ∧ zab (Below w0.heap.size w0 w'))
 case atStart => exact ⟨(a1), (y388), (s0_1), (s0_2), (s0_3), (by first | rfl | (simp; done) | (simp [*]; done)), H', ⟨Nat.le_refl _⟩, ⟨by (with_reducible repeat (first | apply Kd.R_alloc | apply Kd.zat | apply Kd.zaw)); exact HO390.out⟩, ⟨by repeat (first | (with_reducible first | exact HI0.out | apply zaf.alloc | apply zaf.drewN | apply zaf.drew | apply zaf.zaX | apply zaf.zaW | apply zaf.zaY) | exact HI0.out)⟩, ⟨by repeat (first | (with_reducible first | exact HK.out | apply KeepBut.set_ | apply zao | apply zaq | apply keep_alloc) | exact HK.out)⟩, ⟨by repeat (first | (with_reducible first | exact HB.out | apply zad | apply zaa | apply zac | refine zae ?_ (zaf.ge HI0.out)) | exact HB.out)⟩⟩
 case round =>
  clear H'
  obtain ⟨x1_1, x5_1, x1001_1, x1002_1, x1003_1, rfl, HA, HK1, HO_5, HI0, HK, HB⟩ := hrel
  cases gk with
  | zero => exact absurd HA.out (by simp [za1.l0])
  | succ k1 =>
   have H := HA.out; clear HA
   simp only [za1.l0] at H
   by_cases c5 : x1_1 > 0
   ·rw [if_pos c5] at H
    have c5b0 : decide (0 < x1_1) = true := decide_eq_true c5
    clear c5; replace H := Option.bind_eq_some_iff.mp H
    obtain ⟨⟨t391, t392, t393, t394⟩, A60, H⟩ := H
    replace H : (if x5_1.length < 17592186044416 then (za1.l0 k1 (wrap64 (x1_1 - 1)) (x5_1 ++ [t391]) s0_0 t392 t393 t394) else (none)) = some (r1, r2, r3, r4) := H
    have A6 := zab.mk A60; clear A60
    by_cases c7 : x5_1.length < 17592186044416
    ·rw [if_pos c7] at H; have LMc7 := zab.mk c7; clear c7
     obtain ⟨y395, hy395⟩ : ∃ y_ : List Int, y_ = (x5_1 ++ [t391]) := ⟨_, rfl⟩
     replace H : (za1.l0 k1 (wrap64 (x1_1 - 1)) y395 s0_0 t392 t393 t394) = some (r1, r2, r3, r4) := by first | (rw [hy395]; with_reducible exact H) | (have H2_ := (Option.bind_some _ _).symm.trans H; rw [hy395]; with_reducible exact H2_) | (have H2_ := (Option.bind_some _ _).symm.trans H; with_reducible exact H2_) | with_reducible exact H | (rw [hy395]; exact H) | exact H
     have Ny395 := zab.mk hy395; clear hy395; have H' := zab.mk H; clear H
     go_wp2_with (first | ((with_reducible refine zan (f := 53) rfl ?_); refine zaN (some 13) rfl rfl Tryd.func53 (by kernel_rfl) rfl #[.pointer (some ⟨g, 0, none⟩)] rfl (by (try simp only [List.map_toArray, List.map_cons, List.map_nil]); first | done | rfl | (simp only [List.length_drop, List.length_take]; rfl)) ?_; (with_reducible refine (zaz.calls k1 g s0_0 x1001_1 x1002_1 x1003_1 t391 t392 t393 t394 w0 _ ?side1 ?side2 A6.out).mono ?_); (case side1 => repeat (first | (with_reducible first | exact HI0.out | apply zaf.alloc | apply zaf.drewN | apply zaf.drew | apply zaf.zaX | apply zaf.zaW | apply zaf.zaY) | exact HI0.out)); (case side2 => repeat (first | (with_reducible first | exact HB.out | apply zad | apply zaa | apply zac | refine zae ?_ (zaf.ge HI0.out)) | exact HB.out)); rintro e w8 ⟨rfl, hi, hb, hk⟩; refine ⟨_, rfl, ?_⟩; have n0_ := zab.mk (Kd.za7 (Kd.R_keep (zaf.apart (show zaf w0 _ g s0_0 x1001_1 x1002_1 x1003_1 from by repeat (first | (with_reducible first | exact HI0.out | apply zaf.alloc | apply zaf.drewN | apply zaf.drew | apply zaf.zaX | apply zaf.zaW | apply zaf.zaY) | exact HI0.out)) (by (with_reducible repeat (first | apply Kd.R_alloc | apply Kd.zat | apply Kd.zaw)); exact HO_5.out) (by decide)) hk (fun _ h => h.2)) (fun _ h => h.1)); have n1_ := zab.mk (KeepBut.trans (by repeat (first | (with_reducible first | exact HK.out | apply KeepBut.set_ | apply zao | apply zaq | apply keep_alloc) | exact HK.out)) hk (.inl rfl)); have n2_ := zab.mk (hb); have n3_ := zab.mk (hi); clear HO_5 HK HB HI0; have HO_5 := n0_; have HK := n1_; have HB := n2_; have HI0 := n3_; clear n0_ n1_ n2_ n3_; (try clear hb); (try clear hb2); (try clear hk); (try clear hi)) | ((with_reducible refine gate_builtin (b := .append) (xs := #[.tmp 11, .tmp 14]) rfl ?_); at_builtin; refine Kd.R_append (Kd.int .i64) w.heap.size rfl (.tmp 11) (.tmp 14) 25 2 (.int .i64 0) 8 rfl Tryd.underlying25 info2 rfl (by decide) (by omega) u5 x5_1 t391 [.int .i64 t391] (fun _ => True) (fun _ => False) rfl rfl ?aP (fun _ hk => hk.elim) ?aF ?aO (Below.refl _ _) ?aS ?aL ?_; (case aP => exact rfl); (case aF => exact (fun _ _ => trivial)); (case aO => exact (by (with_reducible repeat (first | apply Kd.R_alloc | apply Kd.zat | apply Kd.zaw)); exact HO_5.out)); (case aS => exact (zbB (w := w) (g := g) (row := none) (by repeat (first | (with_reducible first | exact HK.out | apply KeepBut.set_ | apply zao | apply zaq | apply keep_alloc) | exact HK.out)))); (case aL => have := LMc7.out; omega); intro v396 w9 ho hb hg hat; rw [← Ny395.out] at ho; have n0_ := zab.mk (zaf.grown (by repeat (first | (with_reducible first | exact HI0.out | apply zaf.alloc | apply zaf.drewN | apply zaf.drew | apply zaf.zaX | apply zaf.zaW | apply zaf.zaY) | exact HI0.out)) hg (zaf.own_ne HI0.out HO_5.out (by decide))); have n1_ := zab.mk (below_weaken (by repeat (first | (with_reducible first | exact HB.out | apply zad | apply zaa | apply zac | refine zae ?_ (zaf.ge HI0.out)) | exact HB.out)) HL.out hb); have n2_ := zab.mk (KeepBut.trans (by repeat (first | (with_reducible first | exact HK.out | apply KeepBut.set_ | apply zao | apply zaq | apply keep_alloc) | exact HK.out)) (KeepBut.of_grown hg g) (Kd.R_base2 HO_5.out)); have n3_ := zab.mk (ho); clear HI0 HB HK HO_5; have HI0 := n0_; have HB := n1_; have HK := n2_; have HO397 := n3_; clear n0_ n1_ n2_ n3_ ho hb hg hat))
     go_roundg k1
     case measure => have := HK1.out; omega
     case rel => exact ⟨(wrap64 (x1_1 - 1)), (y395), (t392), (t393), (t394), (by first | rfl | (simp; done) | (simp [*]; done)), H', ⟨by have := HK1.out; omega⟩, ⟨by (with_reducible repeat (first | apply Kd.R_alloc | apply Kd.zat | apply Kd.zaw)); exact HO397.out⟩, ⟨by repeat (first | (with_reducible first | exact HI0.out | apply zaf.alloc | apply zaf.drewN | apply zaf.drew | apply zaf.zaX | apply zaf.zaW | apply zaf.zaY) | exact HI0.out)⟩, ⟨by repeat (first | (with_reducible first | exact HK.out | apply KeepBut.set_ | apply zao | apply zaq | apply keep_alloc) | exact HK.out)⟩, ⟨by repeat (first | (with_reducible first | exact HB.out | apply zad | apply zaa | apply zac | refine zae ?_ (zaf.ge HI0.out)) | exact HB.out)⟩⟩
    rw [if_neg c7] at H
    exact absurd H (by simp)
   rw [if_neg c5] at H
   have c5b0 : decide (0 < x1_1) = false := decide_eq_false c5
   clear c5; replace H := Option.bind_eq_some_iff.mp H
   obtain ⟨t398, A100, H⟩ := H
   replace H : (some (t398, x1001_1, x1002_1, x1003_1)) = some (r1, r2, r3, r4) := H
   have A10 := zab.mk A100; clear A100
   simp only [Option.some.injEq, Prod.mk.injEq] at H
   obtain ⟨rfl, rfl, rfl, rfl⟩ := H
   obtain ⟨Ao11, co11, eo11⟩ := Kd.zbr HO_5.out
   subst eo11
   go_wp2_with (first | ((with_reducible refine zan (f := 23) rfl ?_); refine zaN (some 17) rfl rfl Tryd.func23 (by kernel_rfl) rfl #[.slice Ao11 x5_1.length co11] rfl (by (try simp only [List.map_toArray, List.map_cons, List.map_nil]); first | done | rfl | (simp only [List.length_drop, List.length_take]; rfl)) ?_; (with_reducible refine (zbq.calls k1 _ _ x5_1 t398 _ ?side1 ?side2 A10.out).mono ?_); (case side1 => repeat (first | exact (Kd.zbl HO_5.out).2.2 | (with_reducible refine Kd.C_alloc ?_ _) | (with_reducible refine Kd.C_drewN ?_ _) | (with_reducible refine Kd.C_drew ?_))); (case side2 => exact (Kd.zbl HO_5.out).2.1); rintro e w12 ⟨rfl, hb⟩; refine ⟨_, rfl, ?_⟩; have n0_ := zab.mk (Kd.zbi (by (with_reducible repeat (first | apply Kd.R_alloc | apply Kd.zat | apply Kd.zaw)); exact HO_5.out) hb); have n1_ := zab.mk (zaf.below (by repeat (first | (with_reducible first | exact HI0.out | apply zaf.alloc | apply zaf.drewN | apply zaf.drew | apply zaf.zaX | apply zaf.zaW | apply zaf.zaY) | exact HI0.out)) hb); have n2_ := zab.mk (KeepBut.trans (by repeat (first | (with_reducible first | exact HK.out | apply KeepBut.set_ | apply zao | apply zaq | apply keep_alloc) | exact HK.out)) (KeepBut.of_below hb g none) (.inl rfl)); have n3_ := zab.mk (zau (by repeat (first | (with_reducible first | exact HB.out | apply zad | apply zaa | apply zac | refine zae ?_ (zaf.ge HI0.out)) | exact HB.out)) hb); clear HO_5 HI0 HK HB; have HO_5 := n0_; have HI0 := n1_; have HK := n2_; have HB := n3_; clear n0_ n1_ n2_ n3_; (try clear hb); (try clear hb2); (try clear hk); (try clear hi)))
   go_ret
   exact ⟨by first | rfl | (simp [zar, zas] <;> rfl) | (simp [*, zar, zas] <;> rfl), by repeat (first | (with_reducible first | exact HI0.out | apply zaf.alloc | apply zaf.drewN | apply zaf.drew | apply zaf.zaX | apply zaf.zaW | apply zaf.zaY) | exact HI0.out), by repeat (first | (with_reducible first | exact HB.out | apply zad | apply zaa | apply zac | refine zae ?_ (zaf.ge HI0.out)) | exact HB.out), by repeat (first | (with_reducible first | exact HK.out | apply KeepBut.set_ | apply zao | apply zaq | apply keep_alloc) | exact HK.out)⟩
def za4.l0 : Nat → Int → List Int → Int → List Int → Int → Int → Int → Option (ByteArray × Int × Int × Int)
 | 0, _, _, _, _, _, _, _ => none
 | k + 1, x1, x5, x6, x1000, x1001, x1002, x1003 => if x6 < x1 then ((zaj.f x1000 x1001 x1002 x1003 256).bind fun bt402 => (if x5.length < 140737488355328 then (za4.l0 k x1 (x5 ++ [(bt402.1) % 256]) (wrap64 (x6 + 1)) x1000 bt402.2.1 bt402.2.2.1 bt402.2.2.2) else (none))) else (some (strOfNums x5, x1001, x1002, x1003))
def za4.f (k : Nat) (s0_0 : List Int) (s0_1 : Int) (s0_2 : Int) (s0_3 : Int) (a1 : Int) : Option (ByteArray × Int × Int × Int) := za4.l0 k a1 (([] : List Int)) 0 s0_0 s0_1 s0_2 s0_3
set_option maxHeartbeats 8000000 in
set_option maxRecDepth 100000 in
theorem za4.calls (k : Nat) (g : Nat) (s0_0 : List Int) (s0_1 : Int) (s0_2 : Int) (s0_3 : Int) (a1 : Int) (r1 : ByteArray) (r2 : Int) (r3 : Int) (r4 : Int) (w0 w : World) (hI : zaf w0 w g s0_0 s0_1 s0_2 s0_3) (hB : Below w0.heap.size w0 w) (h : za4.f k s0_0 s0_1 s0_2 s0_3 a1 = some (r1, r2, r3, r4)) :
  Calls Tryd.prog 34 #[.pointer (some ⟨g, 0, none⟩), .int .i64 a1] w fun e w' => e = .returned (.string r1) ∧ zaf w0 w' g s0_0 r2 r3 r4 ∧ Below w0.heap.size w0 w' ∧ KeepBut w w' g none := by
 have HI0 := zab.mk hI
 have HK := zab.mk (KeepBut.refl w g none)
 have HL := zab.mk hB.size; clear hI; have HW0 := zab.mk hB.size; have HB := zab.mk hB; clear hB
 have H : (za4.l0 k a1 (([] : List Int)) 0 s0_0 s0_1 s0_2 s0_3) = some (r1, r2, r3, r4) := h
 clear h
 obtain ⟨y399, hy399⟩ : ∃ y_ : List Int, y_ = (([] : List Int)) := ⟨_, rfl⟩
 replace H : (za4.l0 k a1 y399 0 s0_0 s0_1 s0_2 s0_3) = some (r1, r2, r3, r4) := by first | (rw [hy399]; with_reducible exact H) | (have H2_ := (Option.bind_some _ _).symm.trans H; rw [hy399]; with_reducible exact H2_) | (have H2_ := (Option.bind_some _ _).symm.trans H; with_reducible exact H2_) | with_reducible exact H | (rw [hy399]; exact H) | exact H
 have Ny399 := zab.mk hy399; clear hy399; have H' := zab.mk H; clear H
 go_enter Tryd.func34, Tryd.ntmps34
 go_wp2_with (first | ((with_reducible refine zbb (N := 7) rfl ?_); refine Kd.R_lit (Kd.int .u8) _ 5 ?hg (N := 7) ?hd (xs := ([] : List Int)) (inner := []) (ok := fun _ => True) (okp := fun _ => True) ?hr ?hp (fun _ hk => hk) trivial (Below.refl _ _) (Nat.le_refl _) (by simp) ?_; (case hd => rfl); (case hg => rfl); (case hr => first | (go_simp; done) | (go_simp; rfl)); (case hp => exact (Reps.none _ _)); intro v400 w3 ho4 hb hg_ hnew_; clear hg_ hnew_; (first | rw [← Ny399.out] at ho4 | (simp only [Int.reduceToNat] at ho4; rw [← Ny399.out] at ho4)); have n0_ := zab.mk (Kd.zbm ho4 (zbB (w := w) (g := g) (row := none) (by repeat (first | (with_reducible first | exact HK.out | apply KeepBut.set_ | apply zao | apply zaq | apply keep_alloc) | exact HK.out)))); have n1_ := zab.mk (zaf.below (by repeat (first | (with_reducible first | exact HI0.out | apply zaf.alloc | apply zaf.drewN | apply zaf.drew | apply zaf.zaX | apply zaf.zaW | apply zaf.zaY) | exact HI0.out)) hb); have n2_ := zab.mk (KeepBut.trans (by repeat (first | (with_reducible first | exact HK.out | apply KeepBut.set_ | apply zao | apply zaq | apply keep_alloc) | exact HK.out)) (KeepBut.of_below hb g none) (.inl rfl)); have n3_ := zab.mk (zau (by repeat (first | (with_reducible first | exact HB.out | apply zad | apply zaa | apply zac | refine zae ?_ (zaf.ge HI0.out)) | exact HB.out)) hb); clear HI0 HK HB; have HO401 := n0_; have HI0 := n1_; have HK := n2_; have HB := n3_; clear n0_ n1_ n2_ n3_ hb ho4))
 go_loopg [5, 6] k (fun kq v5 v6 w' => ∃ (x5_1 : List Int) (x6_1 : Int) (x1001_1 : Int) (x1002_1 : Int) (x1003_1 : Int), v6 = .int .i64 x6_1 ∧ zab (za4.l0 kq a1 x5_1 x6_1 s0_0 x1001_1 x1002_1 x1003_1 = some (r1, r2, r3, r4)) ∧ zab (kq ≤ k) ∧ zab (Kd.R (Kd.int .u8) 5 w' w.heap.size (fun _ => True) v5 x5_1) ∧ zab (zaf w0 w' g s0_0 x1001_1 x1002_1 x1003_1) ∧ zab (KeepBut w w' g none) ∧ zab (Below w0.heap.size w0 w'))
 case atStart => exact ⟨(y399), (0), (s0_1), (s0_2), (s0_3), (by first | rfl | (simp; done) | (simp [*]; done)), H', ⟨Nat.le_refl _⟩, ⟨by (with_reducible repeat (first | apply Kd.R_alloc | apply Kd.zat | apply Kd.zaw)); exact HO401.out⟩, ⟨by repeat (first | (with_reducible first | exact HI0.out | apply zaf.alloc | apply zaf.drewN | apply zaf.drew | apply zaf.zaX | apply zaf.zaW | apply zaf.zaY) | exact HI0.out)⟩, ⟨by repeat (first | (with_reducible first | exact HK.out | apply KeepBut.set_ | apply zao | apply zaq | apply keep_alloc) | exact HK.out)⟩, ⟨by repeat (first | (with_reducible first | exact HB.out | apply zad | apply zaa | apply zac | refine zae ?_ (zaf.ge HI0.out)) | exact HB.out)⟩⟩
 case round =>
  clear H'
  obtain ⟨x5_1, x6_1, x1001_1, x1002_1, x1003_1, rfl, HA, HK1, HO_5, HI0, HK, HB⟩ := hrel
  cases gk with
  | zero => exact absurd HA.out (by simp [za4.l0])
  | succ k1 =>
   have H := HA.out; clear HA
   simp only [za4.l0] at H
   by_cases c5 : x6_1 < a1
   ·rw [if_pos c5] at H
    have c5b0 : decide (x6_1 < a1) = true := decide_eq_true c5
    clear c5; replace H := Option.bind_eq_some_iff.mp H
    obtain ⟨⟨t402, t403, t404, t405⟩, A60, H⟩ := H
    replace H : (if x5_1.length < 140737488355328 then (za4.l0 k1 a1 (x5_1 ++ [(t402) % 256]) (wrap64 (x6_1 + 1)) s0_0 t403 t404 t405) else (none)) = some (r1, r2, r3, r4) := H
    have A6 := zab.mk A60; clear A60
    by_cases c7 : x5_1.length < 140737488355328
    ·rw [if_pos c7] at H; have LMc7 := zab.mk c7; clear c7
     obtain ⟨y406, hy406⟩ : ∃ y_ : List Int, y_ = (x5_1 ++ [(t402) % 256]) := ⟨_, rfl⟩
     replace H : (za4.l0 k1 a1 y406 (wrap64 (x6_1 + 1)) s0_0 t403 t404 t405) = some (r1, r2, r3, r4) := by first | (rw [hy406]; with_reducible exact H) | (have H2_ := (Option.bind_some _ _).symm.trans H; rw [hy406]; with_reducible exact H2_) | (have H2_ := (Option.bind_some _ _).symm.trans H; with_reducible exact H2_) | with_reducible exact H | (rw [hy406]; exact H) | exact H
     have Ny406 := zab.mk hy406; clear hy406; have H' := zab.mk H; clear H
     go_wp2_with (first | ((with_reducible refine zan (f := 19) rfl ?_); refine zaN (some 15) rfl rfl Tryd.func19 (by kernel_rfl) rfl #[.pointer (some ⟨g, 0, none⟩), .int .i64 256] rfl (by (try simp only [List.map_toArray, List.map_cons, List.map_nil]); first | done | rfl | (simp only [List.length_drop, List.length_take]; rfl)) ?_; (with_reducible refine (zaj.calls g s0_0 x1001_1 x1002_1 x1003_1 256 t402 t403 t404 t405 w0 _ ?side1 ?side2 A6.out).mono ?_); (case side1 => repeat (first | (with_reducible first | exact HI0.out | apply zaf.alloc | apply zaf.drewN | apply zaf.drew | apply zaf.zaX | apply zaf.zaW | apply zaf.zaY) | exact HI0.out)); (case side2 => repeat (first | (with_reducible first | exact HB.out | apply zad | apply zaa | apply zac | refine zae ?_ (zaf.ge HI0.out)) | exact HB.out)); rintro e w8 ⟨rfl, hi, hb, hk⟩; refine ⟨_, rfl, ?_⟩; have n0_ := zab.mk (Kd.za7 (Kd.R_keep (zaf.apart (show zaf w0 _ g s0_0 x1001_1 x1002_1 x1003_1 from by repeat (first | (with_reducible first | exact HI0.out | apply zaf.alloc | apply zaf.drewN | apply zaf.drew | apply zaf.zaX | apply zaf.zaW | apply zaf.zaY) | exact HI0.out)) (by (with_reducible repeat (first | apply Kd.R_alloc | apply Kd.zat | apply Kd.zaw)); exact HO_5.out) (by decide)) hk (fun _ h => h.2)) (fun _ h => h.1)); have n1_ := zab.mk (KeepBut.trans (by repeat (first | (with_reducible first | exact HK.out | apply KeepBut.set_ | apply zao | apply zaq | apply keep_alloc) | exact HK.out)) hk (.inl rfl)); have n2_ := zab.mk (hb); have n3_ := zab.mk (hi); clear HO_5 HK HB HI0; have HO_5 := n0_; have HK := n1_; have HB := n2_; have HI0 := n3_; clear n0_ n1_ n2_ n3_; (try clear hb); (try clear hb2); (try clear hk); (try clear hi)) | ((with_reducible refine gate_builtin (b := .append) (xs := #[.tmp 13, .tmp 17]) rfl ?_); at_builtin; refine Kd.R_append (Kd.int .u8) w.heap.size rfl (.tmp 13) (.tmp 17) 22 5 (.int .u8 0) 1 rfl Tryd.underlying22 info5 rfl (by decide) (by omega) u5 x5_1 ((t402) % 256) [.int .u8 ((t402) % 256)] (fun _ => True) (fun _ => False) rfl rfl ?aP (fun _ hk => hk.elim) ?aF ?aO (Below.refl _ _) ?aS ?aL ?_; (case aP => exact rfl); (case aF => exact (fun _ _ => trivial)); (case aO => exact (by (with_reducible repeat (first | apply Kd.R_alloc | apply Kd.zat | apply Kd.zaw)); exact HO_5.out)); (case aS => exact (zbB (w := w) (g := g) (row := none) (by repeat (first | (with_reducible first | exact HK.out | apply KeepBut.set_ | apply zao | apply zaq | apply keep_alloc) | exact HK.out)))); (case aL => have := LMc7.out; omega); intro v407 w9 ho hb hg hat; rw [← Ny406.out] at ho; have n0_ := zab.mk (zaf.grown (by repeat (first | (with_reducible first | exact HI0.out | apply zaf.alloc | apply zaf.drewN | apply zaf.drew | apply zaf.zaX | apply zaf.zaW | apply zaf.zaY) | exact HI0.out)) hg (zaf.own_ne HI0.out HO_5.out (by decide))); have n1_ := zab.mk (below_weaken (by repeat (first | (with_reducible first | exact HB.out | apply zad | apply zaa | apply zac | refine zae ?_ (zaf.ge HI0.out)) | exact HB.out)) HL.out hb); have n2_ := zab.mk (KeepBut.trans (by repeat (first | (with_reducible first | exact HK.out | apply KeepBut.set_ | apply zao | apply zaq | apply keep_alloc) | exact HK.out)) (KeepBut.of_grown hg g) (Kd.R_base2 HO_5.out)); have n3_ := zab.mk (ho); clear HI0 HB HK HO_5; have HI0 := n0_; have HB := n1_; have HK := n2_; have HO408 := n3_; clear n0_ n1_ n2_ n3_ ho hb hg hat))
     go_roundg k1
     case measure => have := HK1.out; omega
     case rel => exact ⟨(y406), (wrap64 (x6_1 + 1)), (t403), (t404), (t405), (by first | rfl | (simp; done) | (simp [*]; done)), H', ⟨by have := HK1.out; omega⟩, ⟨by (with_reducible repeat (first | apply Kd.R_alloc | apply Kd.zat | apply Kd.zaw)); exact HO408.out⟩, ⟨by repeat (first | (with_reducible first | exact HI0.out | apply zaf.alloc | apply zaf.drewN | apply zaf.drew | apply zaf.zaX | apply zaf.zaW | apply zaf.zaY) | exact HI0.out)⟩, ⟨by repeat (first | (with_reducible first | exact HK.out | apply KeepBut.set_ | apply zao | apply zaq | apply keep_alloc) | exact HK.out)⟩, ⟨by repeat (first | (with_reducible first | exact HB.out | apply zad | apply zaa | apply zac | refine zae ?_ (zaf.ge HI0.out)) | exact HB.out)⟩⟩
    rw [if_neg c7] at H
    exact absurd H (by simp)
   rw [if_neg c5] at H
   have c5b0 : decide (x6_1 < a1) = false := decide_eq_false c5
   clear c5
   simp only [Option.some.injEq, Prod.mk.injEq] at H
   obtain ⟨rfl, rfl, rfl, rfl⟩ := H
   have hcv10 := own_string (P := Tryd.prog) Tryd.underlying22 Tryd.underlying5 Tryd.underlying9 (Kd.own_of_R HO_5.out)
   go_wp2
   go_ret
   exact ⟨by first | rfl | (simp [zar, zas] <;> rfl) | (simp [*, zar, zas] <;> rfl), by repeat (first | (with_reducible first | exact HI0.out | apply zaf.alloc | apply zaf.drewN | apply zaf.drew | apply zaf.zaX | apply zaf.zaW | apply zaf.zaY) | exact HI0.out), by repeat (first | (with_reducible first | exact HB.out | apply zad | apply zaa | apply zac | refine zae ?_ (zaf.ge HI0.out)) | exact HB.out), by repeat (first | (with_reducible first | exact HK.out | apply KeepBut.set_ | apply zao | apply zaq | apply keep_alloc) | exact HK.out)⟩
def za5.f (s0_0 : List Int) (s0_1 : Int) (s0_2 : Int) (s0_3 : Int) (a1 : Int) : Option (Bool × Int × Int × Int) := (zaj.f s0_0 s0_1 s0_2 s0_3 a1).bind fun bt409 => (some ((bt409.1 == 0), bt409.2.1, bt409.2.2.1, bt409.2.2.2))
set_option maxHeartbeats 8000000 in
set_option maxRecDepth 100000 in
theorem za5.calls (g : Nat) (s0_0 : List Int) (s0_1 : Int) (s0_2 : Int) (s0_3 : Int) (a1 : Int) (r1 : Bool) (r2 : Int) (r3 : Int) (r4 : Int) (w0 w : World) (hI : zaf w0 w g s0_0 s0_1 s0_2 s0_3) (hB : Below w0.heap.size w0 w) (h : za5.f s0_0 s0_1 s0_2 s0_3 a1 = some (r1, r2, r3, r4)) :
  Calls Tryd.prog 18 #[.pointer (some ⟨g, 0, none⟩), .int .i64 a1] w fun e w' => e = .returned (.bool r1) ∧ zaf w0 w' g s0_0 r2 r3 r4 ∧ Below w0.heap.size w0 w' ∧ KeepBut w w' g none := by
 have HI0 := zab.mk hI
 have HK := zab.mk (KeepBut.refl w g none)
 have HL := zab.mk hB.size; clear hI; have HW0 := zab.mk hB.size; have HB := zab.mk hB; clear hB
 have H : ((zaj.f s0_0 s0_1 s0_2 s0_3 a1).bind fun bt409 => (some ((bt409.1 == 0), bt409.2.1, bt409.2.2.1, bt409.2.2.2))) = some (r1, r2, r3, r4) := h
 clear h; replace H := Option.bind_eq_some_iff.mp H
 obtain ⟨⟨t409, t410, t411, t412⟩, A30, H⟩ := H
 replace H : (some ((t409 == 0), t410, t411, t412)) = some (r1, r2, r3, r4) := H
 have A3 := zab.mk A30; clear A30
 simp only [Option.some.injEq, Prod.mk.injEq] at H
 obtain ⟨rfl, rfl, rfl, rfl⟩ := H
 go_enter Tryd.func18, Tryd.ntmps18
 go_wp2_with (first | ((with_reducible refine zan (f := 19) rfl ?_); refine zaN (some 7) rfl rfl Tryd.func19 (by kernel_rfl) rfl #[.pointer (some ⟨g, 0, none⟩), .int .i64 a1] rfl (by (try simp only [List.map_toArray, List.map_cons, List.map_nil]); first | done | rfl | (simp only [List.length_drop, List.length_take]; rfl)) ?_; (with_reducible refine (zaj.calls g s0_0 s0_1 s0_2 s0_3 a1 t409 t410 t411 t412 w0 _ ?side1 ?side2 A3.out).mono ?_); (case side1 => repeat (first | (with_reducible first | exact HI0.out | apply zaf.alloc | apply zaf.drewN | apply zaf.drew | apply zaf.zaX | apply zaf.zaW | apply zaf.zaY) | exact HI0.out)); (case side2 => repeat (first | (with_reducible first | exact HB.out | apply zad | apply zaa | apply zac | refine zae ?_ (zaf.ge HI0.out)) | exact HB.out)); rintro e w4 ⟨rfl, hi, hb, hk⟩; refine ⟨_, rfl, ?_⟩; have n0_ := zab.mk (KeepBut.trans (by repeat (first | (with_reducible first | exact HK.out | apply KeepBut.set_ | apply zao | apply zaq | apply keep_alloc) | exact HK.out)) hk (.inl rfl)); have n1_ := zab.mk (hb); have n2_ := zab.mk (hi); clear HK HB HI0; have HK := n0_; have HB := n1_; have HI0 := n2_; clear n0_ n1_ n2_; (try clear hb); (try clear hb2); (try clear hk); (try clear hi)))
 go_ret
 exact ⟨by first | rfl | (simp [zar, zas] <;> rfl) | (simp [*, zar, zas] <;> rfl), by repeat (first | (with_reducible first | exact HI0.out | apply zaf.alloc | apply zaf.drewN | apply zaf.drew | apply zaf.zaX | apply zaf.zaW | apply zaf.zaY) | exact HI0.out), by repeat (first | (with_reducible first | exact HB.out | apply zad | apply zaa | apply zac | refine zae ?_ (zaf.ge HI0.out)) | exact HB.out), by repeat (first | (with_reducible first | exact HK.out | apply KeepBut.set_ | apply zao | apply zaq | apply keep_alloc) | exact HK.out)⟩
def zaU.j0 : Nat → ByteArray → Int → ByteArray → Bool → List Int → Int → Int → Int → Option (ByteArray × Int × Int × Int)
 | 0, _, _, _, _, _, _, _, _ => none
 | k + 1, x1, x5, x6, x24, x1000, x1001, x1002, x1003 => if x24 = true then (if 0 ≤ x5 then (if x5 ≤ (x1.size : Int) then (if (x1.extract 0 (x5 : Int).toNat).size + x6.size ≤ 9223372036854775807 then (if ((x1.extract 0 (x5 : Int).toNat) ++ x6).size + (x1.extract (x5 : Int).toNat x1.size).size ≤ 9223372036854775807 then (some (((x1.extract 0 (x5 : Int).toNat) ++ x6) ++ (x1.extract (x5 : Int).toNat x1.size), x1001, x1002, x1003)) else (none)) else (none)) else (none)) else (none)) else ((za5.f x1000 x1001 x1002 x1003 2).bind fun bt428 => (if bt428.1 = true then (if 0 ≤ x5 then (if x5 ≤ (x1.size : Int) then (if 0 ≤ (wrap64 (x5 + 1)) then (if (wrap64 (x5 + 1)) ≤ (x1.size : Int) then (if (x1.extract 0 (x5 : Int).toNat).size + (x1.extract ((wrap64 (x5 + 1)) : Int).toNat x1.size).size ≤ 9223372036854775807 then (some ((x1.extract 0 (x5 : Int).toNat) ++ (x1.extract ((wrap64 (x5 + 1)) : Int).toNat x1.size), bt428.2.1, bt428.2.2.1, bt428.2.2.2)) else (none)) else (none)) else (none)) else (none)) else (none)) else (if 0 ≤ x5 then (if x5 ≤ (x1.size : Int) then (if (x1.extract 0 (x5 : Int).toNat).size + x6.size ≤ 9223372036854775807 then (if 0 ≤ (wrap64 (x5 + 1)) then (if (wrap64 (x5 + 1)) ≤ (x1.size : Int) then (if ((x1.extract 0 (x5 : Int).toNat) ++ x6).size + (x1.extract ((wrap64 (x5 + 1)) : Int).toNat x1.size).size ≤ 9223372036854775807 then (some (((x1.extract 0 (x5 : Int).toNat) ++ x6) ++ (x1.extract ((wrap64 (x5 + 1)) : Int).toNat x1.size), bt428.2.1, bt428.2.2.1, bt428.2.2.2)) else (none)) else (none)) else (none)) else (none)) else (none)) else (none))))
def zaU.f (k : Nat) (s0_0 : List Int) (s0_1 : Int) (s0_2 : Int) (s0_3 : Int) (a1 : ByteArray) : Option (ByteArray × Int × Int × Int) := (zaj.f s0_0 s0_1 s0_2 s0_3 (wrap64 ((a1.size : Int) + 1))).bind fun bt413 => ((zaj.f s0_0 bt413.2.1 bt413.2.2.1 bt413.2.2.2 17).bind fun bt417 => (if 0 ≤ bt417.1 then (if bt417.1 < 17 then ((some (([bt (⟨#[32, 10, 48, 97, 45, 110, 44, 58, 93, 255, 40, 120, 34, 49, 128, 225, 59]⟩ : ByteArray) bt417.1] : List Int) : List Int)).bind fun y421 => (if bt413.1 = (a1.size : Int) then (zaU.j0 k a1 bt413.1 (strOfNums y421) true s0_0 bt417.2.1 bt417.2.2.1 bt417.2.2.2) else ((za5.f s0_0 bt417.2.1 bt417.2.2.1 bt417.2.2.2 3).bind fun bt424 => (zaU.j0 k a1 bt413.1 (strOfNums y421) bt424.1 s0_0 bt424.2.1 bt424.2.2.1 bt424.2.2.2)))) else (none)) else (none)))
set_option maxHeartbeats 8000000 in
set_option maxRecDepth 100000 in
theorem zaU.calls (k : Nat) (g : Nat) (s0_0 : List Int) (s0_1 : Int) (s0_2 : Int) (s0_3 : Int) (a1 : ByteArray) (r1 : ByteArray) (r2 : Int) (r3 : Int) (r4 : Int) (w0 w : World) (hI : zaf w0 w g s0_0 s0_1 s0_2 s0_3) (hB : Below w0.heap.size w0 w) (h : zaU.f k s0_0 s0_1 s0_2 s0_3 a1 = some (r1, r2, r3, r4)) :
  Calls Tryd.prog 35 #[.pointer (some ⟨g, 0, none⟩), .string a1] w fun e w' => e = .returned (.string r1) ∧ zaf w0 w' g s0_0 r2 r3 r4 ∧ Below w0.heap.size w0 w' ∧ KeepBut w w' g none := by
 have HI0 := zab.mk hI
 have HK := zab.mk (KeepBut.refl w g none)
 have HL := zab.mk hB.size; clear hI; have HW0 := zab.mk hB.size; have HB := zab.mk hB; clear hB
 have H : ((zaj.f s0_0 s0_1 s0_2 s0_3 (wrap64 ((a1.size : Int) + 1))).bind fun bt413 => ((zaj.f s0_0 bt413.2.1 bt413.2.2.1 bt413.2.2.2 17).bind fun bt417 => (if 0 ≤ bt417.1 then (if bt417.1 < 17 then ((some (([bt (⟨#[32, 10, 48, 97, 45, 110, 44, 58, 93, 255, 40, 120, 34, 49, 128, 225, 59]⟩ : ByteArray) bt417.1] : List Int) : List Int)).bind fun y421 => (if bt413.1 = (a1.size : Int) then (zaU.j0 k a1 bt413.1 (strOfNums y421) true s0_0 bt417.2.1 bt417.2.2.1 bt417.2.2.2) else ((za5.f s0_0 bt417.2.1 bt417.2.2.1 bt417.2.2.2 3).bind fun bt424 => (zaU.j0 k a1 bt413.1 (strOfNums y421) bt424.1 s0_0 bt424.2.1 bt424.2.2.1 bt424.2.2.2)))) else (none)) else (none)))) = some (r1, r2, r3, r4) := h
 clear h; replace H := Option.bind_eq_some_iff.mp H
 obtain ⟨⟨t413, t414, t415, t416⟩, A30, H⟩ := H
 replace H : ((zaj.f s0_0 t414 t415 t416 17).bind fun bt417 => (if 0 ≤ bt417.1 then (if bt417.1 < 17 then ((some (([bt (⟨#[32, 10, 48, 97, 45, 110, 44, 58, 93, 255, 40, 120, 34, 49, 128, 225, 59]⟩ : ByteArray) bt417.1] : List Int) : List Int)).bind fun y421 => (if t413 = (a1.size : Int) then (zaU.j0 k a1 t413 (strOfNums y421) true s0_0 bt417.2.1 bt417.2.2.1 bt417.2.2.2) else ((za5.f s0_0 bt417.2.1 bt417.2.2.1 bt417.2.2.2 3).bind fun bt424 => (zaU.j0 k a1 t413 (strOfNums y421) bt424.1 s0_0 bt424.2.1 bt424.2.2.1 bt424.2.2.2)))) else (none)) else (none))) = some (r1, r2, r3, r4) := H
 have A3 := zab.mk A30; clear A30; replace H := Option.bind_eq_some_iff.mp H
 obtain ⟨⟨t417, t418, t419, t420⟩, A40, H⟩ := H
 replace H : (if 0 ≤ t417 then (if t417 < 17 then ((some (([bt (⟨#[32, 10, 48, 97, 45, 110, 44, 58, 93, 255, 40, 120, 34, 49, 128, 225, 59]⟩ : ByteArray) t417] : List Int) : List Int)).bind fun y421 => (if t413 = (a1.size : Int) then (zaU.j0 k a1 t413 (strOfNums y421) true s0_0 t418 t419 t420) else ((za5.f s0_0 t418 t419 t420 3).bind fun bt424 => (zaU.j0 k a1 t413 (strOfNums y421) bt424.1 s0_0 bt424.2.1 bt424.2.2.1 bt424.2.2.2)))) else (none)) else (none)) = some (r1, r2, r3, r4) := H
 have A4 := zab.mk A40; clear A40
 by_cases c5 : 0 ≤ t417
 ·rw [if_pos c5] at H
  have c5b0 : decide (0 ≤ t417) = true := decide_eq_true c5
  clear c5
  by_cases c6 : t417 < 17
  ·rw [if_pos c6] at H
   have c6b0 : decide (t417 < 17) = true := decide_eq_true c6
   clear c6
   obtain ⟨y421, hy421⟩ : ∃ y_ : List Int, y_ = (([bt (⟨#[32, 10, 48, 97, 45, 110, 44, 58, 93, 255, 40, 120, 34, 49, 128, 225, 59]⟩ : ByteArray) t417] : List Int)) := ⟨_, rfl⟩
   replace H : (if t413 = (a1.size : Int) then (zaU.j0 k a1 t413 (strOfNums y421) true s0_0 t418 t419 t420) else ((za5.f s0_0 t418 t419 t420 3).bind fun bt424 => (zaU.j0 k a1 t413 (strOfNums y421) bt424.1 s0_0 bt424.2.1 bt424.2.2.1 bt424.2.2.2))) = some (r1, r2, r3, r4) := by first | (rw [hy421]; with_reducible exact H) | (have H2_ := (Option.bind_some _ _).symm.trans H; rw [hy421]; with_reducible exact H2_) | (have H2_ := (Option.bind_some _ _).symm.trans H; with_reducible exact H2_) | with_reducible exact H | (rw [hy421]; exact H) | exact H
   have Ny421 := zab.mk hy421; clear hy421; have HC8 := zab.mk H; clear H
   go_enter Tryd.func35, Tryd.ntmps35
   go_upto_region 3 with (first | (go_at_call 19; (with_reducible refine (zaj.calls g s0_0 s0_1 s0_2 s0_3 (wrap64 ((a1.size : Int) + 1)) t413 t414 t415 t416 w0 _ ?side1 ?side2 A3.out).mono ?_); (case side1 => repeat (first | (with_reducible first | exact HI0.out | apply zaf.alloc | apply zaf.drewN | apply zaf.drew | apply zaf.zaX | apply zaf.zaW | apply zaf.zaY) | exact HI0.out)); (case side2 => repeat (first | (with_reducible first | exact HB.out | apply zad | apply zaa | apply zac | refine zae ?_ (zaf.ge HI0.out)) | exact HB.out)); rintro e w9 ⟨rfl, hi, hb, hk⟩; have n0_ := zab.mk (KeepBut.trans (by repeat (first | (with_reducible first | exact HK.out | apply KeepBut.set_ | apply zao | apply zaq | apply keep_alloc) | exact HK.out)) hk (.inl rfl)); have n1_ := zab.mk (hb); have n2_ := zab.mk (hi); clear HK HB HI0; have HK := n0_; have HB := n1_; have HI0 := n2_; clear n0_ n1_ n2_; (try clear hb); (try clear hb2); (try clear hk); (try clear hi)) | (go_at_call 19; (with_reducible refine (zaj.calls g s0_0 t414 t415 t416 17 t417 t418 t419 t420 w0 _ ?side1 ?side2 A4.out).mono ?_); (case side1 => repeat (first | (with_reducible first | exact HI0.out | apply zaf.alloc | apply zaf.drewN | apply zaf.drew | apply zaf.zaX | apply zaf.zaW | apply zaf.zaY) | exact HI0.out)); (case side2 => repeat (first | (with_reducible first | exact HB.out | apply zad | apply zaa | apply zac | refine zae ?_ (zaf.ge HI0.out)) | exact HB.out)); rintro e w10 ⟨rfl, hi, hb, hk⟩; have n0_ := zab.mk (KeepBut.trans (by repeat (first | (with_reducible first | exact HK.out | apply KeepBut.set_ | apply zao | apply zaq | apply keep_alloc) | exact HK.out)) hk (.inl rfl)); have n1_ := zab.mk (hb); have n2_ := zab.mk (hi); clear HK HB HI0; have HK := n0_; have HB := n1_; have HI0 := n2_; clear n0_ n1_ n2_; (try clear hb); (try clear hb2); (try clear hk); (try clear hi); have p7 : 0 ≤ (t417 : Int) := of_decide_eq_true (by first | (with_reducible assumption) | assumption); have q7 : t417 < (17 : Int) := of_decide_eq_true (by first | (with_reducible assumption) | assumption); have hx7 := bt_at (⟨#[32, 10, 48, 97, 45, 110, 44, 58, 93, 255, 40, 120, 34, 49, 128, 225, 59]⟩ : ByteArray) t417; replace p7 := eq_true p7; replace q7 := eq_true q7) | ((with_reducible refine zbb (N := 15) rfl ?_); refine Kd.R_lit (Kd.int .u8) _ 5 ?hg (N := 15) ?hd (xs := ([bt (⟨#[32, 10, 48, 97, 45, 110, 44, 58, 93, 255, 40, 120, 34, 49, 128, 225, 59]⟩ : ByteArray) t417] : List Int)) (inner := [.int .u8 (bt (⟨#[32, 10, 48, 97, 45, 110, 44, 58, 93, 255, 40, 120, 34, 49, 128, 225, 59]⟩ : ByteArray) t417)]) (ok := fun _ => True) (okp := fun _ => True) ?hr ?hp (fun _ hk => hk) trivial (Below.refl _ _) (Nat.le_refl _) (by simp) ?_; (case hd => rfl); (case hg => rfl); (case hr => first | (go_simp; done) | (go_simp; rfl)); (case hp => exact (Reps.one (show Kd.M (Kd.int .u8) _ _ _ (bt (⟨#[32, 10, 48, 97, 45, 110, 44, 58, 93, 255, 40, 120, 34, 49, 128, 225, 59]⟩ : ByteArray) t417) [.int .u8 (bt (⟨#[32, 10, 48, 97, 45, 110, 44, 58, 93, 255, 40, 120, 34, 49, 128, 225, 59]⟩ : ByteArray) t417)] from rfl) (Reps.none _ _))); intro v422 w11 ho12 hb hg_ hnew_; clear hg_ hnew_; (first | rw [← Ny421.out] at ho12 | (simp only [Int.reduceToNat] at ho12; rw [← Ny421.out] at ho12)); have n0_ := zab.mk (Kd.zbm ho12 (zbB (w := w) (g := g) (row := none) (by repeat (first | (with_reducible first | exact HK.out | apply KeepBut.set_ | apply zao | apply zaq | apply keep_alloc) | exact HK.out)))); have n1_ := zab.mk (zaf.below (by repeat (first | (with_reducible first | exact HI0.out | apply zaf.alloc | apply zaf.drewN | apply zaf.drew | apply zaf.zaX | apply zaf.zaW | apply zaf.zaY) | exact HI0.out)) hb); have n2_ := zab.mk (KeepBut.trans (by repeat (first | (with_reducible first | exact HK.out | apply KeepBut.set_ | apply zao | apply zaq | apply keep_alloc) | exact HK.out)) (KeepBut.of_below hb g none) (.inl rfl)); have n3_ := zab.mk (zau (by repeat (first | (with_reducible first | exact HB.out | apply zad | apply zaa | apply zac | refine zae ?_ (zaf.ge HI0.out)) | exact HB.out)) hb); clear HI0 HK HB; have HO423 := n0_; have HI0 := n1_; have HK := n2_; have HB := n3_; clear n0_ n1_ n2_ n3_ hb ho12; have hcv13 := own_string (P := Tryd.prog) Tryd.underlying22 Tryd.underlying5 Tryd.underlying9 (Kd.own_of_R HO423.out)))
   repeat (go_quiet (first | (go_at_call 19; (with_reducible refine (zaj.calls g s0_0 s0_1 s0_2 s0_3 (wrap64 ((a1.size : Int) + 1)) t413 t414 t415 t416 w0 _ ?side1 ?side2 A3.out).mono ?_); (case side1 => repeat (first | (with_reducible first | exact HI0.out | apply zaf.alloc | apply zaf.drewN | apply zaf.drew | apply zaf.zaX | apply zaf.zaW | apply zaf.zaY) | exact HI0.out)); (case side2 => repeat (first | (with_reducible first | exact HB.out | apply zad | apply zaa | apply zac | refine zae ?_ (zaf.ge HI0.out)) | exact HB.out)); rintro e w9 ⟨rfl, hi, hb, hk⟩; have n0_ := zab.mk (KeepBut.trans (by repeat (first | (with_reducible first | exact HK.out | apply KeepBut.set_ | apply zao | apply zaq | apply keep_alloc) | exact HK.out)) hk (.inl rfl)); have n1_ := zab.mk (hb); have n2_ := zab.mk (hi); clear HK HB HI0; have HK := n0_; have HB := n1_; have HI0 := n2_; clear n0_ n1_ n2_; (try clear hb); (try clear hb2); (try clear hk); (try clear hi)) | (go_at_call 19; (with_reducible refine (zaj.calls g s0_0 t414 t415 t416 17 t417 t418 t419 t420 w0 _ ?side1 ?side2 A4.out).mono ?_); (case side1 => repeat (first | (with_reducible first | exact HI0.out | apply zaf.alloc | apply zaf.drewN | apply zaf.drew | apply zaf.zaX | apply zaf.zaW | apply zaf.zaY) | exact HI0.out)); (case side2 => repeat (first | (with_reducible first | exact HB.out | apply zad | apply zaa | apply zac | refine zae ?_ (zaf.ge HI0.out)) | exact HB.out)); rintro e w10 ⟨rfl, hi, hb, hk⟩; have n0_ := zab.mk (KeepBut.trans (by repeat (first | (with_reducible first | exact HK.out | apply KeepBut.set_ | apply zao | apply zaq | apply keep_alloc) | exact HK.out)) hk (.inl rfl)); have n1_ := zab.mk (hb); have n2_ := zab.mk (hi); clear HK HB HI0; have HK := n0_; have HB := n1_; have HI0 := n2_; clear n0_ n1_ n2_; (try clear hb); (try clear hb2); (try clear hk); (try clear hi); have p7 : 0 ≤ (t417 : Int) := of_decide_eq_true (by first | (with_reducible assumption) | assumption); have q7 : t417 < (17 : Int) := of_decide_eq_true (by first | (with_reducible assumption) | assumption); have hx7 := bt_at (⟨#[32, 10, 48, 97, 45, 110, 44, 58, 93, 255, 40, 120, 34, 49, 128, 225, 59]⟩ : ByteArray) t417; replace p7 := eq_true p7; replace q7 := eq_true q7) | ((with_reducible refine zbb (N := 15) rfl ?_); refine Kd.R_lit (Kd.int .u8) _ 5 ?hg (N := 15) ?hd (xs := ([bt (⟨#[32, 10, 48, 97, 45, 110, 44, 58, 93, 255, 40, 120, 34, 49, 128, 225, 59]⟩ : ByteArray) t417] : List Int)) (inner := [.int .u8 (bt (⟨#[32, 10, 48, 97, 45, 110, 44, 58, 93, 255, 40, 120, 34, 49, 128, 225, 59]⟩ : ByteArray) t417)]) (ok := fun _ => True) (okp := fun _ => True) ?hr ?hp (fun _ hk => hk) trivial (Below.refl _ _) (Nat.le_refl _) (by simp) ?_; (case hd => rfl); (case hg => rfl); (case hr => first | (go_simp; done) | (go_simp; rfl)); (case hp => exact (Reps.one (show Kd.M (Kd.int .u8) _ _ _ (bt (⟨#[32, 10, 48, 97, 45, 110, 44, 58, 93, 255, 40, 120, 34, 49, 128, 225, 59]⟩ : ByteArray) t417) [.int .u8 (bt (⟨#[32, 10, 48, 97, 45, 110, 44, 58, 93, 255, 40, 120, 34, 49, 128, 225, 59]⟩ : ByteArray) t417)] from rfl) (Reps.none _ _))); intro v422 w11 ho12 hb hg_ hnew_; clear hg_ hnew_; (first | rw [← Ny421.out] at ho12 | (simp only [Int.reduceToNat] at ho12; rw [← Ny421.out] at ho12)); have n0_ := zab.mk (Kd.zbm ho12 (zbB (w := w) (g := g) (row := none) (by repeat (first | (with_reducible first | exact HK.out | apply KeepBut.set_ | apply zao | apply zaq | apply keep_alloc) | exact HK.out)))); have n1_ := zab.mk (zaf.below (by repeat (first | (with_reducible first | exact HI0.out | apply zaf.alloc | apply zaf.drewN | apply zaf.drew | apply zaf.zaX | apply zaf.zaW | apply zaf.zaY) | exact HI0.out)) hb); have n2_ := zab.mk (KeepBut.trans (by repeat (first | (with_reducible first | exact HK.out | apply KeepBut.set_ | apply zao | apply zaq | apply keep_alloc) | exact HK.out)) (KeepBut.of_below hb g none) (.inl rfl)); have n3_ := zab.mk (zau (by repeat (first | (with_reducible first | exact HB.out | apply zad | apply zaa | apply zac | refine zae ?_ (zaf.ge HI0.out)) | exact HB.out)) hb); clear HI0 HK HB; have HO423 := n0_; have HI0 := n1_; have HK := n2_; have HB := n3_; clear n0_ n1_ n2_ n3_ hb ho12; have hcv13 := own_string (P := Tryd.prog) Tryd.underlying22 Tryd.underlying5 Tryd.underlying9 (Kd.own_of_R HO423.out))); go_upto_region 3 with (first | (go_at_call 19; (with_reducible refine (zaj.calls g s0_0 s0_1 s0_2 s0_3 (wrap64 ((a1.size : Int) + 1)) t413 t414 t415 t416 w0 _ ?side1 ?side2 A3.out).mono ?_); (case side1 => repeat (first | (with_reducible first | exact HI0.out | apply zaf.alloc | apply zaf.drewN | apply zaf.drew | apply zaf.zaX | apply zaf.zaW | apply zaf.zaY) | exact HI0.out)); (case side2 => repeat (first | (with_reducible first | exact HB.out | apply zad | apply zaa | apply zac | refine zae ?_ (zaf.ge HI0.out)) | exact HB.out)); rintro e w9 ⟨rfl, hi, hb, hk⟩; have n0_ := zab.mk (KeepBut.trans (by repeat (first | (with_reducible first | exact HK.out | apply KeepBut.set_ | apply zao | apply zaq | apply keep_alloc) | exact HK.out)) hk (.inl rfl)); have n1_ := zab.mk (hb); have n2_ := zab.mk (hi); clear HK HB HI0; have HK := n0_; have HB := n1_; have HI0 := n2_; clear n0_ n1_ n2_; (try clear hb); (try clear hb2); (try clear hk); (try clear hi)) | (go_at_call 19; (with_reducible refine (zaj.calls g s0_0 t414 t415 t416 17 t417 t418 t419 t420 w0 _ ?side1 ?side2 A4.out).mono ?_); (case side1 => repeat (first | (with_reducible first | exact HI0.out | apply zaf.alloc | apply zaf.drewN | apply zaf.drew | apply zaf.zaX | apply zaf.zaW | apply zaf.zaY) | exact HI0.out)); (case side2 => repeat (first | (with_reducible first | exact HB.out | apply zad | apply zaa | apply zac | refine zae ?_ (zaf.ge HI0.out)) | exact HB.out)); rintro e w10 ⟨rfl, hi, hb, hk⟩; have n0_ := zab.mk (KeepBut.trans (by repeat (first | (with_reducible first | exact HK.out | apply KeepBut.set_ | apply zao | apply zaq | apply keep_alloc) | exact HK.out)) hk (.inl rfl)); have n1_ := zab.mk (hb); have n2_ := zab.mk (hi); clear HK HB HI0; have HK := n0_; have HB := n1_; have HI0 := n2_; clear n0_ n1_ n2_; (try clear hb); (try clear hb2); (try clear hk); (try clear hi); have p7 : 0 ≤ (t417 : Int) := of_decide_eq_true (by first | (with_reducible assumption) | assumption); have q7 : t417 < (17 : Int) := of_decide_eq_true (by first | (with_reducible assumption) | assumption); have hx7 := bt_at (⟨#[32, 10, 48, 97, 45, 110, 44, 58, 93, 255, 40, 120, 34, 49, 128, 225, 59]⟩ : ByteArray) t417; replace p7 := eq_true p7; replace q7 := eq_true q7) | ((with_reducible refine zbb (N := 15) rfl ?_); refine Kd.R_lit (Kd.int .u8) _ 5 ?hg (N := 15) ?hd (xs := ([bt (⟨#[32, 10, 48, 97, 45, 110, 44, 58, 93, 255, 40, 120, 34, 49, 128, 225, 59]⟩ : ByteArray) t417] : List Int)) (inner := [.int .u8 (bt (⟨#[32, 10, 48, 97, 45, 110, 44, 58, 93, 255, 40, 120, 34, 49, 128, 225, 59]⟩ : ByteArray) t417)]) (ok := fun _ => True) (okp := fun _ => True) ?hr ?hp (fun _ hk => hk) trivial (Below.refl _ _) (Nat.le_refl _) (by simp) ?_; (case hd => rfl); (case hg => rfl); (case hr => first | (go_simp; done) | (go_simp; rfl)); (case hp => exact (Reps.one (show Kd.M (Kd.int .u8) _ _ _ (bt (⟨#[32, 10, 48, 97, 45, 110, 44, 58, 93, 255, 40, 120, 34, 49, 128, 225, 59]⟩ : ByteArray) t417) [.int .u8 (bt (⟨#[32, 10, 48, 97, 45, 110, 44, 58, 93, 255, 40, 120, 34, 49, 128, 225, 59]⟩ : ByteArray) t417)] from rfl) (Reps.none _ _))); intro v422 w11 ho12 hb hg_ hnew_; clear hg_ hnew_; (first | rw [← Ny421.out] at ho12 | (simp only [Int.reduceToNat] at ho12; rw [← Ny421.out] at ho12)); have n0_ := zab.mk (Kd.zbm ho12 (zbB (w := w) (g := g) (row := none) (by repeat (first | (with_reducible first | exact HK.out | apply KeepBut.set_ | apply zao | apply zaq | apply keep_alloc) | exact HK.out)))); have n1_ := zab.mk (zaf.below (by repeat (first | (with_reducible first | exact HI0.out | apply zaf.alloc | apply zaf.drewN | apply zaf.drew | apply zaf.zaX | apply zaf.zaW | apply zaf.zaY) | exact HI0.out)) hb); have n2_ := zab.mk (KeepBut.trans (by repeat (first | (with_reducible first | exact HK.out | apply KeepBut.set_ | apply zao | apply zaq | apply keep_alloc) | exact HK.out)) (KeepBut.of_below hb g none) (.inl rfl)); have n3_ := zab.mk (zau (by repeat (first | (with_reducible first | exact HB.out | apply zad | apply zaa | apply zac | refine zae ?_ (zaf.ge HI0.out)) | exact HB.out)) hb); clear HI0 HK HB; have HO423 := n0_; have HI0 := n1_; have HK := n2_; have HB := n3_; clear n0_ n1_ n2_ n3_ hb ho12; have hcv13 := own_string (P := Tryd.prog) Tryd.underlying22 Tryd.underlying5 Tryd.underlying9 (Kd.own_of_R HO423.out))))
   (try simp only [Act.put, List.setIfInBounds_toArray, List.set_cons_zero, List.set_cons_succ])
   go_cut [24] (fun v24 wc => ∃ (kq : Nat) (x24_7 : Bool) (x1001_7 : Int) (x1002_7 : Int) (x1003_7 : Int), v24 = .bool x24_7 ∧ zab (zaU.j0 kq a1 t413 (strOfNums y421) x24_7 s0_0 x1001_7 x1002_7 x1003_7 = some (r1, r2, r3, r4)) ∧ zab (kq ≤ k) ∧ zab (zaf w0 wc g s0_0 x1001_7 x1002_7 x1003_7) ∧ zab (KeepBut w wc g none) ∧ zab (Below w0.heap.size w0 wc))
   case first =>
    have H := HC8.out; clear HC8
    by_cases c14 : t413 = (a1.size : Int)
    ·rw [if_pos c14] at H
     have c14b0 : (t413 == (a1.size : Int)) = true := beq_iff_eq.mpr c14
     have c14b1 : (t413 != (a1.size : Int)) = false := bne_eq_false_iff_eq.mpr c14
     clear c14
     (first | rw [c14b0] | rw [c14b1] | (simp only [zaR, zaS]; rw [c14b0]) | skip)
     have H' := zab.mk H; clear H
     go_wp2
     repeat (go_quiet (fail); try go_wp2)
     go_meet
     case rel => exact ⟨_, (true), (t418), (t419), (t420), (by first | rfl | (simp; done) | (simp [*]; done)), H', ⟨by first | omega | exact Nat.le_refl _⟩, ⟨by repeat (first | (with_reducible first | exact HI0.out | apply zaf.alloc | apply zaf.drewN | apply zaf.drew | apply zaf.zaX | apply zaf.zaW | apply zaf.zaY) | exact HI0.out)⟩, ⟨by repeat (first | (with_reducible first | exact HK.out | apply KeepBut.set_ | apply zao | apply zaq | apply keep_alloc) | exact HK.out)⟩, ⟨by repeat (first | (with_reducible first | exact HB.out | apply zad | apply zaa | apply zac | refine zae ?_ (zaf.ge HI0.out)) | exact HB.out)⟩⟩
    rw [if_neg c14] at H
    have c14b0 : (t413 == (a1.size : Int)) = false := beq_eq_false_iff_ne.mpr c14
    have c14b1 : (t413 != (a1.size : Int)) = true := bne_iff_ne.mpr c14
    (first | rw [c14b0] | rw [c14b1] | (simp only [zaR, zaS]; rw [c14b0]) | skip)
    replace H := Option.bind_eq_some_iff.mp H
    obtain ⟨⟨t424, t425, t426, t427⟩, A150, H⟩ := H
    replace H : (zaU.j0 k a1 t413 (strOfNums y421) t424 s0_0 t425 t426 t427) = some (r1, r2, r3, r4) := H
    have A15 := zab.mk A150; clear A150; have H' := zab.mk H; clear H
    go_wp2_with (first | (go_at_call 18; (with_reducible refine (za5.calls g s0_0 t418 t419 t420 3 t424 t425 t426 t427 w0 _ ?side1 ?side2 A15.out).mono ?_); (case side1 => repeat (first | (with_reducible first | exact HI0.out | apply zaf.alloc | apply zaf.drewN | apply zaf.drew | apply zaf.zaX | apply zaf.zaW | apply zaf.zaY) | exact HI0.out)); (case side2 => repeat (first | (with_reducible first | exact HB.out | apply zad | apply zaa | apply zac | refine zae ?_ (zaf.ge HI0.out)) | exact HB.out)); rintro e w16 ⟨rfl, hi, hb, hk⟩; have n0_ := zab.mk (Kd.za7 (Kd.R_keep (zaf.apart (show zaf w0 _ g s0_0 t418 t419 t420 from by repeat (first | (with_reducible first | exact HI0.out | apply zaf.alloc | apply zaf.drewN | apply zaf.drew | apply zaf.zaX | apply zaf.zaW | apply zaf.zaY) | exact HI0.out)) (by (with_reducible repeat (first | apply Kd.R_alloc | apply Kd.zat | apply Kd.zaw)); exact HO423.out) (by decide)) hk (fun _ h => h.2)) (fun _ h => h.1)); have n1_ := zab.mk (KeepBut.trans (by repeat (first | (with_reducible first | exact HK.out | apply KeepBut.set_ | apply zao | apply zaq | apply keep_alloc) | exact HK.out)) hk (.inl rfl)); have n2_ := zab.mk (hb); have n3_ := zab.mk (hi); clear HO423 HK HB HI0; have HO423 := n0_; have HK := n1_; have HB := n2_; have HI0 := n3_; clear n0_ n1_ n2_ n3_; (try clear hb); (try clear hb2); (try clear hk); (try clear hi)))
    repeat (go_quiet (first | (go_at_call 18; (with_reducible refine (za5.calls g s0_0 t418 t419 t420 3 t424 t425 t426 t427 w0 _ ?side1 ?side2 A15.out).mono ?_); (case side1 => repeat (first | (with_reducible first | exact HI0.out | apply zaf.alloc | apply zaf.drewN | apply zaf.drew | apply zaf.zaX | apply zaf.zaW | apply zaf.zaY) | exact HI0.out)); (case side2 => repeat (first | (with_reducible first | exact HB.out | apply zad | apply zaa | apply zac | refine zae ?_ (zaf.ge HI0.out)) | exact HB.out)); rintro e w16 ⟨rfl, hi, hb, hk⟩; have n0_ := zab.mk (Kd.za7 (Kd.R_keep (zaf.apart (show zaf w0 _ g s0_0 t418 t419 t420 from by repeat (first | (with_reducible first | exact HI0.out | apply zaf.alloc | apply zaf.drewN | apply zaf.drew | apply zaf.zaX | apply zaf.zaW | apply zaf.zaY) | exact HI0.out)) (by (with_reducible repeat (first | apply Kd.R_alloc | apply Kd.zat | apply Kd.zaw)); exact HO423.out) (by decide)) hk (fun _ h => h.2)) (fun _ h => h.1)); have n1_ := zab.mk (KeepBut.trans (by repeat (first | (with_reducible first | exact HK.out | apply KeepBut.set_ | apply zao | apply zaq | apply keep_alloc) | exact HK.out)) hk (.inl rfl)); have n2_ := zab.mk (hb); have n3_ := zab.mk (hi); clear HO423 HK HB HI0; have HO423 := n0_; have HK := n1_; have HB := n2_; have HI0 := n3_; clear n0_ n1_ n2_ n3_; (try clear hb); (try clear hb2); (try clear hk); (try clear hi))); try go_wp2_with (first | (go_at_call 18; (with_reducible refine (za5.calls g s0_0 t418 t419 t420 3 t424 t425 t426 t427 w0 _ ?side1 ?side2 A15.out).mono ?_); (case side1 => repeat (first | (with_reducible first | exact HI0.out | apply zaf.alloc | apply zaf.drewN | apply zaf.drew | apply zaf.zaX | apply zaf.zaW | apply zaf.zaY) | exact HI0.out)); (case side2 => repeat (first | (with_reducible first | exact HB.out | apply zad | apply zaa | apply zac | refine zae ?_ (zaf.ge HI0.out)) | exact HB.out)); rintro e w16 ⟨rfl, hi, hb, hk⟩; have n0_ := zab.mk (Kd.za7 (Kd.R_keep (zaf.apart (show zaf w0 _ g s0_0 t418 t419 t420 from by repeat (first | (with_reducible first | exact HI0.out | apply zaf.alloc | apply zaf.drewN | apply zaf.drew | apply zaf.zaX | apply zaf.zaW | apply zaf.zaY) | exact HI0.out)) (by (with_reducible repeat (first | apply Kd.R_alloc | apply Kd.zat | apply Kd.zaw)); exact HO423.out) (by decide)) hk (fun _ h => h.2)) (fun _ h => h.1)); have n1_ := zab.mk (KeepBut.trans (by repeat (first | (with_reducible first | exact HK.out | apply KeepBut.set_ | apply zao | apply zaq | apply keep_alloc) | exact HK.out)) hk (.inl rfl)); have n2_ := zab.mk (hb); have n3_ := zab.mk (hi); clear HO423 HK HB HI0; have HO423 := n0_; have HK := n1_; have HB := n2_; have HI0 := n3_; clear n0_ n1_ n2_ n3_; (try clear hb); (try clear hb2); (try clear hk); (try clear hi))))
    go_meet
    case rel => exact ⟨_, (t424), (t425), (t426), (t427), (by first | rfl | (simp; done) | (simp [*]; done)), H', ⟨by first | omega | exact Nat.le_refl _⟩, ⟨by repeat (first | (with_reducible first | exact HI0.out | apply zaf.alloc | apply zaf.drewN | apply zaf.drew | apply zaf.zaX | apply zaf.zaW | apply zaf.zaY) | exact HI0.out)⟩, ⟨by repeat (first | (with_reducible first | exact HK.out | apply KeepBut.set_ | apply zao | apply zaq | apply keep_alloc) | exact HK.out)⟩, ⟨by repeat (first | (with_reducible first | exact HB.out | apply zad | apply zaa | apply zac | refine zae ?_ (zaf.ge HI0.out)) | exact HB.out)⟩⟩
   case rest =>
    clear HC8
    try clear c5b0
    try clear c6b0
    try clear p7
    try clear q7
    try clear hx7
    try clear hcv13
    try clear p7
    try clear q7
    obtain ⟨kq, x24_7, x1001_7, x1002_7, x1003_7, rfl, HA, HJ7, HI0, HK, HB⟩ := hcut
    cases kq with
    | zero => exact absurd HA.out (by simp [zaU.j0])
    | succ kj7 =>
     have H := HA.out; clear HA
     simp only [zaU.j0] at H
     by_cases c17 : x24_7 = true
     ·subst c17
      replace H : (if 0 ≤ t413 then (if t413 ≤ (a1.size : Int) then (if (a1.extract 0 (t413 : Int).toNat).size + (strOfNums y421).size ≤ 9223372036854775807 then (if ((a1.extract 0 (t413 : Int).toNat) ++ (strOfNums y421)).size + (a1.extract (t413 : Int).toNat a1.size).size ≤ 9223372036854775807 then (some (((a1.extract 0 (t413 : Int).toNat) ++ (strOfNums y421)) ++ (a1.extract (t413 : Int).toNat a1.size), x1001_7, x1002_7, x1003_7)) else (none)) else (none)) else (none)) else (none)) = some (r1, r2, r3, r4) := by rw [if_pos rfl] at H; exact H
      by_cases c18 : 0 ≤ t413
      ·rw [if_pos c18] at H
       have c18b0 := eq_true c18
       have c18b1 : decide (0 ≤ t413) = true := decide_eq_true c18
       clear c18
       by_cases c19 : t413 ≤ (a1.size : Int)
       ·rw [if_pos c19] at H
        have c19b0 := eq_true c19
        have c19b1 : decide (t413 ≤ (a1.size : Int)) = true := decide_eq_true c19
        clear c19
        by_cases c20 : (a1.extract 0 (t413 : Int).toNat).size + (strOfNums y421).size ≤ 9223372036854775807
        ·rw [if_pos c20] at H
         have c20b0 := eq_true c20
         have c20b1 : decide ((a1.extract 0 (t413 : Int).toNat).size + (strOfNums y421).size ≤ 9223372036854775807) = true := decide_eq_true c20
         try have c20b2 : (9223372036854775807 < (a1.extract 0 (t413 : Int).toNat).size + (strOfNums y421).size) = False := eq_false (Nat.not_lt.2 c20)
         have c21b0 := eq_true (of_decide_eq_true (by first | (with_reducible assumption) | assumption) : 0 ≤ t413)
         have c22b0 := eq_true (of_decide_eq_true (by first | (with_reducible assumption) | assumption) : t413 ≤ (a1.size : Int))
         by_cases c23 : ((a1.extract 0 (t413 : Int).toNat) ++ (strOfNums y421)).size + (a1.extract (t413 : Int).toNat a1.size).size ≤ 9223372036854775807
         ·rw [if_pos c23] at H
          have c23b0 := eq_true c23
          have c23b1 : decide (((a1.extract 0 (t413 : Int).toNat) ++ (strOfNums y421)).size + (a1.extract (t413 : Int).toNat a1.size).size ≤ 9223372036854775807) = true := decide_eq_true c23
          try have c23b2 : (9223372036854775807 < ((a1.extract 0 (t413 : Int).toNat) ++ (strOfNums y421)).size + (a1.extract (t413 : Int).toNat a1.size).size) = False := eq_false (Nat.not_lt.2 c23)
          simp only [Option.some.injEq, Prod.mk.injEq] at H
          obtain ⟨rfl, rfl, rfl, rfl⟩ := H
          go_wp2
          repeat (go_quiet (fail); try go_wp2)
          go_ret
          exact ⟨by first | rfl | (simp [zar, zas] <;> rfl) | (simp [*, zar, zas] <;> rfl), by repeat (first | (with_reducible first | exact HI0.out | apply zaf.alloc | apply zaf.drewN | apply zaf.drew | apply zaf.zaX | apply zaf.zaW | apply zaf.zaY) | exact HI0.out), by repeat (first | (with_reducible first | exact HB.out | apply zad | apply zaa | apply zac | refine zae ?_ (zaf.ge HI0.out)) | exact HB.out), by repeat (first | (with_reducible first | exact HK.out | apply KeepBut.set_ | apply zao | apply zaq | apply keep_alloc) | exact HK.out)⟩
         rw [if_neg c23] at H
         exact absurd H (by simp)
        rw [if_neg c20] at H
        exact absurd H (by simp)
       rw [if_neg c19] at H
       exact absurd H (by simp)
      rw [if_neg c18] at H
      exact absurd H (by simp)
     replace c17 := Bool.eq_false_iff.mpr c17
     subst c17
     replace H : ((za5.f s0_0 x1001_7 x1002_7 x1003_7 2).bind fun bt428 => (if bt428.1 = true then (if 0 ≤ t413 then (if t413 ≤ (a1.size : Int) then (if 0 ≤ (wrap64 (t413 + 1)) then (if (wrap64 (t413 + 1)) ≤ (a1.size : Int) then (if (a1.extract 0 (t413 : Int).toNat).size + (a1.extract ((wrap64 (t413 + 1)) : Int).toNat a1.size).size ≤ 9223372036854775807 then (some ((a1.extract 0 (t413 : Int).toNat) ++ (a1.extract ((wrap64 (t413 + 1)) : Int).toNat a1.size), bt428.2.1, bt428.2.2.1, bt428.2.2.2)) else (none)) else (none)) else (none)) else (none)) else (none)) else (if 0 ≤ t413 then (if t413 ≤ (a1.size : Int) then (if (a1.extract 0 (t413 : Int).toNat).size + (strOfNums y421).size ≤ 9223372036854775807 then (if 0 ≤ (wrap64 (t413 + 1)) then (if (wrap64 (t413 + 1)) ≤ (a1.size : Int) then (if ((a1.extract 0 (t413 : Int).toNat) ++ (strOfNums y421)).size + (a1.extract ((wrap64 (t413 + 1)) : Int).toNat a1.size).size ≤ 9223372036854775807 then (some (((a1.extract 0 (t413 : Int).toNat) ++ (strOfNums y421)) ++ (a1.extract ((wrap64 (t413 + 1)) : Int).toNat a1.size), bt428.2.1, bt428.2.2.1, bt428.2.2.2)) else (none)) else (none)) else (none)) else (none)) else (none)) else (none)))) = some (r1, r2, r3, r4) := by rw [if_neg (show ¬ (false = true) by decide)] at H; exact H
     replace H := Option.bind_eq_some_iff.mp H
     obtain ⟨⟨t428, t429, t430, t431⟩, A240, H⟩ := H
     replace H : (if t428 = true then (if 0 ≤ t413 then (if t413 ≤ (a1.size : Int) then (if 0 ≤ (wrap64 (t413 + 1)) then (if (wrap64 (t413 + 1)) ≤ (a1.size : Int) then (if (a1.extract 0 (t413 : Int).toNat).size + (a1.extract ((wrap64 (t413 + 1)) : Int).toNat a1.size).size ≤ 9223372036854775807 then (some ((a1.extract 0 (t413 : Int).toNat) ++ (a1.extract ((wrap64 (t413 + 1)) : Int).toNat a1.size), t429, t430, t431)) else (none)) else (none)) else (none)) else (none)) else (none)) else (if 0 ≤ t413 then (if t413 ≤ (a1.size : Int) then (if (a1.extract 0 (t413 : Int).toNat).size + (strOfNums y421).size ≤ 9223372036854775807 then (if 0 ≤ (wrap64 (t413 + 1)) then (if (wrap64 (t413 + 1)) ≤ (a1.size : Int) then (if ((a1.extract 0 (t413 : Int).toNat) ++ (strOfNums y421)).size + (a1.extract ((wrap64 (t413 + 1)) : Int).toNat a1.size).size ≤ 9223372036854775807 then (some (((a1.extract 0 (t413 : Int).toNat) ++ (strOfNums y421)) ++ (a1.extract ((wrap64 (t413 + 1)) : Int).toNat a1.size), t429, t430, t431)) else (none)) else (none)) else (none)) else (none)) else (none)) else (none))) = some (r1, r2, r3, r4) := H
     have A24 := zab.mk A240; clear A240
     by_cases c25 : t428 = true
     ·subst c25
      replace H : (if 0 ≤ t413 then (if t413 ≤ (a1.size : Int) then (if 0 ≤ (wrap64 (t413 + 1)) then (if (wrap64 (t413 + 1)) ≤ (a1.size : Int) then (if (a1.extract 0 (t413 : Int).toNat).size + (a1.extract ((wrap64 (t413 + 1)) : Int).toNat a1.size).size ≤ 9223372036854775807 then (some ((a1.extract 0 (t413 : Int).toNat) ++ (a1.extract ((wrap64 (t413 + 1)) : Int).toNat a1.size), t429, t430, t431)) else (none)) else (none)) else (none)) else (none)) else (none)) = some (r1, r2, r3, r4) := by rw [if_pos rfl] at H; exact H
      by_cases c26 : 0 ≤ t413
      ·rw [if_pos c26] at H
       have c26b0 := eq_true c26
       have c26b1 : decide (0 ≤ t413) = true := decide_eq_true c26
       clear c26
       by_cases c27 : t413 ≤ (a1.size : Int)
       ·rw [if_pos c27] at H
        have c27b0 := eq_true c27
        have c27b1 : decide (t413 ≤ (a1.size : Int)) = true := decide_eq_true c27
        clear c27
        obtain ⟨ji28, hji28⟩ : ∃ j_ : Int, (wrap64 (t413 + 1)) = j_ := ⟨_, rfl⟩
        replace H : (if 0 ≤ (ji28) then (if (ji28) ≤ (a1.size : Int) then (if (a1.extract 0 (t413 : Int).toNat).size + (a1.extract ((ji28) : Int).toNat a1.size).size ≤ 9223372036854775807 then (some ((a1.extract 0 (t413 : Int).toNat) ++ (a1.extract ((ji28) : Int).toNat a1.size), t429, t430, t431)) else (none)) else (none)) else (none)) = some (r1, r2, r3, r4) := by first | (rw [hji28] at H; exact H) | (simp only [hji28] at H ⊢; exact H)
        (try rw [hji28] at A24)
        have hji28w : (IntKind.i64.wrap (t413 + 1)) = ji28 := (zaR _).trans hji28
        by_cases c29 : 0 ≤ (ji28)
        ·rw [if_pos c29] at H
         have c29b0 := eq_true c29
         have c29b1 : decide (0 ≤ (ji28)) = true := decide_eq_true c29
         clear c29
         by_cases c30 : (ji28) ≤ (a1.size : Int)
         ·rw [if_pos c30] at H
          have c30b0 := eq_true c30
          have c30b1 : decide ((ji28) ≤ (a1.size : Int)) = true := decide_eq_true c30
          clear c30
          by_cases c31 : (a1.extract 0 (t413 : Int).toNat).size + (a1.extract ((ji28) : Int).toNat a1.size).size ≤ 9223372036854775807
          ·rw [if_pos c31] at H
           have c31b0 := eq_true c31
           have c31b1 : decide ((a1.extract 0 (t413 : Int).toNat).size + (a1.extract ((ji28) : Int).toNat a1.size).size ≤ 9223372036854775807) = true := decide_eq_true c31
           try have c31b2 : (9223372036854775807 < (a1.extract 0 (t413 : Int).toNat).size + (a1.extract ((ji28) : Int).toNat a1.size).size) = False := eq_false (Nat.not_lt.2 c31)
           simp only [Option.some.injEq, Prod.mk.injEq] at H
           obtain ⟨rfl, rfl, rfl, rfl⟩ := H
           go_wp2_with (first | (go_at_call 18; (with_reducible refine (za5.calls g s0_0 x1001_7 x1002_7 x1003_7 2 true t429 t430 t431 w0 _ ?side1 ?side2 A24.out).mono ?_); (case side1 => repeat (first | (with_reducible first | exact HI0.out | apply zaf.alloc | apply zaf.drewN | apply zaf.drew | apply zaf.zaX | apply zaf.zaW | apply zaf.zaY) | exact HI0.out)); (case side2 => repeat (first | (with_reducible first | exact HB.out | apply zad | apply zaa | apply zac | refine zae ?_ (zaf.ge HI0.out)) | exact HB.out)); rintro e w32 ⟨rfl, hi, hb, hk⟩; have n0_ := zab.mk (KeepBut.trans (by repeat (first | (with_reducible first | exact HK.out | apply KeepBut.set_ | apply zao | apply zaq | apply keep_alloc) | exact HK.out)) hk (.inl rfl)); have n1_ := zab.mk (hb); have n2_ := zab.mk (hi); clear HK HB HI0; have HK := n0_; have HB := n1_; have HI0 := n2_; clear n0_ n1_ n2_; (try clear hb); (try clear hb2); (try clear hk); (try clear hi)))
           repeat (go_quiet (first | (go_at_call 18; (with_reducible refine (za5.calls g s0_0 x1001_7 x1002_7 x1003_7 2 true t429 t430 t431 w0 _ ?side1 ?side2 A24.out).mono ?_); (case side1 => repeat (first | (with_reducible first | exact HI0.out | apply zaf.alloc | apply zaf.drewN | apply zaf.drew | apply zaf.zaX | apply zaf.zaW | apply zaf.zaY) | exact HI0.out)); (case side2 => repeat (first | (with_reducible first | exact HB.out | apply zad | apply zaa | apply zac | refine zae ?_ (zaf.ge HI0.out)) | exact HB.out)); rintro e w32 ⟨rfl, hi, hb, hk⟩; have n0_ := zab.mk (KeepBut.trans (by repeat (first | (with_reducible first | exact HK.out | apply KeepBut.set_ | apply zao | apply zaq | apply keep_alloc) | exact HK.out)) hk (.inl rfl)); have n1_ := zab.mk (hb); have n2_ := zab.mk (hi); clear HK HB HI0; have HK := n0_; have HB := n1_; have HI0 := n2_; clear n0_ n1_ n2_; (try clear hb); (try clear hb2); (try clear hk); (try clear hi))); try go_wp2_with (first | (go_at_call 18; (with_reducible refine (za5.calls g s0_0 x1001_7 x1002_7 x1003_7 2 true t429 t430 t431 w0 _ ?side1 ?side2 A24.out).mono ?_); (case side1 => repeat (first | (with_reducible first | exact HI0.out | apply zaf.alloc | apply zaf.drewN | apply zaf.drew | apply zaf.zaX | apply zaf.zaW | apply zaf.zaY) | exact HI0.out)); (case side2 => repeat (first | (with_reducible first | exact HB.out | apply zad | apply zaa | apply zac | refine zae ?_ (zaf.ge HI0.out)) | exact HB.out)); rintro e w32 ⟨rfl, hi, hb, hk⟩; have n0_ := zab.mk (KeepBut.trans (by repeat (first | (with_reducible first | exact HK.out | apply KeepBut.set_ | apply zao | apply zaq | apply keep_alloc) | exact HK.out)) hk (.inl rfl)); have n1_ := zab.mk (hb); have n2_ := zab.mk (hi); clear HK HB HI0; have HK := n0_; have HB := n1_; have HI0 := n2_; clear n0_ n1_ n2_; (try clear hb); (try clear hb2); (try clear hk); (try clear hi))))
           go_ret
           exact ⟨by first | rfl | (simp [zar, zas] <;> rfl) | (simp only [← hji28]; first | rfl | (simp [zar, zas] <;> rfl)) | (simp [*, zar, zas] <;> rfl), by repeat (first | (with_reducible first | exact HI0.out | apply zaf.alloc | apply zaf.drewN | apply zaf.drew | apply zaf.zaX | apply zaf.zaW | apply zaf.zaY) | exact HI0.out), by repeat (first | (with_reducible first | exact HB.out | apply zad | apply zaa | apply zac | refine zae ?_ (zaf.ge HI0.out)) | exact HB.out), by repeat (first | (with_reducible first | exact HK.out | apply KeepBut.set_ | apply zao | apply zaq | apply keep_alloc) | exact HK.out)⟩
          rw [if_neg c31] at H
          exact absurd H (by simp)
         rw [if_neg c30] at H
         exact absurd H (by simp)
        rw [if_neg c29] at H
        exact absurd H (by simp)
       rw [if_neg c27] at H
       exact absurd H (by simp)
      rw [if_neg c26] at H
      exact absurd H (by simp)
     replace c25 := Bool.eq_false_iff.mpr c25
     subst c25
     replace H : (if 0 ≤ t413 then (if t413 ≤ (a1.size : Int) then (if (a1.extract 0 (t413 : Int).toNat).size + (strOfNums y421).size ≤ 9223372036854775807 then (if 0 ≤ (wrap64 (t413 + 1)) then (if (wrap64 (t413 + 1)) ≤ (a1.size : Int) then (if ((a1.extract 0 (t413 : Int).toNat) ++ (strOfNums y421)).size + (a1.extract ((wrap64 (t413 + 1)) : Int).toNat a1.size).size ≤ 9223372036854775807 then (some (((a1.extract 0 (t413 : Int).toNat) ++ (strOfNums y421)) ++ (a1.extract ((wrap64 (t413 + 1)) : Int).toNat a1.size), t429, t430, t431)) else (none)) else (none)) else (none)) else (none)) else (none)) else (none)) = some (r1, r2, r3, r4) := by rw [if_neg (show ¬ (false = true) by decide)] at H; exact H
     by_cases c33 : 0 ≤ t413
     ·rw [if_pos c33] at H
      have c33b0 := eq_true c33
      have c33b1 : decide (0 ≤ t413) = true := decide_eq_true c33
      clear c33
      by_cases c34 : t413 ≤ (a1.size : Int)
      ·rw [if_pos c34] at H
       have c34b0 := eq_true c34
       have c34b1 : decide (t413 ≤ (a1.size : Int)) = true := decide_eq_true c34
       clear c34
       by_cases c35 : (a1.extract 0 (t413 : Int).toNat).size + (strOfNums y421).size ≤ 9223372036854775807
       ·rw [if_pos c35] at H
        have c35b0 := eq_true c35
        have c35b1 : decide ((a1.extract 0 (t413 : Int).toNat).size + (strOfNums y421).size ≤ 9223372036854775807) = true := decide_eq_true c35
        try have c35b2 : (9223372036854775807 < (a1.extract 0 (t413 : Int).toNat).size + (strOfNums y421).size) = False := eq_false (Nat.not_lt.2 c35)
        obtain ⟨ji36, hji36⟩ : ∃ j_ : Int, (wrap64 (t413 + 1)) = j_ := ⟨_, rfl⟩
        replace H : (if 0 ≤ (ji36) then (if (ji36) ≤ (a1.size : Int) then (if ((a1.extract 0 (t413 : Int).toNat) ++ (strOfNums y421)).size + (a1.extract ((ji36) : Int).toNat a1.size).size ≤ 9223372036854775807 then (some (((a1.extract 0 (t413 : Int).toNat) ++ (strOfNums y421)) ++ (a1.extract ((ji36) : Int).toNat a1.size), t429, t430, t431)) else (none)) else (none)) else (none)) = some (r1, r2, r3, r4) := by first | (rw [hji36] at H; exact H) | (simp only [hji36] at H ⊢; exact H)
        (try rw [hji36] at A24)
        have hji36w : (IntKind.i64.wrap (t413 + 1)) = ji36 := (zaR _).trans hji36
        by_cases c37 : 0 ≤ (ji36)
        ·rw [if_pos c37] at H
         have c37b0 := eq_true c37
         have c37b1 : decide (0 ≤ (ji36)) = true := decide_eq_true c37
         clear c37
         by_cases c38 : (ji36) ≤ (a1.size : Int)
         ·rw [if_pos c38] at H
          have c38b0 := eq_true c38
          have c38b1 : decide ((ji36) ≤ (a1.size : Int)) = true := decide_eq_true c38
          clear c38
          by_cases c39 : ((a1.extract 0 (t413 : Int).toNat) ++ (strOfNums y421)).size + (a1.extract ((ji36) : Int).toNat a1.size).size ≤ 9223372036854775807
          ·rw [if_pos c39] at H
           have c39b0 := eq_true c39
           have c39b1 : decide (((a1.extract 0 (t413 : Int).toNat) ++ (strOfNums y421)).size + (a1.extract ((ji36) : Int).toNat a1.size).size ≤ 9223372036854775807) = true := decide_eq_true c39
           try have c39b2 : (9223372036854775807 < ((a1.extract 0 (t413 : Int).toNat) ++ (strOfNums y421)).size + (a1.extract ((ji36) : Int).toNat a1.size).size) = False := eq_false (Nat.not_lt.2 c39)
           simp only [Option.some.injEq, Prod.mk.injEq] at H
           obtain ⟨rfl, rfl, rfl, rfl⟩ := H
           go_wp2_with (first | (go_at_call 18; (with_reducible refine (za5.calls g s0_0 x1001_7 x1002_7 x1003_7 2 false t429 t430 t431 w0 _ ?side1 ?side2 A24.out).mono ?_); (case side1 => repeat (first | (with_reducible first | exact HI0.out | apply zaf.alloc | apply zaf.drewN | apply zaf.drew | apply zaf.zaX | apply zaf.zaW | apply zaf.zaY) | exact HI0.out)); (case side2 => repeat (first | (with_reducible first | exact HB.out | apply zad | apply zaa | apply zac | refine zae ?_ (zaf.ge HI0.out)) | exact HB.out)); rintro e w40 ⟨rfl, hi, hb, hk⟩; have n0_ := zab.mk (KeepBut.trans (by repeat (first | (with_reducible first | exact HK.out | apply KeepBut.set_ | apply zao | apply zaq | apply keep_alloc) | exact HK.out)) hk (.inl rfl)); have n1_ := zab.mk (hb); have n2_ := zab.mk (hi); clear HK HB HI0; have HK := n0_; have HB := n1_; have HI0 := n2_; clear n0_ n1_ n2_; (try clear hb); (try clear hb2); (try clear hk); (try clear hi)))
           repeat (go_quiet (first | (go_at_call 18; (with_reducible refine (za5.calls g s0_0 x1001_7 x1002_7 x1003_7 2 false t429 t430 t431 w0 _ ?side1 ?side2 A24.out).mono ?_); (case side1 => repeat (first | (with_reducible first | exact HI0.out | apply zaf.alloc | apply zaf.drewN | apply zaf.drew | apply zaf.zaX | apply zaf.zaW | apply zaf.zaY) | exact HI0.out)); (case side2 => repeat (first | (with_reducible first | exact HB.out | apply zad | apply zaa | apply zac | refine zae ?_ (zaf.ge HI0.out)) | exact HB.out)); rintro e w40 ⟨rfl, hi, hb, hk⟩; have n0_ := zab.mk (KeepBut.trans (by repeat (first | (with_reducible first | exact HK.out | apply KeepBut.set_ | apply zao | apply zaq | apply keep_alloc) | exact HK.out)) hk (.inl rfl)); have n1_ := zab.mk (hb); have n2_ := zab.mk (hi); clear HK HB HI0; have HK := n0_; have HB := n1_; have HI0 := n2_; clear n0_ n1_ n2_; (try clear hb); (try clear hb2); (try clear hk); (try clear hi))); try go_wp2_with (first | (go_at_call 18; (with_reducible refine (za5.calls g s0_0 x1001_7 x1002_7 x1003_7 2 false t429 t430 t431 w0 _ ?side1 ?side2 A24.out).mono ?_); (case side1 => repeat (first | (with_reducible first | exact HI0.out | apply zaf.alloc | apply zaf.drewN | apply zaf.drew | apply zaf.zaX | apply zaf.zaW | apply zaf.zaY) | exact HI0.out)); (case side2 => repeat (first | (with_reducible first | exact HB.out | apply zad | apply zaa | apply zac | refine zae ?_ (zaf.ge HI0.out)) | exact HB.out)); rintro e w40 ⟨rfl, hi, hb, hk⟩; have n0_ := zab.mk (KeepBut.trans (by repeat (first | (with_reducible first | exact HK.out | apply KeepBut.set_ | apply zao | apply zaq | apply keep_alloc) | exact HK.out)) hk (.inl rfl)); have n1_ := zab.mk (hb); have n2_ := zab.mk (hi); clear HK HB HI0; have HK := n0_; have HB := n1_; have HI0 := n2_; clear n0_ n1_ n2_; (try clear hb); (try clear hb2); (try clear hk); (try clear hi))))
           go_ret
           exact ⟨by first | rfl | (simp [zar, zas] <;> rfl) | (simp only [← hji36]; first | rfl | (simp [zar, zas] <;> rfl)) | (simp [*, zar, zas] <;> rfl), by repeat (first | (with_reducible first | exact HI0.out | apply zaf.alloc | apply zaf.drewN | apply zaf.drew | apply zaf.zaX | apply zaf.zaW | apply zaf.zaY) | exact HI0.out), by repeat (first | (with_reducible first | exact HB.out | apply zad | apply zaa | apply zac | refine zae ?_ (zaf.ge HI0.out)) | exact HB.out), by repeat (first | (with_reducible first | exact HK.out | apply KeepBut.set_ | apply zao | apply zaq | apply keep_alloc) | exact HK.out)⟩
          rw [if_neg c39] at H
          exact absurd H (by simp)
         rw [if_neg c38] at H
         exact absurd H (by simp)
        rw [if_neg c37] at H
        exact absurd H (by simp)
       rw [if_neg c35] at H
       exact absurd H (by simp)
      rw [if_neg c34] at H
      exact absurd H (by simp)
     rw [if_neg c33] at H
     exact absurd H (by simp)
  rw [if_neg c6] at H
  exact absurd H (by simp)
 rw [if_neg c5] at H
 exact absurd H (by simp)
def za9.f (s0_0 : List Int) (s0_1 : Int) (s0_2 : Int) (s0_3 : Int) (l1 : List ByteArray) : Option (ByteArray × Int × Int × Int) := (zaj.f s0_0 s0_1 s0_2 s0_3 (l1.length : Int)).bind fun bt432 => (if 0 ≤ bt432.1 then (if bt432.1 < (l1.length : Int) then (some (rdOf ByteArray.empty l1 bt432.1, bt432.2.1, bt432.2.2.1, bt432.2.2.2)) else (none)) else (none))
set_option maxHeartbeats 8000000 in
set_option maxRecDepth 100000 in
theorem za9.calls (g : Nat) (s0_0 : List Int) (s0_1 : Int) (s0_2 : Int) (s0_3 : Int) (A1 : Option Addr) (c1 : Nat) (l1 : List ByteArray) (r1 : ByteArray) (r2 : Int) (r3 : Int) (r4 : Int) (w0 w : World) (hI : zaf w0 w g s0_0 s0_1 s0_2 s0_3) (hB : Below w0.heap.size w0 w) (hr1 : Kd.C Kd.string w A1 l1.length l1) (hc1 : l1.length ≤ c1) (hf1 : ∀ ad, A1 = some ad → 0 < l1.length → ad.block ≠ g) (h : za9.f s0_0 s0_1 s0_2 s0_3 l1 = some (r1, r2, r3, r4)) :
  Calls Tryd.prog 36 #[.pointer (some ⟨g, 0, none⟩), .slice A1 l1.length c1] w fun e w' => e = .returned (.string r1) ∧ zaf w0 w' g s0_0 r2 r3 r4 ∧ Below w0.heap.size w0 w' ∧ KeepBut w w' g none := by
 have HR1 := zab.mk hr1; have HC1 := zab.mk hc1; clear hr1 hc1; have HI0 := zab.mk hI
 have HK := zab.mk (KeepBut.refl w g none)
 have HL := zab.mk hB.size; clear hI; have HW0 := zab.mk hB.size; have HB := zab.mk hB; clear hB
 have H : ((zaj.f s0_0 s0_1 s0_2 s0_3 (l1.length : Int)).bind fun bt432 => (if 0 ≤ bt432.1 then (if bt432.1 < (l1.length : Int) then (some (rdOf ByteArray.empty l1 bt432.1, bt432.2.1, bt432.2.2.1, bt432.2.2.2)) else (none)) else (none))) = some (r1, r2, r3, r4) := h
 clear h; replace H := Option.bind_eq_some_iff.mp H
 obtain ⟨⟨t432, t433, t434, t435⟩, A30, H⟩ := H
 replace H : (if 0 ≤ t432 then (if t432 < (l1.length : Int) then (some (rdOf ByteArray.empty l1 t432, t433, t434, t435)) else (none)) else (none)) = some (r1, r2, r3, r4) := H
 have A3 := zab.mk A30; clear A30
 by_cases c4 : 0 ≤ t432
 ·rw [if_pos c4] at H
  have c4b0 : decide (0 ≤ t432) = true := decide_eq_true c4
  clear c4
  by_cases c5 : t432 < (l1.length : Int)
  ·rw [if_pos c5] at H
   have c5b0 : decide (t432 < (l1.length : Int)) = true := decide_eq_true c5
   clear c5
   simp only [Option.some.injEq, Prod.mk.injEq] at H
   obtain ⟨rfl, rfl, rfl, rfl⟩ := H
   go_enter Tryd.func36, Tryd.ntmps36
   go_wp2_with (first | ((with_reducible refine zan (f := 19) rfl ?_); refine zaN (some 9) rfl rfl Tryd.func19 (by kernel_rfl) rfl #[.pointer (some ⟨g, 0, none⟩), .int .i64 (l1.length : Int)] rfl (by (try simp only [List.map_toArray, List.map_cons, List.map_nil]); first | done | rfl | (simp only [List.length_drop, List.length_take]; rfl)) ?_; (with_reducible refine (zaj.calls g s0_0 s0_1 s0_2 s0_3 (l1.length : Int) t432 t433 t434 t435 w0 _ ?side1 ?side2 A3.out).mono ?_); (case side1 => repeat (first | (with_reducible first | exact HI0.out | apply zaf.alloc | apply zaf.drewN | apply zaf.drew | apply zaf.zaX | apply zaf.zaW | apply zaf.zaY) | exact HI0.out)); (case side2 => repeat (first | (with_reducible first | exact HB.out | apply zad | apply zaa | apply zac | refine zae ?_ (zaf.ge HI0.out)) | exact HB.out)); rintro e w6 ⟨rfl, hi, hb, hk⟩; refine ⟨_, rfl, ?_⟩; have n0_ := zab.mk (KeepBut.trans (by repeat (first | (with_reducible first | exact HK.out | apply KeepBut.set_ | apply zao | apply zaq | apply keep_alloc) | exact HK.out)) hk (.inl rfl)); have n1_ := zab.mk (hb); have n2_ := zab.mk (hi); clear HK HB HI0; have HK := n0_; have HB := n1_; have HI0 := n2_; clear n0_ n1_ n2_; (try clear hb); (try clear hb2); (try clear hk); (try clear hi); have p436 : 0 ≤ (t432 : Int) := of_decide_eq_true (by first | (with_reducible assumption) | assumption); have q436 : t432 < (l1.length : Int) := of_decide_eq_true (by first | (with_reducible assumption) | assumption); obtain ⟨ad436, e436, hx436_0⟩ := Kd.at_string HR1.out t432 p436 q436; cases e436; replace hx436_0 := keep_cell HK.out hx436_0 (by first | (rw [add_block]; exact hf1 _ rfl (by omega)) | exact hf1 _ rfl (by omega) | exact hf1 ad436 rfl (by omega)); replace p436 := eq_true p436; replace q436 := eq_true q436))
   go_ret
   exact ⟨by first | rfl | (simp [zar, zas] <;> rfl) | (simp [*, zar, zas] <;> rfl), by repeat (first | (with_reducible first | exact HI0.out | apply zaf.alloc | apply zaf.drewN | apply zaf.drew | apply zaf.zaX | apply zaf.zaW | apply zaf.zaY) | exact HI0.out), by repeat (first | (with_reducible first | exact HB.out | apply zad | apply zaa | apply zac | refine zae ?_ (zaf.ge HI0.out)) | exact HB.out), by repeat (first | (with_reducible first | exact HK.out | apply KeepBut.set_ | apply zao | apply zaq | apply keep_alloc) | exact HK.out)⟩
  rw [if_neg c5] at H
  exact absurd H (by simp)
 rw [if_neg c4] at H
 exact absurd H (by simp)
end Go.Proofs.YtfafjbolmeimmaaDoor.P
