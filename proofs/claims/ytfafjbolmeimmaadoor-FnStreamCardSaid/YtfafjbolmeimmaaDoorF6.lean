/- Written by a program of this session: plain Lean functions for Go functions, and for each the proof that the call comes to what the function says. -/
import Derived.Test.YtfafjbolmeimmaaDoorF0
import Derived.Test.YtfafjbolmeimmaaDoorF1
import Derived.Test.YtfafjbolmeimmaaDoorXSn
namespace Go.Proofs.YtfafjbolmeimmaaDoor.P
open Go.RowKit Go.Proofs.YtfafjbolmeimmaaDoorW.PrintWords Go.Proofs.YtfafjbolmeimmaaDoorW.PrintLast Go.Proofs.YtfafjbolmeimmaaDoorW.PrintMore
attribute [local go_sem] max2_int min2_int max_two min_two max_three min_three max_four min_four
set_option linter.unusedVariables false
set_option linter.unusedSimpArgs false
mutual
def zaz.j0 : Nat → Int → Bool → List Int → Int → Int → Int → Option (Int × Int × Int × Int)
 | 0, _, _, _, _, _, _ => none
 | k + 1, x4, x5, x1000, x1001, x1002, x1003 => if x5 = true then ((zaj.f x1000 x1001 x1002 x1003 26).bind fun bt180 => (some (wrap64 (97 + bt180.1), bt180.2.1, bt180.2.2.1, bt180.2.2.2))) else (if x4 = 3 then ((zaj.f x1000 x1001 x1002 x1003 26).bind fun bt184 => (some (wrap64 (65 + bt184.1), bt184.2.1, bt184.2.2.1, bt184.2.2.2))) else (if x4 = 4 then ((some (([32, 32, 160, 10, 9, 13, 8064, 173] : List Int) : List Int)).bind fun y188 => ((zaj.f x1000 x1001 x1002 x1003 8).bind fun bt191 => (if 0 ≤ bt191.1 then (if bt191.1 < (y188.length : Int) then (some (rd y188 bt191.1, bt191.2.1, bt191.2.2.1, bt191.2.2.2)) else (none)) else (none)))) else (if x4 = 5 then ((zaj.f x1000 x1001 x1002 x1003 10).bind fun bt196 => ((zaj.f x1000 bt196.2.1 bt196.2.2.1 bt196.2.2.2 10).bind fun bt200 => ((zaj.f x1000 bt200.2.1 bt200.2.2.1 bt200.2.2.2 10).bind fun bt204 => ((zaj.f x1000 bt204.2.1 bt204.2.2.1 bt204.2.2.2 10).bind fun bt208 => ((some (([wrap64 (48 + bt196.1), wrap64 (592 + bt200.1), wrap64 (1360 + bt204.1), wrap64 (10016 + bt208.1)] : List Int) : List Int)).bind fun y212 => ((zaj.f x1000 bt208.2.1 bt208.2.2.1 bt208.2.2.2 4).bind fun bt215 => (if 0 ≤ bt215.1 then (if bt215.1 < (y212.length : Int) then (some (rd y212 bt215.1, bt215.2.1, bt215.2.2.1, bt215.2.2.2)) else (none)) else (none)))))))) else (if x4 = 6 then ((some (([46, 44, 33, 63, 39, 40, 41, 91, 93, 45, 58, 95] : List Int) : List Int)).bind fun y220 => ((zaj.f x1000 x1001 x1002 x1003 12).bind fun bt223 => (if 0 ≤ bt223.1 then (if bt223.1 < (y220.length : Int) then (some (rd y220 bt223.1, bt223.2.1, bt223.2.2.1, bt223.2.2.2)) else (none)) else (none)))) else (if x4 = 7 then (zaz.j1 k x4 (x4 == 7) x1000 x1001 x1002 x1003) else (zaz.j1 k x4 (x4 == 8) x1000 x1001 x1002 x1003))))))
def zaz.j1 : Nat → Int → Bool → List Int → Int → Int → Int → Option (Int × Int × Int × Int)
 | 0, _, _, _, _, _, _ => none
 | k + 1, x4, x50, x1000, x1001, x1002, x1003 => if x50 = true then ((zaj.f x1000 x1001 x1002 x1003 3).bind fun bt228 => ((zaj.f x1000 bt228.2.1 bt228.2.2.1 bt228.2.2.2 76).bind fun bt232 => (some (wrap64 ((wrap64 (512 + (wrap64 (256 * bt228.1)))) + bt232.1), bt232.2.1, bt232.2.2.1, bt232.2.2.2)))) else (if x4 = 9 then ((zaj.f x1000 x1001 x1002 x1003 3).bind fun bt236 => ((zaj.f x1000 bt236.2.1 bt236.2.2.1 bt236.2.2.2 2).bind fun bt240 => (some (wrap64 ((wrap64 ((wrap64 (512 + (wrap64 (256 * bt236.1)))) + 96)) + bt240.1), bt240.2.1, bt240.2.2.1, bt240.2.2.2)))) else (if x4 = 10 then (zaz.j2 k x4 (x4 == 10) x1000 x1001 x1002 x1003) else (zaz.j2 k x4 (x4 == 11) x1000 x1001 x1002 x1003)))
def zaz.j2 : Nat → Int → Bool → List Int → Int → Int → Int → Option (Int × Int × Int × Int)
 | 0, _, _, _, _, _, _ => none
 | k + 1, x4, x70, x1000, x1001, x1002, x1003 => if x70 = true then ((zaj.f x1000 x1001 x1002 x1003 32).bind fun bt244 => (some (wrap64 (1280 + bt244.1), bt244.2.1, bt244.2.2.1, bt244.2.2.2))) else (if x4 = 12 then ((zaj.f x1000 x1001 x1002 x1003 32).bind fun bt248 => ((zaj.f x1000 bt248.2.1 bt248.2.2.1 bt248.2.2.2 12).bind fun bt252 => ((some (([wrap64 (1536 + bt248.1), wrap64 (1568 + bt252.1), 1584, 1585] : List Int) : List Int)).bind fun y256 => ((zaj.f x1000 bt252.2.1 bt252.2.2.1 bt252.2.2.2 4).bind fun bt259 => (if 0 ≤ bt259.1 then (if bt259.1 < (y256.length : Int) then (some (rd y256 bt259.1, bt259.2.1, bt259.2.2.1, bt259.2.2.2)) else (none)) else (none)))))) else (if x4 = 13 then ((zaj.f x1000 x1001 x1002 x1003 19).bind fun bt264 => ((zaj.f x1000 bt264.2.1 bt264.2.2.1 bt264.2.2.2 21).bind fun bt268 => ((zaj.f x1000 bt268.2.1 bt268.2.2.1 bt268.2.2.2 27).bind fun bt272 => ((some (([wrap64 (1792 + bt264.1), wrap64 (1824 + bt268.1), wrap64 (1857 + bt272.1)] : List Int) : List Int)).bind fun y276 => ((zaj.f x1000 bt272.2.1 bt272.2.2.1 bt272.2.2.2 3).bind fun bt279 => (if 0 ≤ bt279.1 then (if bt279.1 < (y276.length : Int) then (some (rd y276 bt279.1, bt279.2.1, bt279.2.2.1, bt279.2.2.2)) else (none)) else (none))))))) else (if x4 = 14 then ((zaj.f x1000 x1001 x1002 x1003 48).bind fun bt284 => (some (wrap64 (2048 + bt284.1), bt284.2.1, bt284.2.2.1, bt284.2.2.2))) else (if x4 = 15 then (zaz.j3 k x4 (x4 == 15) x1000 x1001 x1002 x1003) else (zaz.j3 k x4 (x4 == 16) x1000 x1001 x1002 x1003)))))
def zaz.j3 : Nat → Int → Bool → List Int → Int → Int → Int → Option (Int × Int × Int × Int)
 | 0, _, _, _, _, _, _ => none
 | k + 1, x4, x110, x1000, x1001, x1002, x1003 => if x110 = true then ((zaj.f x1000 x1001 x1002 x1003 64).bind fun bt288 => (some (wrap64 (4096 + bt288.1), bt288.2.1, bt288.2.2.1, bt288.2.2.2))) else (if x4 = 17 then ((zaj.f x1000 x1001 x1002 x1003 64).bind fun bt292 => ((zaj.f x1000 bt292.2.1 bt292.2.2.1 bt292.2.2.2 5).bind fun bt296 => ((zaj.f x1000 bt296.2.1 bt296.2.2.1 bt296.2.2.2 26).bind fun bt300 => ((some (([wrap64 (7680 + bt292.1), wrap64 (7744 + bt296.1), wrap64 (7760 + bt300.1)] : List Int) : List Int)).bind fun y304 => ((zaj.f x1000 bt300.2.1 bt300.2.2.1 bt300.2.2.2 3).bind fun bt307 => (if 0 ≤ bt307.1 then (if bt307.1 < (y304.length : Int) then (some (rd y304 bt307.1, bt307.2.1, bt307.2.2.1, bt307.2.2.2)) else (none)) else (none))))))) else (if x4 = 18 then ((zaj.f x1000 x1001 x1002 x1003 12).bind fun bt312 => ((some (([wrap64 (7936 + bt312.1), 7953, 7954] : List Int) : List Int)).bind fun y316 => ((zaj.f x1000 bt312.2.1 bt312.2.2.1 bt312.2.2.2 3).bind fun bt319 => (if 0 ≤ bt319.1 then (if bt319.1 < (y316.length : Int) then (some (rd y316 bt319.1, bt319.2.1, bt319.2.2.1, bt319.2.2.2)) else (none)) else (none))))) else (if x4 = 19 then (zaz.j4 k x4 (x4 == 19) x1000 x1001 x1002 x1003) else (zaz.j4 k x4 (x4 == 20) x1000 x1001 x1002 x1003))))
def zaz.j4 : Nat → Int → Bool → List Int → Int → Int → Int → Option (Int × Int × Int × Int)
 | 0, _, _, _, _, _, _ => none
 | k + 1, x4, x142, x1000, x1001, x1002, x1003 => if x142 = true then ((zaj.f x1000 x1001 x1002 x1003 3).bind fun bt324 => ((zaj.f x1000 bt324.2.1 bt324.2.2.1 bt324.2.2.2 416).bind fun bt328 => (some (wrap64 ((wrap64 (8192 + (wrap64 (512 * bt324.1)))) + bt328.1), bt328.2.1, bt328.2.2.1, bt328.2.2.2)))) else (if x4 = 21 then ((zaj.f x1000 x1001 x1002 x1003 26).bind fun bt332 => ((zaj.f x1000 bt332.2.1 bt332.2.2.1 bt332.2.2.2 26).bind fun bt336 => ((zaj.f x1000 bt336.2.1 bt336.2.2.1 bt336.2.2.2 4).bind fun bt340 => ((some (([wrap64 (9728 + bt332.1), wrap64 (9984 + bt336.1), wrap64 (10032 + bt340.1)] : List Int) : List Int)).bind fun y344 => ((zaj.f x1000 bt340.2.1 bt340.2.2.1 bt340.2.2.2 3).bind fun bt347 => (if 0 ≤ bt347.1 then (if bt347.1 < (y344.length : Int) then (some (rd y344 bt347.1, bt347.2.1, bt347.2.2.1, bt347.2.2.2)) else (none)) else (none))))))) else (if x4 = 22 then ((zaj.f x1000 x1001 x1002 x1003 11172).bind fun bt352 => ((zaj.f x1000 bt352.2.1 bt352.2.2.1 bt352.2.2.2 2048).bind fun bt356 => ((some (([wrap64 (12288 + bt352.1), wrap64 (24576 + bt356.1)] : List Int) : List Int)).bind fun y360 => ((zaj.f x1000 bt356.2.1 bt356.2.2.1 bt356.2.2.2 2).bind fun bt363 => (if 0 ≤ bt363.1 then (if bt363.1 < (y360.length : Int) then (some (rd y360 bt363.1, bt363.2.1, bt363.2.2.1, bt363.2.2.2)) else (none)) else (none)))))) else ((zaj.f x1000 x1001 x1002 x1003 12288).bind fun bt368 => ((zaj.f x1000 bt368.2.1 bt368.2.2.1 bt368.2.2.2 4096).bind fun bt372 => ((zaj.f x1000 bt372.2.1 bt372.2.2.1 bt372.2.2.2 32768).bind fun bt376 => ((some (([65533, wrap64 (20480 + bt368.1), wrap64 (65536 + bt372.1), 1114111, 65535, bt376.1] : List Int) : List Int)).bind fun y380 => ((zaj.f x1000 bt376.2.1 bt376.2.2.1 bt376.2.2.2 6).bind fun bt383 => (if 0 ≤ bt383.1 then (if bt383.1 < (y380.length : Int) then (some (rd y380 bt383.1, bt383.2.1, bt383.2.2.1, bt383.2.2.2)) else (none)) else (none)))))))))
end
def zaz.f (k : Nat) (s0_0 : List Int) (s0_1 : Int) (s0_2 : Int) (s0_3 : Int) : Option (Int × Int × Int × Int) := (zaj.f s0_0 s0_1 s0_2 s0_3 24).bind fun bt176 => (if bt176.1 = 0 then (zaz.j0 k bt176.1 (bt176.1 == 0) s0_0 bt176.2.1 bt176.2.2.1 bt176.2.2.2) else (if bt176.1 = 1 then (zaz.j0 k bt176.1 (bt176.1 == 1) s0_0 bt176.2.1 bt176.2.2.1 bt176.2.2.2) else (zaz.j0 k bt176.1 (bt176.1 == 2) s0_0 bt176.2.1 bt176.2.2.1 bt176.2.2.2)))
set_option maxHeartbeats 8000000 in
set_option maxRecDepth 100000 in
theorem zaz.calls (k : Nat) (g : Nat) (s0_0 : List Int) (s0_1 : Int) (s0_2 : Int) (s0_3 : Int) (r1 : Int) (r2 : Int) (r3 : Int) (r4 : Int) (w0 w : World) (hI : zaf w0 w g s0_0 s0_1 s0_2 s0_3) (hB : Below w0.heap.size w0 w) (h : zaz.f k s0_0 s0_1 s0_2 s0_3 = some (r1, r2, r3, r4)) :
  Calls Tryd.prog 53 #[.pointer (some ⟨g, 0, none⟩)] w fun e w' => e = .returned (.int .i64 r1) ∧ zaf w0 w' g s0_0 r2 r3 r4 ∧ Below w0.heap.size w0 w' ∧ KeepBut w w' g none := by
 have HI0 := zab.mk hI
 have HK := zab.mk (KeepBut.refl w g none)
 have HL := zab.mk hB.size; clear hI; have HW0 := zab.mk hB.size; have HB := zab.mk hB; clear hB
 have H : ((zaj.f s0_0 s0_1 s0_2 s0_3 24).bind fun bt176 => (if bt176.1 = 0 then (zaz.j0 k bt176.1 (bt176.1 == 0) s0_0 bt176.2.1 bt176.2.2.1 bt176.2.2.2) else (if bt176.1 = 1 then (zaz.j0 k bt176.1 (bt176.1 == 1) s0_0 bt176.2.1 bt176.2.2.1 bt176.2.2.2) else (zaz.j0 k bt176.1 (bt176.1 == 2) s0_0 bt176.2.1 bt176.2.2.1 bt176.2.2.2)))) = some (r1, r2, r3, r4) := h
 clear h; replace H := Option.bind_eq_some_iff.mp H
 obtain ⟨⟨t176, t177, t178, t179⟩, A20, H⟩ := H
 replace H : (if t176 = 0 then (zaz.j0 k t176 (t176 == 0) s0_0 t177 t178 t179) else (if t176 = 1 then (zaz.j0 k t176 (t176 == 1) s0_0 t177 t178 t179) else (zaz.j0 k t176 (t176 == 2) s0_0 t177 t178 t179))) = some (r1, r2, r3, r4) := H
 have A2 := zab.mk A20; clear A20; have HC3 := zab.mk H; clear H
 go_enter Tryd.func53, Tryd.ntmps53
 go_upto_if 5 with (first | ((with_reducible refine zan (f := 19) rfl ?_); refine zaN (some 4) rfl rfl Tryd.func19 (by kernel_rfl) rfl #[.pointer (some ⟨g, 0, none⟩), .int .i64 24] rfl (by (try simp only [List.map_toArray, List.map_cons, List.map_nil]); first | done | rfl | (simp only [List.length_drop, List.length_take]; rfl)) ?_; (with_reducible refine (zaj.calls g s0_0 s0_1 s0_2 s0_3 24 t176 t177 t178 t179 w0 _ ?side1 ?side2 A2.out).mono ?_); (case side1 => exact HI0.out); (case side2 => exact HB.out); rintro e w4 ⟨rfl, hi, hb, hk⟩; refine ⟨_, rfl, ?_⟩; have n0_ := zab.mk (KeepBut.trans HK.out hk (.inl rfl)); have n1_ := zab.mk (hb); have n2_ := zab.mk (hi); clear HK HB HI0; have HK := n0_; have HB := n1_; have HI0 := n2_; clear n0_ n1_ n2_; (try clear hb); (try clear hb2); (try clear hk); (try clear hi)))
 (try simp only [Act.put, List.setIfInBounds_toArray, List.set_cons_zero, List.set_cons_succ])
 go_cut [5] (fun v5 wc => ∃ (kq : Nat) (x5_2 : Bool), v5 = .bool x5_2 ∧ zab (zaz.j0 kq t176 x5_2 s0_0 t177 t178 t179 = some (r1, r2, r3, r4)) ∧ zab (kq ≤ k) ∧ zab (zaf w0 wc g s0_0 t177 t178 t179) ∧ zab (KeepBut w wc g none) ∧ zab (Below w0.heap.size w0 wc))
 case first => as_aux_lemma =>
  have H := HC3.out; clear HC3
  by_cases c5 : t176 = 0
  ·rw [if_pos c5] at H
   have c5b0 : (t176 == 0) = true := beq_iff_eq.mpr c5
   have c5b1 : (t176 != 0) = false := bne_eq_false_iff_eq.mpr c5
   clear c5
   (first | rw [c5b0] | rw [c5b1] | (simp only [zaR, zaS]; rw [c5b0]) | skip)
   have H' := zab.mk H; clear H
   go_wp2
   go_meet
   case rel => exact ⟨_, ((t176 == 0)), (by first | rfl | (simp; done) | (simp [*]; done)), H', ⟨by first | omega | exact Nat.le_refl _⟩, ⟨by repeat (first | (with_reducible first | exact HI0.out | apply zaf.alloc | apply zaf.drewN | apply zaf.drew | apply zaf.zaX | apply zaf.zaW | apply zaf.zaY) | exact HI0.out)⟩, ⟨by repeat (first | (with_reducible first | exact HK.out | apply KeepBut.set_ | apply zao | apply zaq | apply keep_alloc) | exact HK.out)⟩, ⟨by repeat (first | (with_reducible first | exact HB.out | apply zad | apply zaa | apply zac | refine zae ?_ (zaf.ge HI0.out)) | exact HB.out)⟩⟩
  rw [if_neg c5] at H
  have c5b0 : (t176 == 0) = false := beq_eq_false_iff_ne.mpr c5
  have c5b1 : (t176 != 0) = true := bne_iff_ne.mpr c5
  (first | rw [c5b0] | rw [c5b1] | (simp only [zaR, zaS]; rw [c5b0]) | skip)
  by_cases c6 : t176 = 1
  ·rw [if_pos c6] at H
   have c6b0 : (t176 == 1) = true := beq_iff_eq.mpr c6
   have c6b1 : (t176 != 1) = false := bne_eq_false_iff_eq.mpr c6
   clear c6; have H' := zab.mk H; clear H
   go_wp2
   go_meet
   case rel => exact ⟨_, ((t176 == 1)), (by first | rfl | (simp; done) | (simp [*]; done)), H', ⟨by first | omega | exact Nat.le_refl _⟩, ⟨by repeat (first | (with_reducible first | exact HI0.out | apply zaf.alloc | apply zaf.drewN | apply zaf.drew | apply zaf.zaX | apply zaf.zaW | apply zaf.zaY) | exact HI0.out)⟩, ⟨by repeat (first | (with_reducible first | exact HK.out | apply KeepBut.set_ | apply zao | apply zaq | apply keep_alloc) | exact HK.out)⟩, ⟨by repeat (first | (with_reducible first | exact HB.out | apply zad | apply zaa | apply zac | refine zae ?_ (zaf.ge HI0.out)) | exact HB.out)⟩⟩
  rw [if_neg c6] at H
  have c6b0 : (t176 == 1) = false := beq_eq_false_iff_ne.mpr c6
  have c6b1 : (t176 != 1) = true := bne_iff_ne.mpr c6
  have H' := zab.mk H; clear H
  go_wp2
  go_meet
  case rel => exact ⟨_, ((t176 == 2)), rfl, H', ⟨by first | omega | exact Nat.le_refl _⟩, ⟨by repeat (first | (with_reducible first | exact HI0.out | apply zaf.alloc | apply zaf.drewN | apply zaf.drew | apply zaf.zaX | apply zaf.zaW | apply zaf.zaY) | exact HI0.out)⟩, ⟨by repeat (first | (with_reducible first | exact HK.out | apply KeepBut.set_ | apply zao | apply zaq | apply keep_alloc) | exact HK.out)⟩, ⟨by repeat (first | (with_reducible first | exact HB.out | apply zad | apply zaa | apply zac | refine zae ?_ (zaf.ge HI0.out)) | exact HB.out)⟩⟩
 case rest =>
  clear HC3
  obtain ⟨kq, x5_2, rfl, HA, HJ2, HI0, HK, HB⟩ := hcut
  cases kq with
  | zero => exact absurd HA.out (by simp [zaz.j0])
  | succ kj2 =>
   have H := HA.out; clear HA
   simp only [zaz.j0] at H
   by_cases c7 : x5_2 = true
   ·subst c7
    replace H : ((zaj.f s0_0 t177 t178 t179 26).bind fun bt180 => (some (wrap64 (97 + bt180.1), bt180.2.1, bt180.2.2.1, bt180.2.2.2))) = some (r1, r2, r3, r4) := by rw [if_pos rfl] at H; exact H
    replace H := Option.bind_eq_some_iff.mp H
    obtain ⟨⟨t180, t181, t182, t183⟩, A80, H⟩ := H
    replace H : (some (wrap64 (97 + t180), t181, t182, t183)) = some (r1, r2, r3, r4) := H
    have A8 := zab.mk A80; clear A80
    simp only [Option.some.injEq, Prod.mk.injEq] at H
    obtain ⟨rfl, rfl, rfl, rfl⟩ := H
    go_wp2_with (first | ((with_reducible refine zan (f := 19) rfl ?_); refine zaN (some 10) rfl rfl Tryd.func19 (by kernel_rfl) rfl #[.pointer (some ⟨g, 0, none⟩), .int .i64 26] rfl (by (try simp only [List.map_toArray, List.map_cons, List.map_nil]); first | done | rfl | (simp only [List.length_drop, List.length_take]; rfl)) ?_; (with_reducible refine (zaj.calls g s0_0 t177 t178 t179 26 t180 t181 t182 t183 w0 _ ?side1 ?side2 A8.out).mono ?_); (case side1 => exact HI0.out); (case side2 => exact HB.out); rintro e w9 ⟨rfl, hi, hb, hk⟩; refine ⟨_, rfl, ?_⟩; have n0_ := zab.mk (KeepBut.trans HK.out hk (.inl rfl)); have n1_ := zab.mk (hb); have n2_ := zab.mk (hi); clear HK HB HI0; have HK := n0_; have HB := n1_; have HI0 := n2_; clear n0_ n1_ n2_; (try clear hb); (try clear hb2); (try clear hk); (try clear hi)))
    go_ret
    exact ⟨by first | rfl | (simp [zar, zas] <;> rfl) | (simp [*, zar, zas] <;> rfl), by repeat (first | (with_reducible first | exact HI0.out | apply zaf.alloc | apply zaf.drewN | apply zaf.drew | apply zaf.zaX | apply zaf.zaW | apply zaf.zaY) | exact HI0.out), by repeat (first | (with_reducible first | exact HB.out | apply zad | apply zaa | apply zac | refine zae ?_ (zaf.ge HI0.out)) | exact HB.out), by repeat (first | (with_reducible first | exact HK.out | apply KeepBut.set_ | apply zao | apply zaq | apply keep_alloc) | exact HK.out)⟩
   replace c7 := Bool.eq_false_iff.mpr c7
   subst c7
   replace H : (if t176 = 3 then ((zaj.f s0_0 t177 t178 t179 26).bind fun bt184 => (some (wrap64 (65 + bt184.1), bt184.2.1, bt184.2.2.1, bt184.2.2.2))) else (if t176 = 4 then ((some (([32, 32, 160, 10, 9, 13, 8064, 173] : List Int) : List Int)).bind fun y188 => ((zaj.f s0_0 t177 t178 t179 8).bind fun bt191 => (if 0 ≤ bt191.1 then (if bt191.1 < (y188.length : Int) then (some (rd y188 bt191.1, bt191.2.1, bt191.2.2.1, bt191.2.2.2)) else (none)) else (none)))) else (if t176 = 5 then ((zaj.f s0_0 t177 t178 t179 10).bind fun bt196 => ((zaj.f s0_0 bt196.2.1 bt196.2.2.1 bt196.2.2.2 10).bind fun bt200 => ((zaj.f s0_0 bt200.2.1 bt200.2.2.1 bt200.2.2.2 10).bind fun bt204 => ((zaj.f s0_0 bt204.2.1 bt204.2.2.1 bt204.2.2.2 10).bind fun bt208 => ((some (([wrap64 (48 + bt196.1), wrap64 (592 + bt200.1), wrap64 (1360 + bt204.1), wrap64 (10016 + bt208.1)] : List Int) : List Int)).bind fun y212 => ((zaj.f s0_0 bt208.2.1 bt208.2.2.1 bt208.2.2.2 4).bind fun bt215 => (if 0 ≤ bt215.1 then (if bt215.1 < (y212.length : Int) then (some (rd y212 bt215.1, bt215.2.1, bt215.2.2.1, bt215.2.2.2)) else (none)) else (none)))))))) else (if t176 = 6 then ((some (([46, 44, 33, 63, 39, 40, 41, 91, 93, 45, 58, 95] : List Int) : List Int)).bind fun y220 => ((zaj.f s0_0 t177 t178 t179 12).bind fun bt223 => (if 0 ≤ bt223.1 then (if bt223.1 < (y220.length : Int) then (some (rd y220 bt223.1, bt223.2.1, bt223.2.2.1, bt223.2.2.2)) else (none)) else (none)))) else (if t176 = 7 then (zaz.j1 kj2 t176 (t176 == 7) s0_0 t177 t178 t179) else (zaz.j1 kj2 t176 (t176 == 8) s0_0 t177 t178 t179)))))) = some (r1, r2, r3, r4) := by rw [if_neg (show ¬ (false = true) by decide)] at H; exact H
   by_cases c10 : t176 = 3
   ·rw [if_pos c10] at H
    have c10b0 : (t176 == 3) = true := beq_iff_eq.mpr c10
    have c10b1 : (t176 != 3) = false := bne_eq_false_iff_eq.mpr c10
    clear c10; replace H := Option.bind_eq_some_iff.mp H
    obtain ⟨⟨t184, t185, t186, t187⟩, A110, H⟩ := H
    replace H : (some (wrap64 (65 + t184), t185, t186, t187)) = some (r1, r2, r3, r4) := H
    have A11 := zab.mk A110; clear A110
    simp only [Option.some.injEq, Prod.mk.injEq] at H
    obtain ⟨rfl, rfl, rfl, rfl⟩ := H
    go_wp2_with (first | ((with_reducible refine zan (f := 19) rfl ?_); refine zaN (some 15) rfl rfl Tryd.func19 (by kernel_rfl) rfl #[.pointer (some ⟨g, 0, none⟩), .int .i64 26] rfl (by (try simp only [List.map_toArray, List.map_cons, List.map_nil]); first | done | rfl | (simp only [List.length_drop, List.length_take]; rfl)) ?_; (with_reducible refine (zaj.calls g s0_0 t177 t178 t179 26 t184 t185 t186 t187 w0 _ ?side1 ?side2 A11.out).mono ?_); (case side1 => exact HI0.out); (case side2 => exact HB.out); rintro e w12 ⟨rfl, hi, hb, hk⟩; refine ⟨_, rfl, ?_⟩; have n0_ := zab.mk (KeepBut.trans HK.out hk (.inl rfl)); have n1_ := zab.mk (hb); have n2_ := zab.mk (hi); clear HK HB HI0; have HK := n0_; have HB := n1_; have HI0 := n2_; clear n0_ n1_ n2_; (try clear hb); (try clear hb2); (try clear hk); (try clear hi)))
    go_ret
    exact ⟨by first | rfl | (simp [zar, zas] <;> rfl) | (simp [*, zar, zas] <;> rfl), by repeat (first | (with_reducible first | exact HI0.out | apply zaf.alloc | apply zaf.drewN | apply zaf.drew | apply zaf.zaX | apply zaf.zaW | apply zaf.zaY) | exact HI0.out), by repeat (first | (with_reducible first | exact HB.out | apply zad | apply zaa | apply zac | refine zae ?_ (zaf.ge HI0.out)) | exact HB.out), by repeat (first | (with_reducible first | exact HK.out | apply KeepBut.set_ | apply zao | apply zaq | apply keep_alloc) | exact HK.out)⟩
   rw [if_neg c10] at H
   have c10b0 : (t176 == 3) = false := beq_eq_false_iff_ne.mpr c10
   have c10b1 : (t176 != 3) = true := bne_iff_ne.mpr c10
   by_cases c13 : t176 = 4
   ·rw [if_pos c13] at H
    have c13b0 : (t176 == 4) = true := beq_iff_eq.mpr c13
    have c13b1 : (t176 != 4) = false := bne_eq_false_iff_eq.mpr c13
    clear c13
    obtain ⟨y188, hy188⟩ : ∃ y_ : List Int, y_ = (([32, 32, 160, 10, 9, 13, 8064, 173] : List Int)) := ⟨_, rfl⟩
    replace H : ((zaj.f s0_0 t177 t178 t179 8).bind fun bt191 => (if 0 ≤ bt191.1 then (if bt191.1 < (y188.length : Int) then (some (rd y188 bt191.1, bt191.2.1, bt191.2.2.1, bt191.2.2.2)) else (none)) else (none))) = some (r1, r2, r3, r4) := by first | (rw [hy188]; with_reducible exact H) | (have H2_ := (Option.bind_some _ _).symm.trans H; rw [hy188]; with_reducible exact H2_) | (have H2_ := (Option.bind_some _ _).symm.trans H; with_reducible exact H2_) | with_reducible exact H | (rw [hy188]; exact H) | exact H
    have Ny188 := zab.mk hy188; clear hy188; replace H := Option.bind_eq_some_iff.mp H
    obtain ⟨⟨t191, t192, t193, t194⟩, A140, H⟩ := H
    replace H : (if 0 ≤ t191 then (if t191 < (y188.length : Int) then (some (rd y188 t191, t192, t193, t194)) else (none)) else (none)) = some (r1, r2, r3, r4) := H
    have A14 := zab.mk A140; clear A140
    by_cases c15 : 0 ≤ t191
    ·rw [if_pos c15] at H
     have c15b0 : decide (0 ≤ t191) = true := decide_eq_true c15
     clear c15
     by_cases c16 : t191 < (y188.length : Int)
     ·rw [if_pos c16] at H
      have c16b0 : decide (t191 < (y188.length : Int)) = true := decide_eq_true c16
      clear c16
      simp only [Option.some.injEq, Prod.mk.injEq] at H
      obtain ⟨rfl, rfl, rfl, rfl⟩ := H
      go_wp2_with (first | ((with_reducible refine zbb (N := 19) rfl ?_); refine Kd.R_lit (Kd.int .i64) _ 2 ?hg (N := 19) ?hd (xs := ([32, 32, 160, 10, 9, 13, 8064, 173] : List Int)) (inner := [.int .i64 32, .int .i64 32, .int .i64 160, .int .i64 10, .int .i64 9, .int .i64 13, .int .i64 8064, .int .i64 173]) (ok := fun _ => True) (okp := fun _ => True) ?hr ?hp (fun _ hk => hk) trivial (Below.refl _ _) (Nat.le_refl _) (by simp) ?_; (case hd => rfl); (case hg => rfl); (case hr => first | (go_simp; done) | (go_simp; rfl)); (case hp => exact (Reps.one (show Kd.M (Kd.int .i64) _ _ _ 32 [.int .i64 32] from rfl) (Reps.one (show Kd.M (Kd.int .i64) _ _ _ 32 [.int .i64 32] from rfl) (Reps.one (show Kd.M (Kd.int .i64) _ _ _ 160 [.int .i64 160] from rfl) (Reps.one (show Kd.M (Kd.int .i64) _ _ _ 10 [.int .i64 10] from rfl) (Reps.one (show Kd.M (Kd.int .i64) _ _ _ 9 [.int .i64 9] from rfl) (Reps.one (show Kd.M (Kd.int .i64) _ _ _ 13 [.int .i64 13] from rfl) (Reps.one (show Kd.M (Kd.int .i64) _ _ _ 8064 [.int .i64 8064] from rfl) (Reps.one (show Kd.M (Kd.int .i64) _ _ _ 173 [.int .i64 173] from rfl) (Reps.none _ _)))))))))); intro v189 w17 ho18 hb hg_ hnew_; clear hg_ hnew_; (first | rw [← Ny188.out] at ho18 | (simp only [Int.reduceToNat] at ho18; rw [← Ny188.out] at ho18)); have n0_ := zab.mk (Kd.zbm ho18 (zbB (w := w) (g := g) (row := none) HK.out)); have n1_ := zab.mk (zaf.below HI0.out hb); have n2_ := zab.mk (KeepBut.trans HK.out (KeepBut.of_below hb g none) (.inl rfl)); have n3_ := zab.mk (zau HB.out hb); clear HI0 HK HB; have HO190 := n0_; have HI0 := n1_; have HK := n2_; have HB := n3_; clear n0_ n1_ n2_ n3_ hb ho18) | ((with_reducible refine zan (f := 19) rfl ?_); refine zaN (some 21) rfl rfl Tryd.func19 (by kernel_rfl) rfl #[.pointer (some ⟨g, 0, none⟩), .int .i64 8] rfl (by (try simp only [List.map_toArray, List.map_cons, List.map_nil]); first | done | rfl | (simp only [List.length_drop, List.length_take]; rfl)) ?_; (with_reducible refine (zaj.calls g s0_0 t177 t178 t179 8 t191 t192 t193 t194 w0 _ ?side1 ?side2 A14.out).mono ?_); (case side1 => exact HI0.out); (case side2 => exact HB.out); rintro e w19 ⟨rfl, hi, hb, hk⟩; refine ⟨_, rfl, ?_⟩; have n0_ := zab.mk (Kd.za7 (Kd.R_keep (zaf.apart (show zaf w0 _ g s0_0 t177 t178 t179 from by repeat (first | (with_reducible first | exact HI0.out | apply zaf.alloc | apply zaf.drewN | apply zaf.drew | apply zaf.zaX | apply zaf.zaW | apply zaf.zaY) | exact HI0.out)) HO190.out (by decide)) hk (fun _ h => h.2)) (fun _ h => h.1)); have n1_ := zab.mk (KeepBut.trans HK.out hk (.inl rfl)); have n2_ := zab.mk (hb); have n3_ := zab.mk (hi); clear HO190 HK HB HI0; have HO190 := n0_; have HK := n1_; have HB := n2_; have HI0 := n3_; clear n0_ n1_ n2_ n3_; (try clear hb); (try clear hb2); (try clear hk); (try clear hi); obtain ⟨Ao20, co20, eo20⟩ := Kd.zbr HO190.out; subst eo20; have p195 : 0 ≤ (t191 : Int) := of_decide_eq_true (by first | (with_reducible assumption) | assumption); have q195 : t191 < (y188.length : Int) := of_decide_eq_true (by first | (with_reducible assumption) | assumption); obtain ⟨ad195, e195, hx195_0⟩ := Kd.at_int (Kd.zbl HO190.out).2.2 t191 p195 q195; cases e195; replace p195 := eq_true p195; replace q195 := eq_true q195))
      go_ret
      exact ⟨by first | rfl | (simp [zar, zas] <;> rfl) | (simp [*, zar, zas] <;> rfl), by repeat (first | (with_reducible first | exact HI0.out | apply zaf.alloc | apply zaf.drewN | apply zaf.drew | apply zaf.zaX | apply zaf.zaW | apply zaf.zaY) | exact HI0.out), by repeat (first | (with_reducible first | exact HB.out | apply zad | apply zaa | apply zac | refine zae ?_ (zaf.ge HI0.out)) | exact HB.out), by repeat (first | (with_reducible first | exact HK.out | apply KeepBut.set_ | apply zao | apply zaq | apply keep_alloc) | exact HK.out)⟩
     rw [if_neg c16] at H
     exact absurd H (by simp)
    rw [if_neg c15] at H
    exact absurd H (by simp)
   rw [if_neg c13] at H
   have c13b0 : (t176 == 4) = false := beq_eq_false_iff_ne.mpr c13
   have c13b1 : (t176 != 4) = true := bne_iff_ne.mpr c13
   by_cases c21 : t176 = 5
   ·rw [if_pos c21] at H
    have c21b0 : (t176 == 5) = true := beq_iff_eq.mpr c21
    have c21b1 : (t176 != 5) = false := bne_eq_false_iff_eq.mpr c21
    clear c21; replace H := Option.bind_eq_some_iff.mp H
    obtain ⟨⟨t196, t197, t198, t199⟩, A220, H⟩ := H
    replace H : ((zaj.f s0_0 t197 t198 t199 10).bind fun bt200 => ((zaj.f s0_0 bt200.2.1 bt200.2.2.1 bt200.2.2.2 10).bind fun bt204 => ((zaj.f s0_0 bt204.2.1 bt204.2.2.1 bt204.2.2.2 10).bind fun bt208 => ((some (([wrap64 (48 + t196), wrap64 (592 + bt200.1), wrap64 (1360 + bt204.1), wrap64 (10016 + bt208.1)] : List Int) : List Int)).bind fun y212 => ((zaj.f s0_0 bt208.2.1 bt208.2.2.1 bt208.2.2.2 4).bind fun bt215 => (if 0 ≤ bt215.1 then (if bt215.1 < (y212.length : Int) then (some (rd y212 bt215.1, bt215.2.1, bt215.2.2.1, bt215.2.2.2)) else (none)) else (none))))))) = some (r1, r2, r3, r4) := H
    have A22 := zab.mk A220; clear A220; replace H := Option.bind_eq_some_iff.mp H
    obtain ⟨⟨t200, t201, t202, t203⟩, A230, H⟩ := H
    replace H : ((zaj.f s0_0 t201 t202 t203 10).bind fun bt204 => ((zaj.f s0_0 bt204.2.1 bt204.2.2.1 bt204.2.2.2 10).bind fun bt208 => ((some (([wrap64 (48 + t196), wrap64 (592 + t200), wrap64 (1360 + bt204.1), wrap64 (10016 + bt208.1)] : List Int) : List Int)).bind fun y212 => ((zaj.f s0_0 bt208.2.1 bt208.2.2.1 bt208.2.2.2 4).bind fun bt215 => (if 0 ≤ bt215.1 then (if bt215.1 < (y212.length : Int) then (some (rd y212 bt215.1, bt215.2.1, bt215.2.2.1, bt215.2.2.2)) else (none)) else (none)))))) = some (r1, r2, r3, r4) := H
    have A23 := zab.mk A230; clear A230; replace H := Option.bind_eq_some_iff.mp H
    obtain ⟨⟨t204, t205, t206, t207⟩, A240, H⟩ := H
    replace H : ((zaj.f s0_0 t205 t206 t207 10).bind fun bt208 => ((some (([wrap64 (48 + t196), wrap64 (592 + t200), wrap64 (1360 + t204), wrap64 (10016 + bt208.1)] : List Int) : List Int)).bind fun y212 => ((zaj.f s0_0 bt208.2.1 bt208.2.2.1 bt208.2.2.2 4).bind fun bt215 => (if 0 ≤ bt215.1 then (if bt215.1 < (y212.length : Int) then (some (rd y212 bt215.1, bt215.2.1, bt215.2.2.1, bt215.2.2.2)) else (none)) else (none))))) = some (r1, r2, r3, r4) := H
    have A24 := zab.mk A240; clear A240; replace H := Option.bind_eq_some_iff.mp H
    obtain ⟨⟨t208, t209, t210, t211⟩, A250, H⟩ := H
    replace H : ((some (([wrap64 (48 + t196), wrap64 (592 + t200), wrap64 (1360 + t204), wrap64 (10016 + t208)] : List Int) : List Int)).bind fun y212 => ((zaj.f s0_0 t209 t210 t211 4).bind fun bt215 => (if 0 ≤ bt215.1 then (if bt215.1 < (y212.length : Int) then (some (rd y212 bt215.1, bt215.2.1, bt215.2.2.1, bt215.2.2.2)) else (none)) else (none)))) = some (r1, r2, r3, r4) := H
    have A25 := zab.mk A250; clear A250
    obtain ⟨y212, hy212⟩ : ∃ y_ : List Int, y_ = (([wrap64 (48 + t196), wrap64 (592 + t200), wrap64 (1360 + t204), wrap64 (10016 + t208)] : List Int)) := ⟨_, rfl⟩
    replace H : ((zaj.f s0_0 t209 t210 t211 4).bind fun bt215 => (if 0 ≤ bt215.1 then (if bt215.1 < (y212.length : Int) then (some (rd y212 bt215.1, bt215.2.1, bt215.2.2.1, bt215.2.2.2)) else (none)) else (none))) = some (r1, r2, r3, r4) := by first | (rw [hy212]; with_reducible exact H) | (have H2_ := (Option.bind_some _ _).symm.trans H; rw [hy212]; with_reducible exact H2_) | (have H2_ := (Option.bind_some _ _).symm.trans H; with_reducible exact H2_) | with_reducible exact H | (rw [hy212]; exact H) | exact H
    have Ny212 := zab.mk hy212; clear hy212; replace H := Option.bind_eq_some_iff.mp H
    obtain ⟨⟨t215, t216, t217, t218⟩, A260, H⟩ := H
    replace H : (if 0 ≤ t215 then (if t215 < (y212.length : Int) then (some (rd y212 t215, t216, t217, t218)) else (none)) else (none)) = some (r1, r2, r3, r4) := H
    have A26 := zab.mk A260; clear A260
    by_cases c27 : 0 ≤ t215
    ·rw [if_pos c27] at H
     have c27b0 : decide (0 ≤ t215) = true := decide_eq_true c27
     clear c27
     by_cases c28 : t215 < (y212.length : Int)
     ·rw [if_pos c28] at H
      have c28b0 : decide (t215 < (y212.length : Int)) = true := decide_eq_true c28
      clear c28
      simp only [Option.some.injEq, Prod.mk.injEq] at H
      obtain ⟨rfl, rfl, rfl, rfl⟩ := H
      go_wp2_with (first | ((with_reducible refine zan (f := 19) rfl ?_); refine zaN (some 27) rfl rfl Tryd.func19 (by kernel_rfl) rfl #[.pointer (some ⟨g, 0, none⟩), .int .i64 10] rfl (by (try simp only [List.map_toArray, List.map_cons, List.map_nil]); first | done | rfl | (simp only [List.length_drop, List.length_take]; rfl)) ?_; (with_reducible refine (zaj.calls g s0_0 t177 t178 t179 10 t196 t197 t198 t199 w0 _ ?side1 ?side2 A22.out).mono ?_); (case side1 => exact HI0.out); (case side2 => exact HB.out); rintro e w29 ⟨rfl, hi, hb, hk⟩; refine ⟨_, rfl, ?_⟩; have n0_ := zab.mk (KeepBut.trans HK.out hk (.inl rfl)); have n1_ := zab.mk (hb); have n2_ := zab.mk (hi); clear HK HB HI0; have HK := n0_; have HB := n1_; have HI0 := n2_; clear n0_ n1_ n2_; (try clear hb); (try clear hb2); (try clear hk); (try clear hi)) | ((with_reducible refine zan (f := 19) rfl ?_); refine zaN (some 30) rfl rfl Tryd.func19 (by kernel_rfl) rfl #[.pointer (some ⟨g, 0, none⟩), .int .i64 10] rfl (by (try simp only [List.map_toArray, List.map_cons, List.map_nil]); first | done | rfl | (simp only [List.length_drop, List.length_take]; rfl)) ?_; (with_reducible refine (zaj.calls g s0_0 t197 t198 t199 10 t200 t201 t202 t203 w0 _ ?side1 ?side2 A23.out).mono ?_); (case side1 => exact HI0.out); (case side2 => exact HB.out); rintro e w30 ⟨rfl, hi, hb, hk⟩; refine ⟨_, rfl, ?_⟩; have n0_ := zab.mk (KeepBut.trans HK.out hk (.inl rfl)); have n1_ := zab.mk (hb); have n2_ := zab.mk (hi); clear HK HB HI0; have HK := n0_; have HB := n1_; have HI0 := n2_; clear n0_ n1_ n2_; (try clear hb); (try clear hb2); (try clear hk); (try clear hi)) | ((with_reducible refine zan (f := 19) rfl ?_); refine zaN (some 33) rfl rfl Tryd.func19 (by kernel_rfl) rfl #[.pointer (some ⟨g, 0, none⟩), .int .i64 10] rfl (by (try simp only [List.map_toArray, List.map_cons, List.map_nil]); first | done | rfl | (simp only [List.length_drop, List.length_take]; rfl)) ?_; (with_reducible refine (zaj.calls g s0_0 t201 t202 t203 10 t204 t205 t206 t207 w0 _ ?side1 ?side2 A24.out).mono ?_); (case side1 => exact HI0.out); (case side2 => exact HB.out); rintro e w31 ⟨rfl, hi, hb, hk⟩; refine ⟨_, rfl, ?_⟩; have n0_ := zab.mk (KeepBut.trans HK.out hk (.inl rfl)); have n1_ := zab.mk (hb); have n2_ := zab.mk (hi); clear HK HB HI0; have HK := n0_; have HB := n1_; have HI0 := n2_; clear n0_ n1_ n2_; (try clear hb); (try clear hb2); (try clear hk); (try clear hi)) | ((with_reducible refine zan (f := 19) rfl ?_); refine zaN (some 36) rfl rfl Tryd.func19 (by kernel_rfl) rfl #[.pointer (some ⟨g, 0, none⟩), .int .i64 10] rfl (by (try simp only [List.map_toArray, List.map_cons, List.map_nil]); first | done | rfl | (simp only [List.length_drop, List.length_take]; rfl)) ?_; (with_reducible refine (zaj.calls g s0_0 t205 t206 t207 10 t208 t209 t210 t211 w0 _ ?side1 ?side2 A25.out).mono ?_); (case side1 => exact HI0.out); (case side2 => exact HB.out); rintro e w32 ⟨rfl, hi, hb, hk⟩; refine ⟨_, rfl, ?_⟩; have n0_ := zab.mk (KeepBut.trans HK.out hk (.inl rfl)); have n1_ := zab.mk (hb); have n2_ := zab.mk (hi); clear HK HB HI0; have HK := n0_; have HB := n1_; have HI0 := n2_; clear n0_ n1_ n2_; (try clear hb); (try clear hb2); (try clear hk); (try clear hi)) | ((with_reducible refine zbb (N := 38) rfl ?_); refine Kd.R_lit (Kd.int .i64) _ 2 ?hg (N := 38) ?hd (xs := ([wrap64 (48 + t196), wrap64 (592 + t200), wrap64 (1360 + t204), wrap64 (10016 + t208)] : List Int)) (inner := [.int .i64 (wrap64 (48 + t196)), .int .i64 (wrap64 (592 + t200)), .int .i64 (wrap64 (1360 + t204)), .int .i64 (wrap64 (10016 + t208))]) (ok := fun _ => True) (okp := fun _ => True) ?hr ?hp (fun _ hk => hk) trivial (Below.refl _ _) (Nat.le_refl _) (by simp) ?_; (case hd => rfl); (case hg => rfl); (case hr => first | (go_simp; done) | (go_simp; rfl)); (case hp => exact (Reps.one (show Kd.M (Kd.int .i64) _ _ _ (wrap64 (48 + t196)) [.int .i64 (wrap64 (48 + t196))] from rfl) (Reps.one (show Kd.M (Kd.int .i64) _ _ _ (wrap64 (592 + t200)) [.int .i64 (wrap64 (592 + t200))] from rfl) (Reps.one (show Kd.M (Kd.int .i64) _ _ _ (wrap64 (1360 + t204)) [.int .i64 (wrap64 (1360 + t204))] from rfl) (Reps.one (show Kd.M (Kd.int .i64) _ _ _ (wrap64 (10016 + t208)) [.int .i64 (wrap64 (10016 + t208))] from rfl) (Reps.none _ _)))))); intro v213 w33 ho34 hb hg_ hnew_; clear hg_ hnew_; (first | rw [← Ny212.out] at ho34 | (simp only [Int.reduceToNat] at ho34; rw [← Ny212.out] at ho34)); have n0_ := zab.mk (Kd.zbm ho34 (zbB (w := w) (g := g) (row := none) HK.out)); have n1_ := zab.mk (zaf.below HI0.out hb); have n2_ := zab.mk (KeepBut.trans HK.out (KeepBut.of_below hb g none) (.inl rfl)); have n3_ := zab.mk (zau HB.out hb); clear HI0 HK HB; have HO214 := n0_; have HI0 := n1_; have HK := n2_; have HB := n3_; clear n0_ n1_ n2_ n3_ hb ho34) | ((with_reducible refine zan (f := 19) rfl ?_); refine zaN (some 40) rfl rfl Tryd.func19 (by kernel_rfl) rfl #[.pointer (some ⟨g, 0, none⟩), .int .i64 4] rfl (by (try simp only [List.map_toArray, List.map_cons, List.map_nil]); first | done | rfl | (simp only [List.length_drop, List.length_take]; rfl)) ?_; (with_reducible refine (zaj.calls g s0_0 t209 t210 t211 4 t215 t216 t217 t218 w0 _ ?side1 ?side2 A26.out).mono ?_); (case side1 => exact HI0.out); (case side2 => exact HB.out); rintro e w35 ⟨rfl, hi, hb, hk⟩; refine ⟨_, rfl, ?_⟩; have n0_ := zab.mk (Kd.za7 (Kd.R_keep (zaf.apart (show zaf w0 _ g s0_0 t209 t210 t211 from by repeat (first | (with_reducible first | exact HI0.out | apply zaf.alloc | apply zaf.drewN | apply zaf.drew | apply zaf.zaX | apply zaf.zaW | apply zaf.zaY) | exact HI0.out)) HO214.out (by decide)) hk (fun _ h => h.2)) (fun _ h => h.1)); have n1_ := zab.mk (KeepBut.trans HK.out hk (.inl rfl)); have n2_ := zab.mk (hb); have n3_ := zab.mk (hi); clear HO214 HK HB HI0; have HO214 := n0_; have HK := n1_; have HB := n2_; have HI0 := n3_; clear n0_ n1_ n2_ n3_; (try clear hb); (try clear hb2); (try clear hk); (try clear hi); obtain ⟨Ao36, co36, eo36⟩ := Kd.zbr HO214.out; subst eo36; have p219 : 0 ≤ (t215 : Int) := of_decide_eq_true (by first | (with_reducible assumption) | assumption); have q219 : t215 < (y212.length : Int) := of_decide_eq_true (by first | (with_reducible assumption) | assumption); obtain ⟨ad219, e219, hx219_0⟩ := Kd.at_int (Kd.zbl HO214.out).2.2 t215 p219 q219; cases e219; replace p219 := eq_true p219; replace q219 := eq_true q219))
      go_ret
      exact ⟨by first | rfl | (simp [zar, zas] <;> rfl) | (simp [*, zar, zas] <;> rfl), by repeat (first | (with_reducible first | exact HI0.out | apply zaf.alloc | apply zaf.drewN | apply zaf.drew | apply zaf.zaX | apply zaf.zaW | apply zaf.zaY) | exact HI0.out), by repeat (first | (with_reducible first | exact HB.out | apply zad | apply zaa | apply zac | refine zae ?_ (zaf.ge HI0.out)) | exact HB.out), by repeat (first | (with_reducible first | exact HK.out | apply KeepBut.set_ | apply zao | apply zaq | apply keep_alloc) | exact HK.out)⟩
     rw [if_neg c28] at H
     exact absurd H (by simp)
    rw [if_neg c27] at H
    exact absurd H (by simp)
   rw [if_neg c21] at H
   have c21b0 : (t176 == 5) = false := beq_eq_false_iff_ne.mpr c21
   have c21b1 : (t176 != 5) = true := bne_iff_ne.mpr c21
   by_cases c37 : t176 = 6
   ·rw [if_pos c37] at H
    have c37b0 : (t176 == 6) = true := beq_iff_eq.mpr c37
    have c37b1 : (t176 != 6) = false := bne_eq_false_iff_eq.mpr c37
    clear c37
    obtain ⟨y220, hy220⟩ : ∃ y_ : List Int, y_ = (([46, 44, 33, 63, 39, 40, 41, 91, 93, 45, 58, 95] : List Int)) := ⟨_, rfl⟩
    replace H : ((zaj.f s0_0 t177 t178 t179 12).bind fun bt223 => (if 0 ≤ bt223.1 then (if bt223.1 < (y220.length : Int) then (some (rd y220 bt223.1, bt223.2.1, bt223.2.2.1, bt223.2.2.2)) else (none)) else (none))) = some (r1, r2, r3, r4) := by first | (rw [hy220]; with_reducible exact H) | (have H2_ := (Option.bind_some _ _).symm.trans H; rw [hy220]; with_reducible exact H2_) | (have H2_ := (Option.bind_some _ _).symm.trans H; with_reducible exact H2_) | with_reducible exact H | (rw [hy220]; exact H) | exact H
    have Ny220 := zab.mk hy220; clear hy220; replace H := Option.bind_eq_some_iff.mp H
    obtain ⟨⟨t223, t224, t225, t226⟩, A380, H⟩ := H
    replace H : (if 0 ≤ t223 then (if t223 < (y220.length : Int) then (some (rd y220 t223, t224, t225, t226)) else (none)) else (none)) = some (r1, r2, r3, r4) := H
    have A38 := zab.mk A380; clear A380
    by_cases c39 : 0 ≤ t223
    ·rw [if_pos c39] at H
     have c39b0 : decide (0 ≤ t223) = true := decide_eq_true c39
     clear c39
     by_cases c40 : t223 < (y220.length : Int)
     ·rw [if_pos c40] at H
      have c40b0 : decide (t223 < (y220.length : Int)) = true := decide_eq_true c40
      clear c40
      simp only [Option.some.injEq, Prod.mk.injEq] at H
      obtain ⟨rfl, rfl, rfl, rfl⟩ := H
      go_wp2_with (first | ((with_reducible refine zbb (N := 45) rfl ?_); refine Kd.R_lit (Kd.int .i64) _ 2 ?hg (N := 45) ?hd (xs := ([46, 44, 33, 63, 39, 40, 41, 91, 93, 45, 58, 95] : List Int)) (inner := [.int .i64 46, .int .i64 44, .int .i64 33, .int .i64 63, .int .i64 39, .int .i64 40, .int .i64 41, .int .i64 91, .int .i64 93, .int .i64 45, .int .i64 58, .int .i64 95]) (ok := fun _ => True) (okp := fun _ => True) ?hr ?hp (fun _ hk => hk) trivial (Below.refl _ _) (Nat.le_refl _) (by simp) ?_; (case hd => rfl); (case hg => rfl); (case hr => first | (go_simp; done) | (go_simp; rfl)); (case hp => exact (Reps.one (show Kd.M (Kd.int .i64) _ _ _ 46 [.int .i64 46] from rfl) (Reps.one (show Kd.M (Kd.int .i64) _ _ _ 44 [.int .i64 44] from rfl) (Reps.one (show Kd.M (Kd.int .i64) _ _ _ 33 [.int .i64 33] from rfl) (Reps.one (show Kd.M (Kd.int .i64) _ _ _ 63 [.int .i64 63] from rfl) (Reps.one (show Kd.M (Kd.int .i64) _ _ _ 39 [.int .i64 39] from rfl) (Reps.one (show Kd.M (Kd.int .i64) _ _ _ 40 [.int .i64 40] from rfl) (Reps.one (show Kd.M (Kd.int .i64) _ _ _ 41 [.int .i64 41] from rfl) (Reps.one (show Kd.M (Kd.int .i64) _ _ _ 91 [.int .i64 91] from rfl) (Reps.one (show Kd.M (Kd.int .i64) _ _ _ 93 [.int .i64 93] from rfl) (Reps.one (show Kd.M (Kd.int .i64) _ _ _ 45 [.int .i64 45] from rfl) (Reps.one (show Kd.M (Kd.int .i64) _ _ _ 58 [.int .i64 58] from rfl) (Reps.one (show Kd.M (Kd.int .i64) _ _ _ 95 [.int .i64 95] from rfl) (Reps.none _ _)))))))))))))); intro v221 w41 ho42 hb hg_ hnew_; clear hg_ hnew_; (first | rw [← Ny220.out] at ho42 | (simp only [Int.reduceToNat] at ho42; rw [← Ny220.out] at ho42)); have n0_ := zab.mk (Kd.zbm ho42 (zbB (w := w) (g := g) (row := none) HK.out)); have n1_ := zab.mk (zaf.below HI0.out hb); have n2_ := zab.mk (KeepBut.trans HK.out (KeepBut.of_below hb g none) (.inl rfl)); have n3_ := zab.mk (zau HB.out hb); clear HI0 HK HB; have HO222 := n0_; have HI0 := n1_; have HK := n2_; have HB := n3_; clear n0_ n1_ n2_ n3_ hb ho42) | ((with_reducible refine zan (f := 19) rfl ?_); refine zaN (some 47) rfl rfl Tryd.func19 (by kernel_rfl) rfl #[.pointer (some ⟨g, 0, none⟩), .int .i64 12] rfl (by (try simp only [List.map_toArray, List.map_cons, List.map_nil]); first | done | rfl | (simp only [List.length_drop, List.length_take]; rfl)) ?_; (with_reducible refine (zaj.calls g s0_0 t177 t178 t179 12 t223 t224 t225 t226 w0 _ ?side1 ?side2 A38.out).mono ?_); (case side1 => exact HI0.out); (case side2 => exact HB.out); rintro e w43 ⟨rfl, hi, hb, hk⟩; refine ⟨_, rfl, ?_⟩; have n0_ := zab.mk (Kd.za7 (Kd.R_keep (zaf.apart (show zaf w0 _ g s0_0 t177 t178 t179 from by repeat (first | (with_reducible first | exact HI0.out | apply zaf.alloc | apply zaf.drewN | apply zaf.drew | apply zaf.zaX | apply zaf.zaW | apply zaf.zaY) | exact HI0.out)) HO222.out (by decide)) hk (fun _ h => h.2)) (fun _ h => h.1)); have n1_ := zab.mk (KeepBut.trans HK.out hk (.inl rfl)); have n2_ := zab.mk (hb); have n3_ := zab.mk (hi); clear HO222 HK HB HI0; have HO222 := n0_; have HK := n1_; have HB := n2_; have HI0 := n3_; clear n0_ n1_ n2_ n3_; (try clear hb); (try clear hb2); (try clear hk); (try clear hi); obtain ⟨Ao44, co44, eo44⟩ := Kd.zbr HO222.out; subst eo44; have p227 : 0 ≤ (t223 : Int) := of_decide_eq_true (by first | (with_reducible assumption) | assumption); have q227 : t223 < (y220.length : Int) := of_decide_eq_true (by first | (with_reducible assumption) | assumption); obtain ⟨ad227, e227, hx227_0⟩ := Kd.at_int (Kd.zbl HO222.out).2.2 t223 p227 q227; cases e227; replace p227 := eq_true p227; replace q227 := eq_true q227))
      go_ret
      exact ⟨by first | rfl | (simp [zar, zas] <;> rfl) | (simp [*, zar, zas] <;> rfl), by repeat (first | (with_reducible first | exact HI0.out | apply zaf.alloc | apply zaf.drewN | apply zaf.drew | apply zaf.zaX | apply zaf.zaW | apply zaf.zaY) | exact HI0.out), by repeat (first | (with_reducible first | exact HB.out | apply zad | apply zaa | apply zac | refine zae ?_ (zaf.ge HI0.out)) | exact HB.out), by repeat (first | (with_reducible first | exact HK.out | apply KeepBut.set_ | apply zao | apply zaq | apply keep_alloc) | exact HK.out)⟩
     rw [if_neg c40] at H
     exact absurd H (by simp)
    rw [if_neg c39] at H
    exact absurd H (by simp)
   rw [if_neg c37] at H
   have c37b0 : (t176 == 6) = false := beq_eq_false_iff_ne.mpr c37
   have c37b1 : (t176 != 6) = true := bne_iff_ne.mpr c37
   have HC45 := zab.mk H; clear H
   go_upto_if 50 with (fail)
   go_cut [50] (fun v50 wc => ∃ (kq : Nat) (x50_44 : Bool), v50 = .bool x50_44 ∧ zab (zaz.j1 kq t176 x50_44 s0_0 t177 t178 t179 = some (r1, r2, r3, r4)) ∧ zab (kq ≤ kj2) ∧ zab (zaf w0 wc g s0_0 t177 t178 t179) ∧ zab (KeepBut w wc g none) ∧ zab (Below w0.heap.size w0 wc))
   case first => as_aux_lemma =>
    have H := HC45.out; clear HC45
    by_cases c46 : t176 = 7
    ·rw [if_pos c46] at H
     have c46b0 : (t176 == 7) = true := beq_iff_eq.mpr c46
     have c46b1 : (t176 != 7) = false := bne_eq_false_iff_eq.mpr c46
     clear c46
     (first | rw [c46b0] | rw [c46b1] | (simp only [zaR, zaS]; rw [c46b0]) | skip)
     have H' := zab.mk H; clear H
     go_wp2
     go_meet
     case rel => exact ⟨_, ((t176 == 7)), (by first | rfl | (simp; done) | (simp [*]; done)), H', ⟨by have := HJ2.out; first | omega | exact Nat.le_refl _⟩, ⟨by repeat (first | (with_reducible first | exact HI0.out | apply zaf.alloc | apply zaf.drewN | apply zaf.drew | apply zaf.zaX | apply zaf.zaW | apply zaf.zaY) | exact HI0.out)⟩, ⟨by repeat (first | (with_reducible first | exact HK.out | apply KeepBut.set_ | apply zao | apply zaq | apply keep_alloc) | exact HK.out)⟩, ⟨by repeat (first | (with_reducible first | exact HB.out | apply zad | apply zaa | apply zac | refine zae ?_ (zaf.ge HI0.out)) | exact HB.out)⟩⟩
    rw [if_neg c46] at H
    have c46b0 : (t176 == 7) = false := beq_eq_false_iff_ne.mpr c46
    have c46b1 : (t176 != 7) = true := bne_iff_ne.mpr c46
    (first | rw [c46b0] | rw [c46b1] | (simp only [zaR, zaS]; rw [c46b0]) | skip)
    have H' := zab.mk H; clear H
    go_wp2
    go_meet
    case rel => exact ⟨_, ((t176 == 8)), rfl, H', ⟨by have := HJ2.out; first | omega | exact Nat.le_refl _⟩, ⟨by repeat (first | (with_reducible first | exact HI0.out | apply zaf.alloc | apply zaf.drewN | apply zaf.drew | apply zaf.zaX | apply zaf.zaW | apply zaf.zaY) | exact HI0.out)⟩, ⟨by repeat (first | (with_reducible first | exact HK.out | apply KeepBut.set_ | apply zao | apply zaq | apply keep_alloc) | exact HK.out)⟩, ⟨by repeat (first | (with_reducible first | exact HB.out | apply zad | apply zaa | apply zac | refine zae ?_ (zaf.ge HI0.out)) | exact HB.out)⟩⟩
   case rest =>
    clear HC45
    try clear c7
    try clear c10
    try clear c10b0
    try clear c10b1
    try clear c13
    try clear c13b0
    try clear c13b1
    try clear c21
    try clear c21b0
    try clear c21b1
    try clear c37
    try clear c37b0
    try clear c37b1
    obtain ⟨kq, x50_44, rfl, HA, HJ44, HI0, HK, HB⟩ := hcut
    cases kq with
    | zero => exact absurd HA.out (by simp [zaz.j1])
    | succ kj44 =>
     have H := HA.out; clear HA
     simp only [zaz.j1] at H
     by_cases c47 : x50_44 = true
     ·subst c47
      replace H : ((zaj.f s0_0 t177 t178 t179 3).bind fun bt228 => ((zaj.f s0_0 bt228.2.1 bt228.2.2.1 bt228.2.2.2 76).bind fun bt232 => (some (wrap64 ((wrap64 (512 + (wrap64 (256 * bt228.1)))) + bt232.1), bt232.2.1, bt232.2.2.1, bt232.2.2.2)))) = some (r1, r2, r3, r4) := by rw [if_pos rfl] at H; exact H
      replace H := Option.bind_eq_some_iff.mp H
      obtain ⟨⟨t228, t229, t230, t231⟩, A480, H⟩ := H
      replace H : ((zaj.f s0_0 t229 t230 t231 76).bind fun bt232 => (some (wrap64 ((wrap64 (512 + (wrap64 (256 * t228)))) + bt232.1), bt232.2.1, bt232.2.2.1, bt232.2.2.2))) = some (r1, r2, r3, r4) := H
      have A48 := zab.mk A480; clear A480; replace H := Option.bind_eq_some_iff.mp H
      obtain ⟨⟨t232, t233, t234, t235⟩, A490, H⟩ := H
      replace H : (some (wrap64 ((wrap64 (512 + (wrap64 (256 * t228)))) + t232), t233, t234, t235)) = some (r1, r2, r3, r4) := H
      have A49 := zab.mk A490; clear A490
      simp only [Option.some.injEq, Prod.mk.injEq] at H
      obtain ⟨rfl, rfl, rfl, rfl⟩ := H
      go_wp2_with (first | ((with_reducible refine zan (f := 19) rfl ?_); refine zaN (some 54) rfl rfl Tryd.func19 (by kernel_rfl) rfl #[.pointer (some ⟨g, 0, none⟩), .int .i64 3] rfl (by (try simp only [List.map_toArray, List.map_cons, List.map_nil]); first | done | rfl | (simp only [List.length_drop, List.length_take]; rfl)) ?_; (with_reducible refine (zaj.calls g s0_0 t177 t178 t179 3 t228 t229 t230 t231 w0 _ ?side1 ?side2 A48.out).mono ?_); (case side1 => exact HI0.out); (case side2 => exact HB.out); rintro e w50 ⟨rfl, hi, hb, hk⟩; refine ⟨_, rfl, ?_⟩; have n0_ := zab.mk (KeepBut.trans HK.out hk (.inl rfl)); have n1_ := zab.mk (hb); have n2_ := zab.mk (hi); clear HK HB HI0; have HK := n0_; have HB := n1_; have HI0 := n2_; clear n0_ n1_ n2_; (try clear hb); (try clear hb2); (try clear hk); (try clear hi)) | ((with_reducible refine zan (f := 19) rfl ?_); refine zaN (some 58) rfl rfl Tryd.func19 (by kernel_rfl) rfl #[.pointer (some ⟨g, 0, none⟩), .int .i64 76] rfl (by (try simp only [List.map_toArray, List.map_cons, List.map_nil]); first | done | rfl | (simp only [List.length_drop, List.length_take]; rfl)) ?_; (with_reducible refine (zaj.calls g s0_0 t229 t230 t231 76 t232 t233 t234 t235 w0 _ ?side1 ?side2 A49.out).mono ?_); (case side1 => exact HI0.out); (case side2 => exact HB.out); rintro e w51 ⟨rfl, hi, hb, hk⟩; refine ⟨_, rfl, ?_⟩; have n0_ := zab.mk (KeepBut.trans HK.out hk (.inl rfl)); have n1_ := zab.mk (hb); have n2_ := zab.mk (hi); clear HK HB HI0; have HK := n0_; have HB := n1_; have HI0 := n2_; clear n0_ n1_ n2_; (try clear hb); (try clear hb2); (try clear hk); (try clear hi)))
      go_ret
      exact ⟨by first | rfl | (simp [zar, zas] <;> rfl) | (simp [*, zar, zas] <;> rfl), by repeat (first | (with_reducible first | exact HI0.out | apply zaf.alloc | apply zaf.drewN | apply zaf.drew | apply zaf.zaX | apply zaf.zaW | apply zaf.zaY) | exact HI0.out), by repeat (first | (with_reducible first | exact HB.out | apply zad | apply zaa | apply zac | refine zae ?_ (zaf.ge HI0.out)) | exact HB.out), by repeat (first | (with_reducible first | exact HK.out | apply KeepBut.set_ | apply zao | apply zaq | apply keep_alloc) | exact HK.out)⟩
     replace c47 := Bool.eq_false_iff.mpr c47
     subst c47
     replace H : (if t176 = 9 then ((zaj.f s0_0 t177 t178 t179 3).bind fun bt236 => ((zaj.f s0_0 bt236.2.1 bt236.2.2.1 bt236.2.2.2 2).bind fun bt240 => (some (wrap64 ((wrap64 ((wrap64 (512 + (wrap64 (256 * bt236.1)))) + 96)) + bt240.1), bt240.2.1, bt240.2.2.1, bt240.2.2.2)))) else (if t176 = 10 then (zaz.j2 kj44 t176 (t176 == 10) s0_0 t177 t178 t179) else (zaz.j2 kj44 t176 (t176 == 11) s0_0 t177 t178 t179))) = some (r1, r2, r3, r4) := by rw [if_neg (show ¬ (false = true) by decide)] at H; exact H
     by_cases c52 : t176 = 9
     ·rw [if_pos c52] at H
      have c52b0 : (t176 == 9) = true := beq_iff_eq.mpr c52
      have c52b1 : (t176 != 9) = false := bne_eq_false_iff_eq.mpr c52
      clear c52; replace H := Option.bind_eq_some_iff.mp H
      obtain ⟨⟨t236, t237, t238, t239⟩, A530, H⟩ := H
      replace H : ((zaj.f s0_0 t237 t238 t239 2).bind fun bt240 => (some (wrap64 ((wrap64 ((wrap64 (512 + (wrap64 (256 * t236)))) + 96)) + bt240.1), bt240.2.1, bt240.2.2.1, bt240.2.2.2))) = some (r1, r2, r3, r4) := H
      have A53 := zab.mk A530; clear A530; replace H := Option.bind_eq_some_iff.mp H
      obtain ⟨⟨t240, t241, t242, t243⟩, A540, H⟩ := H
      replace H : (some (wrap64 ((wrap64 ((wrap64 (512 + (wrap64 (256 * t236)))) + 96)) + t240), t241, t242, t243)) = some (r1, r2, r3, r4) := H
      have A54 := zab.mk A540; clear A540
      simp only [Option.some.injEq, Prod.mk.injEq] at H
      obtain ⟨rfl, rfl, rfl, rfl⟩ := H
      go_wp2_with (first | ((with_reducible refine zan (f := 19) rfl ?_); refine zaN (some 63) rfl rfl Tryd.func19 (by kernel_rfl) rfl #[.pointer (some ⟨g, 0, none⟩), .int .i64 3] rfl (by (try simp only [List.map_toArray, List.map_cons, List.map_nil]); first | done | rfl | (simp only [List.length_drop, List.length_take]; rfl)) ?_; (with_reducible refine (zaj.calls g s0_0 t177 t178 t179 3 t236 t237 t238 t239 w0 _ ?side1 ?side2 A53.out).mono ?_); (case side1 => exact HI0.out); (case side2 => exact HB.out); rintro e w55 ⟨rfl, hi, hb, hk⟩; refine ⟨_, rfl, ?_⟩; have n0_ := zab.mk (KeepBut.trans HK.out hk (.inl rfl)); have n1_ := zab.mk (hb); have n2_ := zab.mk (hi); clear HK HB HI0; have HK := n0_; have HB := n1_; have HI0 := n2_; clear n0_ n1_ n2_; (try clear hb); (try clear hb2); (try clear hk); (try clear hi)) | ((with_reducible refine zan (f := 19) rfl ?_); refine zaN (some 68) rfl rfl Tryd.func19 (by kernel_rfl) rfl #[.pointer (some ⟨g, 0, none⟩), .int .i64 2] rfl (by (try simp only [List.map_toArray, List.map_cons, List.map_nil]); first | done | rfl | (simp only [List.length_drop, List.length_take]; rfl)) ?_; (with_reducible refine (zaj.calls g s0_0 t237 t238 t239 2 t240 t241 t242 t243 w0 _ ?side1 ?side2 A54.out).mono ?_); (case side1 => exact HI0.out); (case side2 => exact HB.out); rintro e w56 ⟨rfl, hi, hb, hk⟩; refine ⟨_, rfl, ?_⟩; have n0_ := zab.mk (KeepBut.trans HK.out hk (.inl rfl)); have n1_ := zab.mk (hb); have n2_ := zab.mk (hi); clear HK HB HI0; have HK := n0_; have HB := n1_; have HI0 := n2_; clear n0_ n1_ n2_; (try clear hb); (try clear hb2); (try clear hk); (try clear hi)))
      go_ret
      exact ⟨by first | rfl | (simp [zar, zas] <;> rfl) | (simp [*, zar, zas] <;> rfl), by repeat (first | (with_reducible first | exact HI0.out | apply zaf.alloc | apply zaf.drewN | apply zaf.drew | apply zaf.zaX | apply zaf.zaW | apply zaf.zaY) | exact HI0.out), by repeat (first | (with_reducible first | exact HB.out | apply zad | apply zaa | apply zac | refine zae ?_ (zaf.ge HI0.out)) | exact HB.out), by repeat (first | (with_reducible first | exact HK.out | apply KeepBut.set_ | apply zao | apply zaq | apply keep_alloc) | exact HK.out)⟩
     rw [if_neg c52] at H
     have c52b0 : (t176 == 9) = false := beq_eq_false_iff_ne.mpr c52
     have c52b1 : (t176 != 9) = true := bne_iff_ne.mpr c52
     have HC57 := zab.mk H; clear H
     go_upto_if 70 with (fail)
     go_cut [70] (fun v70 wc => ∃ (kq : Nat) (x70_56 : Bool), v70 = .bool x70_56 ∧ zab (zaz.j2 kq t176 x70_56 s0_0 t177 t178 t179 = some (r1, r2, r3, r4)) ∧ zab (kq ≤ kj44) ∧ zab (zaf w0 wc g s0_0 t177 t178 t179) ∧ zab (KeepBut w wc g none) ∧ zab (Below w0.heap.size w0 wc))
     case first => as_aux_lemma =>
      have H := HC57.out; clear HC57
      by_cases c58 : t176 = 10
      ·rw [if_pos c58] at H
       have c58b0 : (t176 == 10) = true := beq_iff_eq.mpr c58
       have c58b1 : (t176 != 10) = false := bne_eq_false_iff_eq.mpr c58
       clear c58
       (first | rw [c58b0] | rw [c58b1] | (simp only [zaR, zaS]; rw [c58b0]) | skip)
       have H' := zab.mk H; clear H
       go_wp2
       go_meet
       case rel => exact ⟨_, ((t176 == 10)), (by first | rfl | (simp; done) | (simp [*]; done)), H', ⟨by have := HJ2.out; have := HJ44.out; first | omega | exact Nat.le_refl _⟩, ⟨by repeat (first | (with_reducible first | exact HI0.out | apply zaf.alloc | apply zaf.drewN | apply zaf.drew | apply zaf.zaX | apply zaf.zaW | apply zaf.zaY) | exact HI0.out)⟩, ⟨by repeat (first | (with_reducible first | exact HK.out | apply KeepBut.set_ | apply zao | apply zaq | apply keep_alloc) | exact HK.out)⟩, ⟨by repeat (first | (with_reducible first | exact HB.out | apply zad | apply zaa | apply zac | refine zae ?_ (zaf.ge HI0.out)) | exact HB.out)⟩⟩
      rw [if_neg c58] at H
      have c58b0 : (t176 == 10) = false := beq_eq_false_iff_ne.mpr c58
      have c58b1 : (t176 != 10) = true := bne_iff_ne.mpr c58
      (first | rw [c58b0] | rw [c58b1] | (simp only [zaR, zaS]; rw [c58b0]) | skip)
      have H' := zab.mk H; clear H
      go_wp2
      go_meet
      case rel => exact ⟨_, ((t176 == 11)), rfl, H', ⟨by have := HJ2.out; have := HJ44.out; first | omega | exact Nat.le_refl _⟩, ⟨by repeat (first | (with_reducible first | exact HI0.out | apply zaf.alloc | apply zaf.drewN | apply zaf.drew | apply zaf.zaX | apply zaf.zaW | apply zaf.zaY) | exact HI0.out)⟩, ⟨by repeat (first | (with_reducible first | exact HK.out | apply KeepBut.set_ | apply zao | apply zaq | apply keep_alloc) | exact HK.out)⟩, ⟨by repeat (first | (with_reducible first | exact HB.out | apply zad | apply zaa | apply zac | refine zae ?_ (zaf.ge HI0.out)) | exact HB.out)⟩⟩
     case rest =>
      clear HC57
      try clear c7
      try clear c10
      try clear c10b0
      try clear c10b1
      try clear c13
      try clear c13b0
      try clear c13b1
      try clear c21
      try clear c21b0
      try clear c21b1
      try clear c37
      try clear c37b0
      try clear c37b1
      try clear c47
      try clear c52
      try clear c52b0
      try clear c52b1
      obtain ⟨kq, x70_56, rfl, HA, HJ56, HI0, HK, HB⟩ := hcut
      cases kq with
      | zero => exact absurd HA.out (by simp [zaz.j2])
      | succ kj56 =>
       have H := HA.out; clear HA
       simp only [zaz.j2] at H
       by_cases c59 : x70_56 = true
       ·subst c59
        replace H : ((zaj.f s0_0 t177 t178 t179 32).bind fun bt244 => (some (wrap64 (1280 + bt244.1), bt244.2.1, bt244.2.2.1, bt244.2.2.2))) = some (r1, r2, r3, r4) := by rw [if_pos rfl] at H; exact H
        replace H := Option.bind_eq_some_iff.mp H
        obtain ⟨⟨t244, t245, t246, t247⟩, A600, H⟩ := H
        replace H : (some (wrap64 (1280 + t244), t245, t246, t247)) = some (r1, r2, r3, r4) := H
        have A60 := zab.mk A600; clear A600
        simp only [Option.some.injEq, Prod.mk.injEq] at H
        obtain ⟨rfl, rfl, rfl, rfl⟩ := H
        go_wp2_with (first | ((with_reducible refine zan (f := 19) rfl ?_); refine zaN (some 74) rfl rfl Tryd.func19 (by kernel_rfl) rfl #[.pointer (some ⟨g, 0, none⟩), .int .i64 32] rfl (by (try simp only [List.map_toArray, List.map_cons, List.map_nil]); first | done | rfl | (simp only [List.length_drop, List.length_take]; rfl)) ?_; (with_reducible refine (zaj.calls g s0_0 t177 t178 t179 32 t244 t245 t246 t247 w0 _ ?side1 ?side2 A60.out).mono ?_); (case side1 => exact HI0.out); (case side2 => exact HB.out); rintro e w61 ⟨rfl, hi, hb, hk⟩; refine ⟨_, rfl, ?_⟩; have n0_ := zab.mk (KeepBut.trans HK.out hk (.inl rfl)); have n1_ := zab.mk (hb); have n2_ := zab.mk (hi); clear HK HB HI0; have HK := n0_; have HB := n1_; have HI0 := n2_; clear n0_ n1_ n2_; (try clear hb); (try clear hb2); (try clear hk); (try clear hi)))
        go_ret
        exact ⟨by first | rfl | (simp [zar, zas] <;> rfl) | (simp [*, zar, zas] <;> rfl), by repeat (first | (with_reducible first | exact HI0.out | apply zaf.alloc | apply zaf.drewN | apply zaf.drew | apply zaf.zaX | apply zaf.zaW | apply zaf.zaY) | exact HI0.out), by repeat (first | (with_reducible first | exact HB.out | apply zad | apply zaa | apply zac | refine zae ?_ (zaf.ge HI0.out)) | exact HB.out), by repeat (first | (with_reducible first | exact HK.out | apply KeepBut.set_ | apply zao | apply zaq | apply keep_alloc) | exact HK.out)⟩
       replace c59 := Bool.eq_false_iff.mpr c59
       subst c59
       replace H : (if t176 = 12 then ((zaj.f s0_0 t177 t178 t179 32).bind fun bt248 => ((zaj.f s0_0 bt248.2.1 bt248.2.2.1 bt248.2.2.2 12).bind fun bt252 => ((some (([wrap64 (1536 + bt248.1), wrap64 (1568 + bt252.1), 1584, 1585] : List Int) : List Int)).bind fun y256 => ((zaj.f s0_0 bt252.2.1 bt252.2.2.1 bt252.2.2.2 4).bind fun bt259 => (if 0 ≤ bt259.1 then (if bt259.1 < (y256.length : Int) then (some (rd y256 bt259.1, bt259.2.1, bt259.2.2.1, bt259.2.2.2)) else (none)) else (none)))))) else (if t176 = 13 then ((zaj.f s0_0 t177 t178 t179 19).bind fun bt264 => ((zaj.f s0_0 bt264.2.1 bt264.2.2.1 bt264.2.2.2 21).bind fun bt268 => ((zaj.f s0_0 bt268.2.1 bt268.2.2.1 bt268.2.2.2 27).bind fun bt272 => ((some (([wrap64 (1792 + bt264.1), wrap64 (1824 + bt268.1), wrap64 (1857 + bt272.1)] : List Int) : List Int)).bind fun y276 => ((zaj.f s0_0 bt272.2.1 bt272.2.2.1 bt272.2.2.2 3).bind fun bt279 => (if 0 ≤ bt279.1 then (if bt279.1 < (y276.length : Int) then (some (rd y276 bt279.1, bt279.2.1, bt279.2.2.1, bt279.2.2.2)) else (none)) else (none))))))) else (if t176 = 14 then ((zaj.f s0_0 t177 t178 t179 48).bind fun bt284 => (some (wrap64 (2048 + bt284.1), bt284.2.1, bt284.2.2.1, bt284.2.2.2))) else (if t176 = 15 then (zaz.j3 kj56 t176 (t176 == 15) s0_0 t177 t178 t179) else (zaz.j3 kj56 t176 (t176 == 16) s0_0 t177 t178 t179))))) = some (r1, r2, r3, r4) := by rw [if_neg (show ¬ (false = true) by decide)] at H; exact H
       by_cases c62 : t176 = 12
       ·rw [if_pos c62] at H
        have c62b0 : (t176 == 12) = true := beq_iff_eq.mpr c62
        have c62b1 : (t176 != 12) = false := bne_eq_false_iff_eq.mpr c62
        clear c62; replace H := Option.bind_eq_some_iff.mp H
        obtain ⟨⟨t248, t249, t250, t251⟩, A630, H⟩ := H
        replace H : ((zaj.f s0_0 t249 t250 t251 12).bind fun bt252 => ((some (([wrap64 (1536 + t248), wrap64 (1568 + bt252.1), 1584, 1585] : List Int) : List Int)).bind fun y256 => ((zaj.f s0_0 bt252.2.1 bt252.2.2.1 bt252.2.2.2 4).bind fun bt259 => (if 0 ≤ bt259.1 then (if bt259.1 < (y256.length : Int) then (some (rd y256 bt259.1, bt259.2.1, bt259.2.2.1, bt259.2.2.2)) else (none)) else (none))))) = some (r1, r2, r3, r4) := H
        have A63 := zab.mk A630; clear A630; replace H := Option.bind_eq_some_iff.mp H
        obtain ⟨⟨t252, t253, t254, t255⟩, A640, H⟩ := H
        replace H : ((some (([wrap64 (1536 + t248), wrap64 (1568 + t252), 1584, 1585] : List Int) : List Int)).bind fun y256 => ((zaj.f s0_0 t253 t254 t255 4).bind fun bt259 => (if 0 ≤ bt259.1 then (if bt259.1 < (y256.length : Int) then (some (rd y256 bt259.1, bt259.2.1, bt259.2.2.1, bt259.2.2.2)) else (none)) else (none)))) = some (r1, r2, r3, r4) := H
        have A64 := zab.mk A640; clear A640
        obtain ⟨y256, hy256⟩ : ∃ y_ : List Int, y_ = (([wrap64 (1536 + t248), wrap64 (1568 + t252), 1584, 1585] : List Int)) := ⟨_, rfl⟩
        replace H : ((zaj.f s0_0 t253 t254 t255 4).bind fun bt259 => (if 0 ≤ bt259.1 then (if bt259.1 < (y256.length : Int) then (some (rd y256 bt259.1, bt259.2.1, bt259.2.2.1, bt259.2.2.2)) else (none)) else (none))) = some (r1, r2, r3, r4) := by first | (rw [hy256]; with_reducible exact H) | (have H2_ := (Option.bind_some _ _).symm.trans H; rw [hy256]; with_reducible exact H2_) | (have H2_ := (Option.bind_some _ _).symm.trans H; with_reducible exact H2_) | with_reducible exact H | (rw [hy256]; exact H) | exact H
        have Ny256 := zab.mk hy256; clear hy256; replace H := Option.bind_eq_some_iff.mp H
        obtain ⟨⟨t259, t260, t261, t262⟩, A650, H⟩ := H
        replace H : (if 0 ≤ t259 then (if t259 < (y256.length : Int) then (some (rd y256 t259, t260, t261, t262)) else (none)) else (none)) = some (r1, r2, r3, r4) := H
        have A65 := zab.mk A650; clear A650
        by_cases c66 : 0 ≤ t259
        ·rw [if_pos c66] at H
         have c66b0 : decide (0 ≤ t259) = true := decide_eq_true c66
         clear c66
         by_cases c67 : t259 < (y256.length : Int)
         ·rw [if_pos c67] at H
          have c67b0 : decide (t259 < (y256.length : Int)) = true := decide_eq_true c67
          clear c67
          simp only [Option.some.injEq, Prod.mk.injEq] at H
          obtain ⟨rfl, rfl, rfl, rfl⟩ := H
          go_wp2_with (first | ((with_reducible refine zan (f := 19) rfl ?_); refine zaN (some 79) rfl rfl Tryd.func19 (by kernel_rfl) rfl #[.pointer (some ⟨g, 0, none⟩), .int .i64 32] rfl (by (try simp only [List.map_toArray, List.map_cons, List.map_nil]); first | done | rfl | (simp only [List.length_drop, List.length_take]; rfl)) ?_; (with_reducible refine (zaj.calls g s0_0 t177 t178 t179 32 t248 t249 t250 t251 w0 _ ?side1 ?side2 A63.out).mono ?_); (case side1 => exact HI0.out); (case side2 => exact HB.out); rintro e w68 ⟨rfl, hi, hb, hk⟩; refine ⟨_, rfl, ?_⟩; have n0_ := zab.mk (KeepBut.trans HK.out hk (.inl rfl)); have n1_ := zab.mk (hb); have n2_ := zab.mk (hi); clear HK HB HI0; have HK := n0_; have HB := n1_; have HI0 := n2_; clear n0_ n1_ n2_; (try clear hb); (try clear hb2); (try clear hk); (try clear hi)) | ((with_reducible refine zan (f := 19) rfl ?_); refine zaN (some 82) rfl rfl Tryd.func19 (by kernel_rfl) rfl #[.pointer (some ⟨g, 0, none⟩), .int .i64 12] rfl (by (try simp only [List.map_toArray, List.map_cons, List.map_nil]); first | done | rfl | (simp only [List.length_drop, List.length_take]; rfl)) ?_; (with_reducible refine (zaj.calls g s0_0 t249 t250 t251 12 t252 t253 t254 t255 w0 _ ?side1 ?side2 A64.out).mono ?_); (case side1 => exact HI0.out); (case side2 => exact HB.out); rintro e w69 ⟨rfl, hi, hb, hk⟩; refine ⟨_, rfl, ?_⟩; have n0_ := zab.mk (KeepBut.trans HK.out hk (.inl rfl)); have n1_ := zab.mk (hb); have n2_ := zab.mk (hi); clear HK HB HI0; have HK := n0_; have HB := n1_; have HI0 := n2_; clear n0_ n1_ n2_; (try clear hb); (try clear hb2); (try clear hk); (try clear hi)) | ((with_reducible refine zbb (N := 84) rfl ?_); refine Kd.R_lit (Kd.int .i64) _ 2 ?hg (N := 84) ?hd (xs := ([wrap64 (1536 + t248), wrap64 (1568 + t252), 1584, 1585] : List Int)) (inner := [.int .i64 (wrap64 (1536 + t248)), .int .i64 (wrap64 (1568 + t252)), .int .i64 1584, .int .i64 1585]) (ok := fun _ => True) (okp := fun _ => True) ?hr ?hp (fun _ hk => hk) trivial (Below.refl _ _) (Nat.le_refl _) (by simp) ?_; (case hd => rfl); (case hg => rfl); (case hr => first | (go_simp; done) | (go_simp; rfl)); (case hp => exact (Reps.one (show Kd.M (Kd.int .i64) _ _ _ (wrap64 (1536 + t248)) [.int .i64 (wrap64 (1536 + t248))] from rfl) (Reps.one (show Kd.M (Kd.int .i64) _ _ _ (wrap64 (1568 + t252)) [.int .i64 (wrap64 (1568 + t252))] from rfl) (Reps.one (show Kd.M (Kd.int .i64) _ _ _ 1584 [.int .i64 1584] from rfl) (Reps.one (show Kd.M (Kd.int .i64) _ _ _ 1585 [.int .i64 1585] from rfl) (Reps.none _ _)))))); intro v257 w70 ho71 hb hg_ hnew_; clear hg_ hnew_; (first | rw [← Ny256.out] at ho71 | (simp only [Int.reduceToNat] at ho71; rw [← Ny256.out] at ho71)); have n0_ := zab.mk (Kd.zbm ho71 (zbB (w := w) (g := g) (row := none) HK.out)); have n1_ := zab.mk (zaf.below HI0.out hb); have n2_ := zab.mk (KeepBut.trans HK.out (KeepBut.of_below hb g none) (.inl rfl)); have n3_ := zab.mk (zau HB.out hb); clear HI0 HK HB; have HO258 := n0_; have HI0 := n1_; have HK := n2_; have HB := n3_; clear n0_ n1_ n2_ n3_ hb ho71) | ((with_reducible refine zan (f := 19) rfl ?_); refine zaN (some 86) rfl rfl Tryd.func19 (by kernel_rfl) rfl #[.pointer (some ⟨g, 0, none⟩), .int .i64 4] rfl (by (try simp only [List.map_toArray, List.map_cons, List.map_nil]); first | done | rfl | (simp only [List.length_drop, List.length_take]; rfl)) ?_; (with_reducible refine (zaj.calls g s0_0 t253 t254 t255 4 t259 t260 t261 t262 w0 _ ?side1 ?side2 A65.out).mono ?_); (case side1 => exact HI0.out); (case side2 => exact HB.out); rintro e w72 ⟨rfl, hi, hb, hk⟩; refine ⟨_, rfl, ?_⟩; have n0_ := zab.mk (Kd.za7 (Kd.R_keep (zaf.apart (show zaf w0 _ g s0_0 t253 t254 t255 from by repeat (first | (with_reducible first | exact HI0.out | apply zaf.alloc | apply zaf.drewN | apply zaf.drew | apply zaf.zaX | apply zaf.zaW | apply zaf.zaY) | exact HI0.out)) HO258.out (by decide)) hk (fun _ h => h.2)) (fun _ h => h.1)); have n1_ := zab.mk (KeepBut.trans HK.out hk (.inl rfl)); have n2_ := zab.mk (hb); have n3_ := zab.mk (hi); clear HO258 HK HB HI0; have HO258 := n0_; have HK := n1_; have HB := n2_; have HI0 := n3_; clear n0_ n1_ n2_ n3_; (try clear hb); (try clear hb2); (try clear hk); (try clear hi); obtain ⟨Ao73, co73, eo73⟩ := Kd.zbr HO258.out; subst eo73; have p263 : 0 ≤ (t259 : Int) := of_decide_eq_true (by first | (with_reducible assumption) | assumption); have q263 : t259 < (y256.length : Int) := of_decide_eq_true (by first | (with_reducible assumption) | assumption); obtain ⟨ad263, e263, hx263_0⟩ := Kd.at_int (Kd.zbl HO258.out).2.2 t259 p263 q263; cases e263; replace p263 := eq_true p263; replace q263 := eq_true q263))
          go_ret
          exact ⟨by first | rfl | (simp [zar, zas] <;> rfl) | (simp [*, zar, zas] <;> rfl), by repeat (first | (with_reducible first | exact HI0.out | apply zaf.alloc | apply zaf.drewN | apply zaf.drew | apply zaf.zaX | apply zaf.zaW | apply zaf.zaY) | exact HI0.out), by repeat (first | (with_reducible first | exact HB.out | apply zad | apply zaa | apply zac | refine zae ?_ (zaf.ge HI0.out)) | exact HB.out), by repeat (first | (with_reducible first | exact HK.out | apply KeepBut.set_ | apply zao | apply zaq | apply keep_alloc) | exact HK.out)⟩
         rw [if_neg c67] at H
         exact absurd H (by simp)
        rw [if_neg c66] at H
        exact absurd H (by simp)
       rw [if_neg c62] at H
       have c62b0 : (t176 == 12) = false := beq_eq_false_iff_ne.mpr c62
       have c62b1 : (t176 != 12) = true := bne_iff_ne.mpr c62
       by_cases c74 : t176 = 13
       ·rw [if_pos c74] at H
        have c74b0 : (t176 == 13) = true := beq_iff_eq.mpr c74
        have c74b1 : (t176 != 13) = false := bne_eq_false_iff_eq.mpr c74
        clear c74; replace H := Option.bind_eq_some_iff.mp H
        obtain ⟨⟨t264, t265, t266, t267⟩, A750, H⟩ := H
        replace H : ((zaj.f s0_0 t265 t266 t267 21).bind fun bt268 => ((zaj.f s0_0 bt268.2.1 bt268.2.2.1 bt268.2.2.2 27).bind fun bt272 => ((some (([wrap64 (1792 + t264), wrap64 (1824 + bt268.1), wrap64 (1857 + bt272.1)] : List Int) : List Int)).bind fun y276 => ((zaj.f s0_0 bt272.2.1 bt272.2.2.1 bt272.2.2.2 3).bind fun bt279 => (if 0 ≤ bt279.1 then (if bt279.1 < (y276.length : Int) then (some (rd y276 bt279.1, bt279.2.1, bt279.2.2.1, bt279.2.2.2)) else (none)) else (none)))))) = some (r1, r2, r3, r4) := H
        have A75 := zab.mk A750; clear A750; replace H := Option.bind_eq_some_iff.mp H
        obtain ⟨⟨t268, t269, t270, t271⟩, A760, H⟩ := H
        replace H : ((zaj.f s0_0 t269 t270 t271 27).bind fun bt272 => ((some (([wrap64 (1792 + t264), wrap64 (1824 + t268), wrap64 (1857 + bt272.1)] : List Int) : List Int)).bind fun y276 => ((zaj.f s0_0 bt272.2.1 bt272.2.2.1 bt272.2.2.2 3).bind fun bt279 => (if 0 ≤ bt279.1 then (if bt279.1 < (y276.length : Int) then (some (rd y276 bt279.1, bt279.2.1, bt279.2.2.1, bt279.2.2.2)) else (none)) else (none))))) = some (r1, r2, r3, r4) := H
        have A76 := zab.mk A760; clear A760; replace H := Option.bind_eq_some_iff.mp H
        obtain ⟨⟨t272, t273, t274, t275⟩, A770, H⟩ := H
        replace H : ((some (([wrap64 (1792 + t264), wrap64 (1824 + t268), wrap64 (1857 + t272)] : List Int) : List Int)).bind fun y276 => ((zaj.f s0_0 t273 t274 t275 3).bind fun bt279 => (if 0 ≤ bt279.1 then (if bt279.1 < (y276.length : Int) then (some (rd y276 bt279.1, bt279.2.1, bt279.2.2.1, bt279.2.2.2)) else (none)) else (none)))) = some (r1, r2, r3, r4) := H
        have A77 := zab.mk A770; clear A770
        obtain ⟨y276, hy276⟩ : ∃ y_ : List Int, y_ = (([wrap64 (1792 + t264), wrap64 (1824 + t268), wrap64 (1857 + t272)] : List Int)) := ⟨_, rfl⟩
        replace H : ((zaj.f s0_0 t273 t274 t275 3).bind fun bt279 => (if 0 ≤ bt279.1 then (if bt279.1 < (y276.length : Int) then (some (rd y276 bt279.1, bt279.2.1, bt279.2.2.1, bt279.2.2.2)) else (none)) else (none))) = some (r1, r2, r3, r4) := by first | (rw [hy276]; with_reducible exact H) | (have H2_ := (Option.bind_some _ _).symm.trans H; rw [hy276]; with_reducible exact H2_) | (have H2_ := (Option.bind_some _ _).symm.trans H; with_reducible exact H2_) | with_reducible exact H | (rw [hy276]; exact H) | exact H
        have Ny276 := zab.mk hy276; clear hy276; replace H := Option.bind_eq_some_iff.mp H
        obtain ⟨⟨t279, t280, t281, t282⟩, A780, H⟩ := H
        replace H : (if 0 ≤ t279 then (if t279 < (y276.length : Int) then (some (rd y276 t279, t280, t281, t282)) else (none)) else (none)) = some (r1, r2, r3, r4) := H
        have A78 := zab.mk A780; clear A780
        by_cases c79 : 0 ≤ t279
        ·rw [if_pos c79] at H
         have c79b0 : decide (0 ≤ t279) = true := decide_eq_true c79
         clear c79
         by_cases c80 : t279 < (y276.length : Int)
         ·rw [if_pos c80] at H
          have c80b0 : decide (t279 < (y276.length : Int)) = true := decide_eq_true c80
          clear c80
          simp only [Option.some.injEq, Prod.mk.injEq] at H
          obtain ⟨rfl, rfl, rfl, rfl⟩ := H
          go_wp2_with (first | ((with_reducible refine zan (f := 19) rfl ?_); refine zaN (some 92) rfl rfl Tryd.func19 (by kernel_rfl) rfl #[.pointer (some ⟨g, 0, none⟩), .int .i64 19] rfl (by (try simp only [List.map_toArray, List.map_cons, List.map_nil]); first | done | rfl | (simp only [List.length_drop, List.length_take]; rfl)) ?_; (with_reducible refine (zaj.calls g s0_0 t177 t178 t179 19 t264 t265 t266 t267 w0 _ ?side1 ?side2 A75.out).mono ?_); (case side1 => exact HI0.out); (case side2 => exact HB.out); rintro e w81 ⟨rfl, hi, hb, hk⟩; refine ⟨_, rfl, ?_⟩; have n0_ := zab.mk (KeepBut.trans HK.out hk (.inl rfl)); have n1_ := zab.mk (hb); have n2_ := zab.mk (hi); clear HK HB HI0; have HK := n0_; have HB := n1_; have HI0 := n2_; clear n0_ n1_ n2_; (try clear hb); (try clear hb2); (try clear hk); (try clear hi)) | ((with_reducible refine zan (f := 19) rfl ?_); refine zaN (some 95) rfl rfl Tryd.func19 (by kernel_rfl) rfl #[.pointer (some ⟨g, 0, none⟩), .int .i64 21] rfl (by (try simp only [List.map_toArray, List.map_cons, List.map_nil]); first | done | rfl | (simp only [List.length_drop, List.length_take]; rfl)) ?_; (with_reducible refine (zaj.calls g s0_0 t265 t266 t267 21 t268 t269 t270 t271 w0 _ ?side1 ?side2 A76.out).mono ?_); (case side1 => exact HI0.out); (case side2 => exact HB.out); rintro e w82 ⟨rfl, hi, hb, hk⟩; refine ⟨_, rfl, ?_⟩; have n0_ := zab.mk (KeepBut.trans HK.out hk (.inl rfl)); have n1_ := zab.mk (hb); have n2_ := zab.mk (hi); clear HK HB HI0; have HK := n0_; have HB := n1_; have HI0 := n2_; clear n0_ n1_ n2_; (try clear hb); (try clear hb2); (try clear hk); (try clear hi)) | ((with_reducible refine zan (f := 19) rfl ?_); refine zaN (some 98) rfl rfl Tryd.func19 (by kernel_rfl) rfl #[.pointer (some ⟨g, 0, none⟩), .int .i64 27] rfl (by (try simp only [List.map_toArray, List.map_cons, List.map_nil]); first | done | rfl | (simp only [List.length_drop, List.length_take]; rfl)) ?_; (with_reducible refine (zaj.calls g s0_0 t269 t270 t271 27 t272 t273 t274 t275 w0 _ ?side1 ?side2 A77.out).mono ?_); (case side1 => exact HI0.out); (case side2 => exact HB.out); rintro e w83 ⟨rfl, hi, hb, hk⟩; refine ⟨_, rfl, ?_⟩; have n0_ := zab.mk (KeepBut.trans HK.out hk (.inl rfl)); have n1_ := zab.mk (hb); have n2_ := zab.mk (hi); clear HK HB HI0; have HK := n0_; have HB := n1_; have HI0 := n2_; clear n0_ n1_ n2_; (try clear hb); (try clear hb2); (try clear hk); (try clear hi)) | ((with_reducible refine zbb (N := 100) rfl ?_); refine Kd.R_lit (Kd.int .i64) _ 2 ?hg (N := 100) ?hd (xs := ([wrap64 (1792 + t264), wrap64 (1824 + t268), wrap64 (1857 + t272)] : List Int)) (inner := [.int .i64 (wrap64 (1792 + t264)), .int .i64 (wrap64 (1824 + t268)), .int .i64 (wrap64 (1857 + t272))]) (ok := fun _ => True) (okp := fun _ => True) ?hr ?hp (fun _ hk => hk) trivial (Below.refl _ _) (Nat.le_refl _) (by simp) ?_; (case hd => rfl); (case hg => rfl); (case hr => first | (go_simp; done) | (go_simp; rfl)); (case hp => exact (Reps.one (show Kd.M (Kd.int .i64) _ _ _ (wrap64 (1792 + t264)) [.int .i64 (wrap64 (1792 + t264))] from rfl) (Reps.one (show Kd.M (Kd.int .i64) _ _ _ (wrap64 (1824 + t268)) [.int .i64 (wrap64 (1824 + t268))] from rfl) (Reps.one (show Kd.M (Kd.int .i64) _ _ _ (wrap64 (1857 + t272)) [.int .i64 (wrap64 (1857 + t272))] from rfl) (Reps.none _ _))))); intro v277 w84 ho85 hb hg_ hnew_; clear hg_ hnew_; (first | rw [← Ny276.out] at ho85 | (simp only [Int.reduceToNat] at ho85; rw [← Ny276.out] at ho85)); have n0_ := zab.mk (Kd.zbm ho85 (zbB (w := w) (g := g) (row := none) HK.out)); have n1_ := zab.mk (zaf.below HI0.out hb); have n2_ := zab.mk (KeepBut.trans HK.out (KeepBut.of_below hb g none) (.inl rfl)); have n3_ := zab.mk (zau HB.out hb); clear HI0 HK HB; have HO278 := n0_; have HI0 := n1_; have HK := n2_; have HB := n3_; clear n0_ n1_ n2_ n3_ hb ho85) | ((with_reducible refine zan (f := 19) rfl ?_); refine zaN (some 102) rfl rfl Tryd.func19 (by kernel_rfl) rfl #[.pointer (some ⟨g, 0, none⟩), .int .i64 3] rfl (by (try simp only [List.map_toArray, List.map_cons, List.map_nil]); first | done | rfl | (simp only [List.length_drop, List.length_take]; rfl)) ?_; (with_reducible refine (zaj.calls g s0_0 t273 t274 t275 3 t279 t280 t281 t282 w0 _ ?side1 ?side2 A78.out).mono ?_); (case side1 => exact HI0.out); (case side2 => exact HB.out); rintro e w86 ⟨rfl, hi, hb, hk⟩; refine ⟨_, rfl, ?_⟩; have n0_ := zab.mk (Kd.za7 (Kd.R_keep (zaf.apart (show zaf w0 _ g s0_0 t273 t274 t275 from by repeat (first | (with_reducible first | exact HI0.out | apply zaf.alloc | apply zaf.drewN | apply zaf.drew | apply zaf.zaX | apply zaf.zaW | apply zaf.zaY) | exact HI0.out)) HO278.out (by decide)) hk (fun _ h => h.2)) (fun _ h => h.1)); have n1_ := zab.mk (KeepBut.trans HK.out hk (.inl rfl)); have n2_ := zab.mk (hb); have n3_ := zab.mk (hi); clear HO278 HK HB HI0; have HO278 := n0_; have HK := n1_; have HB := n2_; have HI0 := n3_; clear n0_ n1_ n2_ n3_; (try clear hb); (try clear hb2); (try clear hk); (try clear hi); obtain ⟨Ao87, co87, eo87⟩ := Kd.zbr HO278.out; subst eo87; have p283 : 0 ≤ (t279 : Int) := of_decide_eq_true (by first | (with_reducible assumption) | assumption); have q283 : t279 < (y276.length : Int) := of_decide_eq_true (by first | (with_reducible assumption) | assumption); obtain ⟨ad283, e283, hx283_0⟩ := Kd.at_int (Kd.zbl HO278.out).2.2 t279 p283 q283; cases e283; replace p283 := eq_true p283; replace q283 := eq_true q283))
          go_ret
          exact ⟨by first | rfl | (simp [zar, zas] <;> rfl) | (simp [*, zar, zas] <;> rfl), by repeat (first | (with_reducible first | exact HI0.out | apply zaf.alloc | apply zaf.drewN | apply zaf.drew | apply zaf.zaX | apply zaf.zaW | apply zaf.zaY) | exact HI0.out), by repeat (first | (with_reducible first | exact HB.out | apply zad | apply zaa | apply zac | refine zae ?_ (zaf.ge HI0.out)) | exact HB.out), by repeat (first | (with_reducible first | exact HK.out | apply KeepBut.set_ | apply zao | apply zaq | apply keep_alloc) | exact HK.out)⟩
         rw [if_neg c80] at H
         exact absurd H (by simp)
        rw [if_neg c79] at H
        exact absurd H (by simp)
       rw [if_neg c74] at H
       have c74b0 : (t176 == 13) = false := beq_eq_false_iff_ne.mpr c74
       have c74b1 : (t176 != 13) = true := bne_iff_ne.mpr c74
       by_cases c88 : t176 = 14
       ·rw [if_pos c88] at H
        have c88b0 : (t176 == 14) = true := beq_iff_eq.mpr c88
        have c88b1 : (t176 != 14) = false := bne_eq_false_iff_eq.mpr c88
        clear c88; replace H := Option.bind_eq_some_iff.mp H
        obtain ⟨⟨t284, t285, t286, t287⟩, A890, H⟩ := H
        replace H : (some (wrap64 (2048 + t284), t285, t286, t287)) = some (r1, r2, r3, r4) := H
        have A89 := zab.mk A890; clear A890
        simp only [Option.some.injEq, Prod.mk.injEq] at H
        obtain ⟨rfl, rfl, rfl, rfl⟩ := H
        go_wp2_with (first | ((with_reducible refine zan (f := 19) rfl ?_); refine zaN (some 108) rfl rfl Tryd.func19 (by kernel_rfl) rfl #[.pointer (some ⟨g, 0, none⟩), .int .i64 48] rfl (by (try simp only [List.map_toArray, List.map_cons, List.map_nil]); first | done | rfl | (simp only [List.length_drop, List.length_take]; rfl)) ?_; (with_reducible refine (zaj.calls g s0_0 t177 t178 t179 48 t284 t285 t286 t287 w0 _ ?side1 ?side2 A89.out).mono ?_); (case side1 => exact HI0.out); (case side2 => exact HB.out); rintro e w90 ⟨rfl, hi, hb, hk⟩; refine ⟨_, rfl, ?_⟩; have n0_ := zab.mk (KeepBut.trans HK.out hk (.inl rfl)); have n1_ := zab.mk (hb); have n2_ := zab.mk (hi); clear HK HB HI0; have HK := n0_; have HB := n1_; have HI0 := n2_; clear n0_ n1_ n2_; (try clear hb); (try clear hb2); (try clear hk); (try clear hi)))
        go_ret
        exact ⟨by first | rfl | (simp [zar, zas] <;> rfl) | (simp [*, zar, zas] <;> rfl), by repeat (first | (with_reducible first | exact HI0.out | apply zaf.alloc | apply zaf.drewN | apply zaf.drew | apply zaf.zaX | apply zaf.zaW | apply zaf.zaY) | exact HI0.out), by repeat (first | (with_reducible first | exact HB.out | apply zad | apply zaa | apply zac | refine zae ?_ (zaf.ge HI0.out)) | exact HB.out), by repeat (first | (with_reducible first | exact HK.out | apply KeepBut.set_ | apply zao | apply zaq | apply keep_alloc) | exact HK.out)⟩
       rw [if_neg c88] at H
       have c88b0 : (t176 == 14) = false := beq_eq_false_iff_ne.mpr c88
       have c88b1 : (t176 != 14) = true := bne_iff_ne.mpr c88
       have HC91 := zab.mk H; clear H
       go_upto_if 110 with (fail)
       go_cut [110] (fun v110 wc => ∃ (kq : Nat) (x110_90 : Bool), v110 = .bool x110_90 ∧ zab (zaz.j3 kq t176 x110_90 s0_0 t177 t178 t179 = some (r1, r2, r3, r4)) ∧ zab (kq ≤ kj56) ∧ zab (zaf w0 wc g s0_0 t177 t178 t179) ∧ zab (KeepBut w wc g none) ∧ zab (Below w0.heap.size w0 wc))
       case first => as_aux_lemma =>
        have H := HC91.out; clear HC91
        by_cases c92 : t176 = 15
        ·rw [if_pos c92] at H
         have c92b0 : (t176 == 15) = true := beq_iff_eq.mpr c92
         have c92b1 : (t176 != 15) = false := bne_eq_false_iff_eq.mpr c92
         clear c92
         (first | rw [c92b0] | rw [c92b1] | (simp only [zaR, zaS]; rw [c92b0]) | skip)
         have H' := zab.mk H; clear H
         go_wp2
         go_meet
         case rel => exact ⟨_, ((t176 == 15)), (by first | rfl | (simp; done) | (simp [*]; done)), H', ⟨by have := HJ2.out; have := HJ44.out; have := HJ56.out; first | omega | exact Nat.le_refl _⟩, ⟨by repeat (first | (with_reducible first | exact HI0.out | apply zaf.alloc | apply zaf.drewN | apply zaf.drew | apply zaf.zaX | apply zaf.zaW | apply zaf.zaY) | exact HI0.out)⟩, ⟨by repeat (first | (with_reducible first | exact HK.out | apply KeepBut.set_ | apply zao | apply zaq | apply keep_alloc) | exact HK.out)⟩, ⟨by repeat (first | (with_reducible first | exact HB.out | apply zad | apply zaa | apply zac | refine zae ?_ (zaf.ge HI0.out)) | exact HB.out)⟩⟩
        rw [if_neg c92] at H
        have c92b0 : (t176 == 15) = false := beq_eq_false_iff_ne.mpr c92
        have c92b1 : (t176 != 15) = true := bne_iff_ne.mpr c92
        (first | rw [c92b0] | rw [c92b1] | (simp only [zaR, zaS]; rw [c92b0]) | skip)
        have H' := zab.mk H; clear H
        go_wp2
        go_meet
        case rel => exact ⟨_, ((t176 == 16)), rfl, H', ⟨by have := HJ2.out; have := HJ44.out; have := HJ56.out; first | omega | exact Nat.le_refl _⟩, ⟨by repeat (first | (with_reducible first | exact HI0.out | apply zaf.alloc | apply zaf.drewN | apply zaf.drew | apply zaf.zaX | apply zaf.zaW | apply zaf.zaY) | exact HI0.out)⟩, ⟨by repeat (first | (with_reducible first | exact HK.out | apply KeepBut.set_ | apply zao | apply zaq | apply keep_alloc) | exact HK.out)⟩, ⟨by repeat (first | (with_reducible first | exact HB.out | apply zad | apply zaa | apply zac | refine zae ?_ (zaf.ge HI0.out)) | exact HB.out)⟩⟩
       case rest =>
        clear HC91
        try clear c7
        try clear c10
        try clear c10b0
        try clear c10b1
        try clear c13
        try clear c13b0
        try clear c13b1
        try clear c21
        try clear c21b0
        try clear c21b1
        try clear c37
        try clear c37b0
        try clear c37b1
        try clear c47
        try clear c52
        try clear c52b0
        try clear c52b1
        try clear c59
        try clear c62
        try clear c62b0
        try clear c62b1
        try clear c74
        try clear c74b0
        try clear c74b1
        try clear c88
        try clear c88b0
        try clear c88b1
        obtain ⟨kq, x110_90, rfl, HA, HJ90, HI0, HK, HB⟩ := hcut
        cases kq with
        | zero => exact absurd HA.out (by simp [zaz.j3])
        | succ kj90 =>
         have H := HA.out; clear HA
         simp only [zaz.j3] at H
         by_cases c93 : x110_90 = true
         ·subst c93
          replace H : ((zaj.f s0_0 t177 t178 t179 64).bind fun bt288 => (some (wrap64 (4096 + bt288.1), bt288.2.1, bt288.2.2.1, bt288.2.2.2))) = some (r1, r2, r3, r4) := by rw [if_pos rfl] at H; exact H
          replace H := Option.bind_eq_some_iff.mp H
          obtain ⟨⟨t288, t289, t290, t291⟩, A940, H⟩ := H
          replace H : (some (wrap64 (4096 + t288), t289, t290, t291)) = some (r1, r2, r3, r4) := H
          have A94 := zab.mk A940; clear A940
          simp only [Option.some.injEq, Prod.mk.injEq] at H
          obtain ⟨rfl, rfl, rfl, rfl⟩ := H
          go_wp2_with (first | ((with_reducible refine zan (f := 19) rfl ?_); refine zaN (some 114) rfl rfl Tryd.func19 (by kernel_rfl) rfl #[.pointer (some ⟨g, 0, none⟩), .int .i64 64] rfl (by (try simp only [List.map_toArray, List.map_cons, List.map_nil]); first | done | rfl | (simp only [List.length_drop, List.length_take]; rfl)) ?_; (with_reducible refine (zaj.calls g s0_0 t177 t178 t179 64 t288 t289 t290 t291 w0 _ ?side1 ?side2 A94.out).mono ?_); (case side1 => exact HI0.out); (case side2 => exact HB.out); rintro e w95 ⟨rfl, hi, hb, hk⟩; refine ⟨_, rfl, ?_⟩; have n0_ := zab.mk (KeepBut.trans HK.out hk (.inl rfl)); have n1_ := zab.mk (hb); have n2_ := zab.mk (hi); clear HK HB HI0; have HK := n0_; have HB := n1_; have HI0 := n2_; clear n0_ n1_ n2_; (try clear hb); (try clear hb2); (try clear hk); (try clear hi)))
          go_ret
          exact ⟨by first | rfl | (simp [zar, zas] <;> rfl) | (simp [*, zar, zas] <;> rfl), by repeat (first | (with_reducible first | exact HI0.out | apply zaf.alloc | apply zaf.drewN | apply zaf.drew | apply zaf.zaX | apply zaf.zaW | apply zaf.zaY) | exact HI0.out), by repeat (first | (with_reducible first | exact HB.out | apply zad | apply zaa | apply zac | refine zae ?_ (zaf.ge HI0.out)) | exact HB.out), by repeat (first | (with_reducible first | exact HK.out | apply KeepBut.set_ | apply zao | apply zaq | apply keep_alloc) | exact HK.out)⟩
         replace c93 := Bool.eq_false_iff.mpr c93
         subst c93
         replace H : (if t176 = 17 then ((zaj.f s0_0 t177 t178 t179 64).bind fun bt292 => ((zaj.f s0_0 bt292.2.1 bt292.2.2.1 bt292.2.2.2 5).bind fun bt296 => ((zaj.f s0_0 bt296.2.1 bt296.2.2.1 bt296.2.2.2 26).bind fun bt300 => ((some (([wrap64 (7680 + bt292.1), wrap64 (7744 + bt296.1), wrap64 (7760 + bt300.1)] : List Int) : List Int)).bind fun y304 => ((zaj.f s0_0 bt300.2.1 bt300.2.2.1 bt300.2.2.2 3).bind fun bt307 => (if 0 ≤ bt307.1 then (if bt307.1 < (y304.length : Int) then (some (rd y304 bt307.1, bt307.2.1, bt307.2.2.1, bt307.2.2.2)) else (none)) else (none))))))) else (if t176 = 18 then ((zaj.f s0_0 t177 t178 t179 12).bind fun bt312 => ((some (([wrap64 (7936 + bt312.1), 7953, 7954] : List Int) : List Int)).bind fun y316 => ((zaj.f s0_0 bt312.2.1 bt312.2.2.1 bt312.2.2.2 3).bind fun bt319 => (if 0 ≤ bt319.1 then (if bt319.1 < (y316.length : Int) then (some (rd y316 bt319.1, bt319.2.1, bt319.2.2.1, bt319.2.2.2)) else (none)) else (none))))) else (if t176 = 19 then (zaz.j4 kj90 t176 (t176 == 19) s0_0 t177 t178 t179) else (zaz.j4 kj90 t176 (t176 == 20) s0_0 t177 t178 t179)))) = some (r1, r2, r3, r4) := by rw [if_neg (show ¬ (false = true) by decide)] at H; exact H
         by_cases c96 : t176 = 17
         ·rw [if_pos c96] at H
          have c96b0 : (t176 == 17) = true := beq_iff_eq.mpr c96
          have c96b1 : (t176 != 17) = false := bne_eq_false_iff_eq.mpr c96
          clear c96; replace H := Option.bind_eq_some_iff.mp H
          obtain ⟨⟨t292, t293, t294, t295⟩, A970, H⟩ := H
          replace H : ((zaj.f s0_0 t293 t294 t295 5).bind fun bt296 => ((zaj.f s0_0 bt296.2.1 bt296.2.2.1 bt296.2.2.2 26).bind fun bt300 => ((some (([wrap64 (7680 + t292), wrap64 (7744 + bt296.1), wrap64 (7760 + bt300.1)] : List Int) : List Int)).bind fun y304 => ((zaj.f s0_0 bt300.2.1 bt300.2.2.1 bt300.2.2.2 3).bind fun bt307 => (if 0 ≤ bt307.1 then (if bt307.1 < (y304.length : Int) then (some (rd y304 bt307.1, bt307.2.1, bt307.2.2.1, bt307.2.2.2)) else (none)) else (none)))))) = some (r1, r2, r3, r4) := H
          have A97 := zab.mk A970; clear A970; replace H := Option.bind_eq_some_iff.mp H
          obtain ⟨⟨t296, t297, t298, t299⟩, A980, H⟩ := H
          replace H : ((zaj.f s0_0 t297 t298 t299 26).bind fun bt300 => ((some (([wrap64 (7680 + t292), wrap64 (7744 + t296), wrap64 (7760 + bt300.1)] : List Int) : List Int)).bind fun y304 => ((zaj.f s0_0 bt300.2.1 bt300.2.2.1 bt300.2.2.2 3).bind fun bt307 => (if 0 ≤ bt307.1 then (if bt307.1 < (y304.length : Int) then (some (rd y304 bt307.1, bt307.2.1, bt307.2.2.1, bt307.2.2.2)) else (none)) else (none))))) = some (r1, r2, r3, r4) := H
          have A98 := zab.mk A980; clear A980; replace H := Option.bind_eq_some_iff.mp H
          obtain ⟨⟨t300, t301, t302, t303⟩, A990, H⟩ := H
          replace H : ((some (([wrap64 (7680 + t292), wrap64 (7744 + t296), wrap64 (7760 + t300)] : List Int) : List Int)).bind fun y304 => ((zaj.f s0_0 t301 t302 t303 3).bind fun bt307 => (if 0 ≤ bt307.1 then (if bt307.1 < (y304.length : Int) then (some (rd y304 bt307.1, bt307.2.1, bt307.2.2.1, bt307.2.2.2)) else (none)) else (none)))) = some (r1, r2, r3, r4) := H
          have A99 := zab.mk A990; clear A990
          obtain ⟨y304, hy304⟩ : ∃ y_ : List Int, y_ = (([wrap64 (7680 + t292), wrap64 (7744 + t296), wrap64 (7760 + t300)] : List Int)) := ⟨_, rfl⟩
          replace H : ((zaj.f s0_0 t301 t302 t303 3).bind fun bt307 => (if 0 ≤ bt307.1 then (if bt307.1 < (y304.length : Int) then (some (rd y304 bt307.1, bt307.2.1, bt307.2.2.1, bt307.2.2.2)) else (none)) else (none))) = some (r1, r2, r3, r4) := by first | (rw [hy304]; with_reducible exact H) | (have H2_ := (Option.bind_some _ _).symm.trans H; rw [hy304]; with_reducible exact H2_) | (have H2_ := (Option.bind_some _ _).symm.trans H; with_reducible exact H2_) | with_reducible exact H | (rw [hy304]; exact H) | exact H
          have Ny304 := zab.mk hy304; clear hy304; replace H := Option.bind_eq_some_iff.mp H
          obtain ⟨⟨t307, t308, t309, t310⟩, A1000, H⟩ := H
          replace H : (if 0 ≤ t307 then (if t307 < (y304.length : Int) then (some (rd y304 t307, t308, t309, t310)) else (none)) else (none)) = some (r1, r2, r3, r4) := H
          have A100 := zab.mk A1000; clear A1000
          by_cases c101 : 0 ≤ t307
          ·rw [if_pos c101] at H
           have c101b0 : decide (0 ≤ t307) = true := decide_eq_true c101
           clear c101
           by_cases c102 : t307 < (y304.length : Int)
           ·rw [if_pos c102] at H
            have c102b0 : decide (t307 < (y304.length : Int)) = true := decide_eq_true c102
            clear c102
            simp only [Option.some.injEq, Prod.mk.injEq] at H
            obtain ⟨rfl, rfl, rfl, rfl⟩ := H
            go_wp2_with (first | ((with_reducible refine zan (f := 19) rfl ?_); refine zaN (some 119) rfl rfl Tryd.func19 (by kernel_rfl) rfl #[.pointer (some ⟨g, 0, none⟩), .int .i64 64] rfl (by (try simp only [List.map_toArray, List.map_cons, List.map_nil]); first | done | rfl | (simp only [List.length_drop, List.length_take]; rfl)) ?_; (with_reducible refine (zaj.calls g s0_0 t177 t178 t179 64 t292 t293 t294 t295 w0 _ ?side1 ?side2 A97.out).mono ?_); (case side1 => exact HI0.out); (case side2 => exact HB.out); rintro e w103 ⟨rfl, hi, hb, hk⟩; refine ⟨_, rfl, ?_⟩; have n0_ := zab.mk (KeepBut.trans HK.out hk (.inl rfl)); have n1_ := zab.mk (hb); have n2_ := zab.mk (hi); clear HK HB HI0; have HK := n0_; have HB := n1_; have HI0 := n2_; clear n0_ n1_ n2_; (try clear hb); (try clear hb2); (try clear hk); (try clear hi)) | ((with_reducible refine zan (f := 19) rfl ?_); refine zaN (some 122) rfl rfl Tryd.func19 (by kernel_rfl) rfl #[.pointer (some ⟨g, 0, none⟩), .int .i64 5] rfl (by (try simp only [List.map_toArray, List.map_cons, List.map_nil]); first | done | rfl | (simp only [List.length_drop, List.length_take]; rfl)) ?_; (with_reducible refine (zaj.calls g s0_0 t293 t294 t295 5 t296 t297 t298 t299 w0 _ ?side1 ?side2 A98.out).mono ?_); (case side1 => exact HI0.out); (case side2 => exact HB.out); rintro e w104 ⟨rfl, hi, hb, hk⟩; refine ⟨_, rfl, ?_⟩; have n0_ := zab.mk (KeepBut.trans HK.out hk (.inl rfl)); have n1_ := zab.mk (hb); have n2_ := zab.mk (hi); clear HK HB HI0; have HK := n0_; have HB := n1_; have HI0 := n2_; clear n0_ n1_ n2_; (try clear hb); (try clear hb2); (try clear hk); (try clear hi)) | ((with_reducible refine zan (f := 19) rfl ?_); refine zaN (some 125) rfl rfl Tryd.func19 (by kernel_rfl) rfl #[.pointer (some ⟨g, 0, none⟩), .int .i64 26] rfl (by (try simp only [List.map_toArray, List.map_cons, List.map_nil]); first | done | rfl | (simp only [List.length_drop, List.length_take]; rfl)) ?_; (with_reducible refine (zaj.calls g s0_0 t297 t298 t299 26 t300 t301 t302 t303 w0 _ ?side1 ?side2 A99.out).mono ?_); (case side1 => exact HI0.out); (case side2 => exact HB.out); rintro e w105 ⟨rfl, hi, hb, hk⟩; refine ⟨_, rfl, ?_⟩; have n0_ := zab.mk (KeepBut.trans HK.out hk (.inl rfl)); have n1_ := zab.mk (hb); have n2_ := zab.mk (hi); clear HK HB HI0; have HK := n0_; have HB := n1_; have HI0 := n2_; clear n0_ n1_ n2_; (try clear hb); (try clear hb2); (try clear hk); (try clear hi)) | ((with_reducible refine zbb (N := 127) rfl ?_); refine Kd.R_lit (Kd.int .i64) _ 2 ?hg (N := 127) ?hd (xs := ([wrap64 (7680 + t292), wrap64 (7744 + t296), wrap64 (7760 + t300)] : List Int)) (inner := [.int .i64 (wrap64 (7680 + t292)), .int .i64 (wrap64 (7744 + t296)), .int .i64 (wrap64 (7760 + t300))]) (ok := fun _ => True) (okp := fun _ => True) ?hr ?hp (fun _ hk => hk) trivial (Below.refl _ _) (Nat.le_refl _) (by simp) ?_; (case hd => rfl); (case hg => rfl); (case hr => first | (go_simp; done) | (go_simp; rfl)); (case hp => exact (Reps.one (show Kd.M (Kd.int .i64) _ _ _ (wrap64 (7680 + t292)) [.int .i64 (wrap64 (7680 + t292))] from rfl) (Reps.one (show Kd.M (Kd.int .i64) _ _ _ (wrap64 (7744 + t296)) [.int .i64 (wrap64 (7744 + t296))] from rfl) (Reps.one (show Kd.M (Kd.int .i64) _ _ _ (wrap64 (7760 + t300)) [.int .i64 (wrap64 (7760 + t300))] from rfl) (Reps.none _ _))))); intro v305 w106 ho107 hb hg_ hnew_; clear hg_ hnew_; (first | rw [← Ny304.out] at ho107 | (simp only [Int.reduceToNat] at ho107; rw [← Ny304.out] at ho107)); have n0_ := zab.mk (Kd.zbm ho107 (zbB (w := w) (g := g) (row := none) HK.out)); have n1_ := zab.mk (zaf.below HI0.out hb); have n2_ := zab.mk (KeepBut.trans HK.out (KeepBut.of_below hb g none) (.inl rfl)); have n3_ := zab.mk (zau HB.out hb); clear HI0 HK HB; have HO306 := n0_; have HI0 := n1_; have HK := n2_; have HB := n3_; clear n0_ n1_ n2_ n3_ hb ho107) | ((with_reducible refine zan (f := 19) rfl ?_); refine zaN (some 129) rfl rfl Tryd.func19 (by kernel_rfl) rfl #[.pointer (some ⟨g, 0, none⟩), .int .i64 3] rfl (by (try simp only [List.map_toArray, List.map_cons, List.map_nil]); first | done | rfl | (simp only [List.length_drop, List.length_take]; rfl)) ?_; (with_reducible refine (zaj.calls g s0_0 t301 t302 t303 3 t307 t308 t309 t310 w0 _ ?side1 ?side2 A100.out).mono ?_); (case side1 => exact HI0.out); (case side2 => exact HB.out); rintro e w108 ⟨rfl, hi, hb, hk⟩; refine ⟨_, rfl, ?_⟩; have n0_ := zab.mk (Kd.za7 (Kd.R_keep (zaf.apart (show zaf w0 _ g s0_0 t301 t302 t303 from by repeat (first | (with_reducible first | exact HI0.out | apply zaf.alloc | apply zaf.drewN | apply zaf.drew | apply zaf.zaX | apply zaf.zaW | apply zaf.zaY) | exact HI0.out)) HO306.out (by decide)) hk (fun _ h => h.2)) (fun _ h => h.1)); have n1_ := zab.mk (KeepBut.trans HK.out hk (.inl rfl)); have n2_ := zab.mk (hb); have n3_ := zab.mk (hi); clear HO306 HK HB HI0; have HO306 := n0_; have HK := n1_; have HB := n2_; have HI0 := n3_; clear n0_ n1_ n2_ n3_; (try clear hb); (try clear hb2); (try clear hk); (try clear hi); obtain ⟨Ao109, co109, eo109⟩ := Kd.zbr HO306.out; subst eo109; have p311 : 0 ≤ (t307 : Int) := of_decide_eq_true (by first | (with_reducible assumption) | assumption); have q311 : t307 < (y304.length : Int) := of_decide_eq_true (by first | (with_reducible assumption) | assumption); obtain ⟨ad311, e311, hx311_0⟩ := Kd.at_int (Kd.zbl HO306.out).2.2 t307 p311 q311; cases e311; replace p311 := eq_true p311; replace q311 := eq_true q311))
            go_ret
            exact ⟨by first | rfl | (simp [zar, zas] <;> rfl) | (simp [*, zar, zas] <;> rfl), by repeat (first | (with_reducible first | exact HI0.out | apply zaf.alloc | apply zaf.drewN | apply zaf.drew | apply zaf.zaX | apply zaf.zaW | apply zaf.zaY) | exact HI0.out), by repeat (first | (with_reducible first | exact HB.out | apply zad | apply zaa | apply zac | refine zae ?_ (zaf.ge HI0.out)) | exact HB.out), by repeat (first | (with_reducible first | exact HK.out | apply KeepBut.set_ | apply zao | apply zaq | apply keep_alloc) | exact HK.out)⟩
           rw [if_neg c102] at H
           exact absurd H (by simp)
          rw [if_neg c101] at H
          exact absurd H (by simp)
         rw [if_neg c96] at H
         have c96b0 : (t176 == 17) = false := beq_eq_false_iff_ne.mpr c96
         have c96b1 : (t176 != 17) = true := bne_iff_ne.mpr c96
         by_cases c110 : t176 = 18
         ·rw [if_pos c110] at H
          have c110b0 : (t176 == 18) = true := beq_iff_eq.mpr c110
          have c110b1 : (t176 != 18) = false := bne_eq_false_iff_eq.mpr c110
          clear c110; replace H := Option.bind_eq_some_iff.mp H
          obtain ⟨⟨t312, t313, t314, t315⟩, A1110, H⟩ := H
          replace H : ((some (([wrap64 (7936 + t312), 7953, 7954] : List Int) : List Int)).bind fun y316 => ((zaj.f s0_0 t313 t314 t315 3).bind fun bt319 => (if 0 ≤ bt319.1 then (if bt319.1 < (y316.length : Int) then (some (rd y316 bt319.1, bt319.2.1, bt319.2.2.1, bt319.2.2.2)) else (none)) else (none)))) = some (r1, r2, r3, r4) := H
          have A111 := zab.mk A1110; clear A1110
          obtain ⟨y316, hy316⟩ : ∃ y_ : List Int, y_ = (([wrap64 (7936 + t312), 7953, 7954] : List Int)) := ⟨_, rfl⟩
          replace H : ((zaj.f s0_0 t313 t314 t315 3).bind fun bt319 => (if 0 ≤ bt319.1 then (if bt319.1 < (y316.length : Int) then (some (rd y316 bt319.1, bt319.2.1, bt319.2.2.1, bt319.2.2.2)) else (none)) else (none))) = some (r1, r2, r3, r4) := by first | (rw [hy316]; with_reducible exact H) | (have H2_ := (Option.bind_some _ _).symm.trans H; rw [hy316]; with_reducible exact H2_) | (have H2_ := (Option.bind_some _ _).symm.trans H; with_reducible exact H2_) | with_reducible exact H | (rw [hy316]; exact H) | exact H
          have Ny316 := zab.mk hy316; clear hy316; replace H := Option.bind_eq_some_iff.mp H
          obtain ⟨⟨t319, t320, t321, t322⟩, A1120, H⟩ := H
          replace H : (if 0 ≤ t319 then (if t319 < (y316.length : Int) then (some (rd y316 t319, t320, t321, t322)) else (none)) else (none)) = some (r1, r2, r3, r4) := H
          have A112 := zab.mk A1120; clear A1120
          by_cases c113 : 0 ≤ t319
          ·rw [if_pos c113] at H
           have c113b0 : decide (0 ≤ t319) = true := decide_eq_true c113
           clear c113
           by_cases c114 : t319 < (y316.length : Int)
           ·rw [if_pos c114] at H
            have c114b0 : decide (t319 < (y316.length : Int)) = true := decide_eq_true c114
            clear c114
            simp only [Option.some.injEq, Prod.mk.injEq] at H
            obtain ⟨rfl, rfl, rfl, rfl⟩ := H
            go_wp2_with (first | ((with_reducible refine zan (f := 19) rfl ?_); refine zaN (some 135) rfl rfl Tryd.func19 (by kernel_rfl) rfl #[.pointer (some ⟨g, 0, none⟩), .int .i64 12] rfl (by (try simp only [List.map_toArray, List.map_cons, List.map_nil]); first | done | rfl | (simp only [List.length_drop, List.length_take]; rfl)) ?_; (with_reducible refine (zaj.calls g s0_0 t177 t178 t179 12 t312 t313 t314 t315 w0 _ ?side1 ?side2 A111.out).mono ?_); (case side1 => exact HI0.out); (case side2 => exact HB.out); rintro e w115 ⟨rfl, hi, hb, hk⟩; refine ⟨_, rfl, ?_⟩; have n0_ := zab.mk (KeepBut.trans HK.out hk (.inl rfl)); have n1_ := zab.mk (hb); have n2_ := zab.mk (hi); clear HK HB HI0; have HK := n0_; have HB := n1_; have HI0 := n2_; clear n0_ n1_ n2_; (try clear hb); (try clear hb2); (try clear hk); (try clear hi)) | ((with_reducible refine zbb (N := 137) rfl ?_); refine Kd.R_lit (Kd.int .i64) _ 2 ?hg (N := 137) ?hd (xs := ([wrap64 (7936 + t312), 7953, 7954] : List Int)) (inner := [.int .i64 (wrap64 (7936 + t312)), .int .i64 7953, .int .i64 7954]) (ok := fun _ => True) (okp := fun _ => True) ?hr ?hp (fun _ hk => hk) trivial (Below.refl _ _) (Nat.le_refl _) (by simp) ?_; (case hd => rfl); (case hg => rfl); (case hr => first | (go_simp; done) | (go_simp; rfl)); (case hp => exact (Reps.one (show Kd.M (Kd.int .i64) _ _ _ (wrap64 (7936 + t312)) [.int .i64 (wrap64 (7936 + t312))] from rfl) (Reps.one (show Kd.M (Kd.int .i64) _ _ _ 7953 [.int .i64 7953] from rfl) (Reps.one (show Kd.M (Kd.int .i64) _ _ _ 7954 [.int .i64 7954] from rfl) (Reps.none _ _))))); intro v317 w116 ho117 hb hg_ hnew_; clear hg_ hnew_; (first | rw [← Ny316.out] at ho117 | (simp only [Int.reduceToNat] at ho117; rw [← Ny316.out] at ho117)); have n0_ := zab.mk (Kd.zbm ho117 (zbB (w := w) (g := g) (row := none) HK.out)); have n1_ := zab.mk (zaf.below HI0.out hb); have n2_ := zab.mk (KeepBut.trans HK.out (KeepBut.of_below hb g none) (.inl rfl)); have n3_ := zab.mk (zau HB.out hb); clear HI0 HK HB; have HO318 := n0_; have HI0 := n1_; have HK := n2_; have HB := n3_; clear n0_ n1_ n2_ n3_ hb ho117) | ((with_reducible refine zan (f := 19) rfl ?_); refine zaN (some 139) rfl rfl Tryd.func19 (by kernel_rfl) rfl #[.pointer (some ⟨g, 0, none⟩), .int .i64 3] rfl (by (try simp only [List.map_toArray, List.map_cons, List.map_nil]); first | done | rfl | (simp only [List.length_drop, List.length_take]; rfl)) ?_; (with_reducible refine (zaj.calls g s0_0 t313 t314 t315 3 t319 t320 t321 t322 w0 _ ?side1 ?side2 A112.out).mono ?_); (case side1 => exact HI0.out); (case side2 => exact HB.out); rintro e w118 ⟨rfl, hi, hb, hk⟩; refine ⟨_, rfl, ?_⟩; have n0_ := zab.mk (Kd.za7 (Kd.R_keep (zaf.apart (show zaf w0 _ g s0_0 t313 t314 t315 from by repeat (first | (with_reducible first | exact HI0.out | apply zaf.alloc | apply zaf.drewN | apply zaf.drew | apply zaf.zaX | apply zaf.zaW | apply zaf.zaY) | exact HI0.out)) HO318.out (by decide)) hk (fun _ h => h.2)) (fun _ h => h.1)); have n1_ := zab.mk (KeepBut.trans HK.out hk (.inl rfl)); have n2_ := zab.mk (hb); have n3_ := zab.mk (hi); clear HO318 HK HB HI0; have HO318 := n0_; have HK := n1_; have HB := n2_; have HI0 := n3_; clear n0_ n1_ n2_ n3_; (try clear hb); (try clear hb2); (try clear hk); (try clear hi); obtain ⟨Ao119, co119, eo119⟩ := Kd.zbr HO318.out; subst eo119; have p323 : 0 ≤ (t319 : Int) := of_decide_eq_true (by first | (with_reducible assumption) | assumption); have q323 : t319 < (y316.length : Int) := of_decide_eq_true (by first | (with_reducible assumption) | assumption); obtain ⟨ad323, e323, hx323_0⟩ := Kd.at_int (Kd.zbl HO318.out).2.2 t319 p323 q323; cases e323; replace p323 := eq_true p323; replace q323 := eq_true q323))
            go_ret
            exact ⟨by first | rfl | (simp [zar, zas] <;> rfl) | (simp [*, zar, zas] <;> rfl), by repeat (first | (with_reducible first | exact HI0.out | apply zaf.alloc | apply zaf.drewN | apply zaf.drew | apply zaf.zaX | apply zaf.zaW | apply zaf.zaY) | exact HI0.out), by repeat (first | (with_reducible first | exact HB.out | apply zad | apply zaa | apply zac | refine zae ?_ (zaf.ge HI0.out)) | exact HB.out), by repeat (first | (with_reducible first | exact HK.out | apply KeepBut.set_ | apply zao | apply zaq | apply keep_alloc) | exact HK.out)⟩
           rw [if_neg c114] at H
           exact absurd H (by simp)
          rw [if_neg c113] at H
          exact absurd H (by simp)
         rw [if_neg c110] at H
         have c110b0 : (t176 == 18) = false := beq_eq_false_iff_ne.mpr c110
         have c110b1 : (t176 != 18) = true := bne_iff_ne.mpr c110
         have HC120 := zab.mk H; clear H
         go_upto_if 142 with (fail)
         go_cut [142] (fun v142 wc => ∃ (kq : Nat) (x142_119 : Bool), v142 = .bool x142_119 ∧ zab (zaz.j4 kq t176 x142_119 s0_0 t177 t178 t179 = some (r1, r2, r3, r4)) ∧ zab (kq ≤ kj90) ∧ zab (zaf w0 wc g s0_0 t177 t178 t179) ∧ zab (KeepBut w wc g none) ∧ zab (Below w0.heap.size w0 wc))
         case first => as_aux_lemma =>
          have H := HC120.out; clear HC120
          by_cases c121 : t176 = 19
          ·rw [if_pos c121] at H
           have c121b0 : (t176 == 19) = true := beq_iff_eq.mpr c121
           have c121b1 : (t176 != 19) = false := bne_eq_false_iff_eq.mpr c121
           clear c121
           (first | rw [c121b0] | rw [c121b1] | (simp only [zaR, zaS]; rw [c121b0]) | skip)
           have H' := zab.mk H; clear H
           go_wp2
           go_meet
           case rel => exact ⟨_, ((t176 == 19)), (by first | rfl | (simp; done) | (simp [*]; done)), H', ⟨by have := HJ2.out; have := HJ44.out; have := HJ56.out; have := HJ90.out; first | omega | exact Nat.le_refl _⟩, ⟨by repeat (first | (with_reducible first | exact HI0.out | apply zaf.alloc | apply zaf.drewN | apply zaf.drew | apply zaf.zaX | apply zaf.zaW | apply zaf.zaY) | exact HI0.out)⟩, ⟨by repeat (first | (with_reducible first | exact HK.out | apply KeepBut.set_ | apply zao | apply zaq | apply keep_alloc) | exact HK.out)⟩, ⟨by repeat (first | (with_reducible first | exact HB.out | apply zad | apply zaa | apply zac | refine zae ?_ (zaf.ge HI0.out)) | exact HB.out)⟩⟩
          rw [if_neg c121] at H
          have c121b0 : (t176 == 19) = false := beq_eq_false_iff_ne.mpr c121
          have c121b1 : (t176 != 19) = true := bne_iff_ne.mpr c121
          (first | rw [c121b0] | rw [c121b1] | (simp only [zaR, zaS]; rw [c121b0]) | skip)
          have H' := zab.mk H; clear H
          go_wp2
          go_meet
          case rel => exact ⟨_, ((t176 == 20)), rfl, H', ⟨by have := HJ2.out; have := HJ44.out; have := HJ56.out; have := HJ90.out; first | omega | exact Nat.le_refl _⟩, ⟨by repeat (first | (with_reducible first | exact HI0.out | apply zaf.alloc | apply zaf.drewN | apply zaf.drew | apply zaf.zaX | apply zaf.zaW | apply zaf.zaY) | exact HI0.out)⟩, ⟨by repeat (first | (with_reducible first | exact HK.out | apply KeepBut.set_ | apply zao | apply zaq | apply keep_alloc) | exact HK.out)⟩, ⟨by repeat (first | (with_reducible first | exact HB.out | apply zad | apply zaa | apply zac | refine zae ?_ (zaf.ge HI0.out)) | exact HB.out)⟩⟩
         case rest =>
          clear HC120
          try clear c7
          try clear c10
          try clear c10b0
          try clear c10b1
          try clear c13
          try clear c13b0
          try clear c13b1
          try clear c21
          try clear c21b0
          try clear c21b1
          try clear c37
          try clear c37b0
          try clear c37b1
          try clear c47
          try clear c52
          try clear c52b0
          try clear c52b1
          try clear c59
          try clear c62
          try clear c62b0
          try clear c62b1
          try clear c74
          try clear c74b0
          try clear c74b1
          try clear c88
          try clear c88b0
          try clear c88b1
          try clear c93
          try clear c96
          try clear c96b0
          try clear c96b1
          try clear c110
          try clear c110b0
          try clear c110b1
          obtain ⟨kq, x142_119, rfl, HA, HJ119, HI0, HK, HB⟩ := hcut
          cases kq with
          | zero => exact absurd HA.out (by simp [zaz.j4])
          | succ kj119 =>
           have H := HA.out; clear HA
           simp only [zaz.j4] at H
           by_cases c122 : x142_119 = true
           ·subst c122
            replace H : ((zaj.f s0_0 t177 t178 t179 3).bind fun bt324 => ((zaj.f s0_0 bt324.2.1 bt324.2.2.1 bt324.2.2.2 416).bind fun bt328 => (some (wrap64 ((wrap64 (8192 + (wrap64 (512 * bt324.1)))) + bt328.1), bt328.2.1, bt328.2.2.1, bt328.2.2.2)))) = some (r1, r2, r3, r4) := by rw [if_pos rfl] at H; exact H
            replace H := Option.bind_eq_some_iff.mp H
            obtain ⟨⟨t324, t325, t326, t327⟩, A1230, H⟩ := H
            replace H : ((zaj.f s0_0 t325 t326 t327 416).bind fun bt328 => (some (wrap64 ((wrap64 (8192 + (wrap64 (512 * t324)))) + bt328.1), bt328.2.1, bt328.2.2.1, bt328.2.2.2))) = some (r1, r2, r3, r4) := H
            have A123 := zab.mk A1230; clear A1230; replace H := Option.bind_eq_some_iff.mp H
            obtain ⟨⟨t328, t329, t330, t331⟩, A1240, H⟩ := H
            replace H : (some (wrap64 ((wrap64 (8192 + (wrap64 (512 * t324)))) + t328), t329, t330, t331)) = some (r1, r2, r3, r4) := H
            have A124 := zab.mk A1240; clear A1240
            simp only [Option.some.injEq, Prod.mk.injEq] at H
            obtain ⟨rfl, rfl, rfl, rfl⟩ := H
            go_wp2_with (first | ((with_reducible refine zan (f := 19) rfl ?_); refine zaN (some 146) rfl rfl Tryd.func19 (by kernel_rfl) rfl #[.pointer (some ⟨g, 0, none⟩), .int .i64 3] rfl (by (try simp only [List.map_toArray, List.map_cons, List.map_nil]); first | done | rfl | (simp only [List.length_drop, List.length_take]; rfl)) ?_; (with_reducible refine (zaj.calls g s0_0 t177 t178 t179 3 t324 t325 t326 t327 w0 _ ?side1 ?side2 A123.out).mono ?_); (case side1 => exact HI0.out); (case side2 => exact HB.out); rintro e w125 ⟨rfl, hi, hb, hk⟩; refine ⟨_, rfl, ?_⟩; have n0_ := zab.mk (KeepBut.trans HK.out hk (.inl rfl)); have n1_ := zab.mk (hb); have n2_ := zab.mk (hi); clear HK HB HI0; have HK := n0_; have HB := n1_; have HI0 := n2_; clear n0_ n1_ n2_; (try clear hb); (try clear hb2); (try clear hk); (try clear hi)) | ((with_reducible refine zan (f := 19) rfl ?_); refine zaN (some 150) rfl rfl Tryd.func19 (by kernel_rfl) rfl #[.pointer (some ⟨g, 0, none⟩), .int .i64 416] rfl (by (try simp only [List.map_toArray, List.map_cons, List.map_nil]); first | done | rfl | (simp only [List.length_drop, List.length_take]; rfl)) ?_; (with_reducible refine (zaj.calls g s0_0 t325 t326 t327 416 t328 t329 t330 t331 w0 _ ?side1 ?side2 A124.out).mono ?_); (case side1 => exact HI0.out); (case side2 => exact HB.out); rintro e w126 ⟨rfl, hi, hb, hk⟩; refine ⟨_, rfl, ?_⟩; have n0_ := zab.mk (KeepBut.trans HK.out hk (.inl rfl)); have n1_ := zab.mk (hb); have n2_ := zab.mk (hi); clear HK HB HI0; have HK := n0_; have HB := n1_; have HI0 := n2_; clear n0_ n1_ n2_; (try clear hb); (try clear hb2); (try clear hk); (try clear hi)))
            go_ret
            exact ⟨by first | rfl | (simp [zar, zas] <;> rfl) | (simp [*, zar, zas] <;> rfl), by repeat (first | (with_reducible first | exact HI0.out | apply zaf.alloc | apply zaf.drewN | apply zaf.drew | apply zaf.zaX | apply zaf.zaW | apply zaf.zaY) | exact HI0.out), by repeat (first | (with_reducible first | exact HB.out | apply zad | apply zaa | apply zac | refine zae ?_ (zaf.ge HI0.out)) | exact HB.out), by repeat (first | (with_reducible first | exact HK.out | apply KeepBut.set_ | apply zao | apply zaq | apply keep_alloc) | exact HK.out)⟩
           replace c122 := Bool.eq_false_iff.mpr c122
           subst c122
           replace H : (if t176 = 21 then ((zaj.f s0_0 t177 t178 t179 26).bind fun bt332 => ((zaj.f s0_0 bt332.2.1 bt332.2.2.1 bt332.2.2.2 26).bind fun bt336 => ((zaj.f s0_0 bt336.2.1 bt336.2.2.1 bt336.2.2.2 4).bind fun bt340 => ((some (([wrap64 (9728 + bt332.1), wrap64 (9984 + bt336.1), wrap64 (10032 + bt340.1)] : List Int) : List Int)).bind fun y344 => ((zaj.f s0_0 bt340.2.1 bt340.2.2.1 bt340.2.2.2 3).bind fun bt347 => (if 0 ≤ bt347.1 then (if bt347.1 < (y344.length : Int) then (some (rd y344 bt347.1, bt347.2.1, bt347.2.2.1, bt347.2.2.2)) else (none)) else (none))))))) else (if t176 = 22 then ((zaj.f s0_0 t177 t178 t179 11172).bind fun bt352 => ((zaj.f s0_0 bt352.2.1 bt352.2.2.1 bt352.2.2.2 2048).bind fun bt356 => ((some (([wrap64 (12288 + bt352.1), wrap64 (24576 + bt356.1)] : List Int) : List Int)).bind fun y360 => ((zaj.f s0_0 bt356.2.1 bt356.2.2.1 bt356.2.2.2 2).bind fun bt363 => (if 0 ≤ bt363.1 then (if bt363.1 < (y360.length : Int) then (some (rd y360 bt363.1, bt363.2.1, bt363.2.2.1, bt363.2.2.2)) else (none)) else (none)))))) else ((zaj.f s0_0 t177 t178 t179 12288).bind fun bt368 => ((zaj.f s0_0 bt368.2.1 bt368.2.2.1 bt368.2.2.2 4096).bind fun bt372 => ((zaj.f s0_0 bt372.2.1 bt372.2.2.1 bt372.2.2.2 32768).bind fun bt376 => ((some (([65533, wrap64 (20480 + bt368.1), wrap64 (65536 + bt372.1), 1114111, 65535, bt376.1] : List Int) : List Int)).bind fun y380 => ((zaj.f s0_0 bt376.2.1 bt376.2.2.1 bt376.2.2.2 6).bind fun bt383 => (if 0 ≤ bt383.1 then (if bt383.1 < (y380.length : Int) then (some (rd y380 bt383.1, bt383.2.1, bt383.2.2.1, bt383.2.2.2)) else (none)) else (none))))))))) = some (r1, r2, r3, r4) := by rw [if_neg (show ¬ (false = true) by decide)] at H; exact H
           by_cases c127 : t176 = 21
           ·rw [if_pos c127] at H
            have c127b0 : (t176 == 21) = true := beq_iff_eq.mpr c127
            have c127b1 : (t176 != 21) = false := bne_eq_false_iff_eq.mpr c127
            clear c127; replace H := Option.bind_eq_some_iff.mp H
            obtain ⟨⟨t332, t333, t334, t335⟩, A1280, H⟩ := H
            replace H : ((zaj.f s0_0 t333 t334 t335 26).bind fun bt336 => ((zaj.f s0_0 bt336.2.1 bt336.2.2.1 bt336.2.2.2 4).bind fun bt340 => ((some (([wrap64 (9728 + t332), wrap64 (9984 + bt336.1), wrap64 (10032 + bt340.1)] : List Int) : List Int)).bind fun y344 => ((zaj.f s0_0 bt340.2.1 bt340.2.2.1 bt340.2.2.2 3).bind fun bt347 => (if 0 ≤ bt347.1 then (if bt347.1 < (y344.length : Int) then (some (rd y344 bt347.1, bt347.2.1, bt347.2.2.1, bt347.2.2.2)) else (none)) else (none)))))) = some (r1, r2, r3, r4) := H
            have A128 := zab.mk A1280; clear A1280; replace H := Option.bind_eq_some_iff.mp H
            obtain ⟨⟨t336, t337, t338, t339⟩, A1290, H⟩ := H
            replace H : ((zaj.f s0_0 t337 t338 t339 4).bind fun bt340 => ((some (([wrap64 (9728 + t332), wrap64 (9984 + t336), wrap64 (10032 + bt340.1)] : List Int) : List Int)).bind fun y344 => ((zaj.f s0_0 bt340.2.1 bt340.2.2.1 bt340.2.2.2 3).bind fun bt347 => (if 0 ≤ bt347.1 then (if bt347.1 < (y344.length : Int) then (some (rd y344 bt347.1, bt347.2.1, bt347.2.2.1, bt347.2.2.2)) else (none)) else (none))))) = some (r1, r2, r3, r4) := H
            have A129 := zab.mk A1290; clear A1290; replace H := Option.bind_eq_some_iff.mp H
            obtain ⟨⟨t340, t341, t342, t343⟩, A1300, H⟩ := H
            replace H : ((some (([wrap64 (9728 + t332), wrap64 (9984 + t336), wrap64 (10032 + t340)] : List Int) : List Int)).bind fun y344 => ((zaj.f s0_0 t341 t342 t343 3).bind fun bt347 => (if 0 ≤ bt347.1 then (if bt347.1 < (y344.length : Int) then (some (rd y344 bt347.1, bt347.2.1, bt347.2.2.1, bt347.2.2.2)) else (none)) else (none)))) = some (r1, r2, r3, r4) := H
            have A130 := zab.mk A1300; clear A1300
            obtain ⟨y344, hy344⟩ : ∃ y_ : List Int, y_ = (([wrap64 (9728 + t332), wrap64 (9984 + t336), wrap64 (10032 + t340)] : List Int)) := ⟨_, rfl⟩
            replace H : ((zaj.f s0_0 t341 t342 t343 3).bind fun bt347 => (if 0 ≤ bt347.1 then (if bt347.1 < (y344.length : Int) then (some (rd y344 bt347.1, bt347.2.1, bt347.2.2.1, bt347.2.2.2)) else (none)) else (none))) = some (r1, r2, r3, r4) := by first | (rw [hy344]; with_reducible exact H) | (have H2_ := (Option.bind_some _ _).symm.trans H; rw [hy344]; with_reducible exact H2_) | (have H2_ := (Option.bind_some _ _).symm.trans H; with_reducible exact H2_) | with_reducible exact H | (rw [hy344]; exact H) | exact H
            have Ny344 := zab.mk hy344; clear hy344; replace H := Option.bind_eq_some_iff.mp H
            obtain ⟨⟨t347, t348, t349, t350⟩, A1310, H⟩ := H
            replace H : (if 0 ≤ t347 then (if t347 < (y344.length : Int) then (some (rd y344 t347, t348, t349, t350)) else (none)) else (none)) = some (r1, r2, r3, r4) := H
            have A131 := zab.mk A1310; clear A1310
            by_cases c132 : 0 ≤ t347
            ·rw [if_pos c132] at H
             have c132b0 : decide (0 ≤ t347) = true := decide_eq_true c132
             clear c132
             by_cases c133 : t347 < (y344.length : Int)
             ·rw [if_pos c133] at H
              have c133b0 : decide (t347 < (y344.length : Int)) = true := decide_eq_true c133
              clear c133
              simp only [Option.some.injEq, Prod.mk.injEq] at H
              obtain ⟨rfl, rfl, rfl, rfl⟩ := H
              go_wp2_with (first | ((with_reducible refine zan (f := 19) rfl ?_); refine zaN (some 155) rfl rfl Tryd.func19 (by kernel_rfl) rfl #[.pointer (some ⟨g, 0, none⟩), .int .i64 26] rfl (by (try simp only [List.map_toArray, List.map_cons, List.map_nil]); first | done | rfl | (simp only [List.length_drop, List.length_take]; rfl)) ?_; (with_reducible refine (zaj.calls g s0_0 t177 t178 t179 26 t332 t333 t334 t335 w0 _ ?side1 ?side2 A128.out).mono ?_); (case side1 => exact HI0.out); (case side2 => exact HB.out); rintro e w134 ⟨rfl, hi, hb, hk⟩; refine ⟨_, rfl, ?_⟩; have n0_ := zab.mk (KeepBut.trans HK.out hk (.inl rfl)); have n1_ := zab.mk (hb); have n2_ := zab.mk (hi); clear HK HB HI0; have HK := n0_; have HB := n1_; have HI0 := n2_; clear n0_ n1_ n2_; (try clear hb); (try clear hb2); (try clear hk); (try clear hi)) | ((with_reducible refine zan (f := 19) rfl ?_); refine zaN (some 158) rfl rfl Tryd.func19 (by kernel_rfl) rfl #[.pointer (some ⟨g, 0, none⟩), .int .i64 26] rfl (by (try simp only [List.map_toArray, List.map_cons, List.map_nil]); first | done | rfl | (simp only [List.length_drop, List.length_take]; rfl)) ?_; (with_reducible refine (zaj.calls g s0_0 t333 t334 t335 26 t336 t337 t338 t339 w0 _ ?side1 ?side2 A129.out).mono ?_); (case side1 => exact HI0.out); (case side2 => exact HB.out); rintro e w135 ⟨rfl, hi, hb, hk⟩; refine ⟨_, rfl, ?_⟩; have n0_ := zab.mk (KeepBut.trans HK.out hk (.inl rfl)); have n1_ := zab.mk (hb); have n2_ := zab.mk (hi); clear HK HB HI0; have HK := n0_; have HB := n1_; have HI0 := n2_; clear n0_ n1_ n2_; (try clear hb); (try clear hb2); (try clear hk); (try clear hi)) | ((with_reducible refine zan (f := 19) rfl ?_); refine zaN (some 161) rfl rfl Tryd.func19 (by kernel_rfl) rfl #[.pointer (some ⟨g, 0, none⟩), .int .i64 4] rfl (by (try simp only [List.map_toArray, List.map_cons, List.map_nil]); first | done | rfl | (simp only [List.length_drop, List.length_take]; rfl)) ?_; (with_reducible refine (zaj.calls g s0_0 t337 t338 t339 4 t340 t341 t342 t343 w0 _ ?side1 ?side2 A130.out).mono ?_); (case side1 => exact HI0.out); (case side2 => exact HB.out); rintro e w136 ⟨rfl, hi, hb, hk⟩; refine ⟨_, rfl, ?_⟩; have n0_ := zab.mk (KeepBut.trans HK.out hk (.inl rfl)); have n1_ := zab.mk (hb); have n2_ := zab.mk (hi); clear HK HB HI0; have HK := n0_; have HB := n1_; have HI0 := n2_; clear n0_ n1_ n2_; (try clear hb); (try clear hb2); (try clear hk); (try clear hi)) | ((with_reducible refine zbb (N := 163) rfl ?_); refine Kd.R_lit (Kd.int .i64) _ 2 ?hg (N := 163) ?hd (xs := ([wrap64 (9728 + t332), wrap64 (9984 + t336), wrap64 (10032 + t340)] : List Int)) (inner := [.int .i64 (wrap64 (9728 + t332)), .int .i64 (wrap64 (9984 + t336)), .int .i64 (wrap64 (10032 + t340))]) (ok := fun _ => True) (okp := fun _ => True) ?hr ?hp (fun _ hk => hk) trivial (Below.refl _ _) (Nat.le_refl _) (by simp) ?_; (case hd => rfl); (case hg => rfl); (case hr => first | (go_simp; done) | (go_simp; rfl)); (case hp => exact (Reps.one (show Kd.M (Kd.int .i64) _ _ _ (wrap64 (9728 + t332)) [.int .i64 (wrap64 (9728 + t332))] from rfl) (Reps.one (show Kd.M (Kd.int .i64) _ _ _ (wrap64 (9984 + t336)) [.int .i64 (wrap64 (9984 + t336))] from rfl) (Reps.one (show Kd.M (Kd.int .i64) _ _ _ (wrap64 (10032 + t340)) [.int .i64 (wrap64 (10032 + t340))] from rfl) (Reps.none _ _))))); intro v345 w137 ho138 hb hg_ hnew_; clear hg_ hnew_; (first | rw [← Ny344.out] at ho138 | (simp only [Int.reduceToNat] at ho138; rw [← Ny344.out] at ho138)); have n0_ := zab.mk (Kd.zbm ho138 (zbB (w := w) (g := g) (row := none) HK.out)); have n1_ := zab.mk (zaf.below HI0.out hb); have n2_ := zab.mk (KeepBut.trans HK.out (KeepBut.of_below hb g none) (.inl rfl)); have n3_ := zab.mk (zau HB.out hb); clear HI0 HK HB; have HO346 := n0_; have HI0 := n1_; have HK := n2_; have HB := n3_; clear n0_ n1_ n2_ n3_ hb ho138) | ((with_reducible refine zan (f := 19) rfl ?_); refine zaN (some 165) rfl rfl Tryd.func19 (by kernel_rfl) rfl #[.pointer (some ⟨g, 0, none⟩), .int .i64 3] rfl (by (try simp only [List.map_toArray, List.map_cons, List.map_nil]); first | done | rfl | (simp only [List.length_drop, List.length_take]; rfl)) ?_; (with_reducible refine (zaj.calls g s0_0 t341 t342 t343 3 t347 t348 t349 t350 w0 _ ?side1 ?side2 A131.out).mono ?_); (case side1 => exact HI0.out); (case side2 => exact HB.out); rintro e w139 ⟨rfl, hi, hb, hk⟩; refine ⟨_, rfl, ?_⟩; have n0_ := zab.mk (Kd.za7 (Kd.R_keep (zaf.apart (show zaf w0 _ g s0_0 t341 t342 t343 from by repeat (first | (with_reducible first | exact HI0.out | apply zaf.alloc | apply zaf.drewN | apply zaf.drew | apply zaf.zaX | apply zaf.zaW | apply zaf.zaY) | exact HI0.out)) HO346.out (by decide)) hk (fun _ h => h.2)) (fun _ h => h.1)); have n1_ := zab.mk (KeepBut.trans HK.out hk (.inl rfl)); have n2_ := zab.mk (hb); have n3_ := zab.mk (hi); clear HO346 HK HB HI0; have HO346 := n0_; have HK := n1_; have HB := n2_; have HI0 := n3_; clear n0_ n1_ n2_ n3_; (try clear hb); (try clear hb2); (try clear hk); (try clear hi); obtain ⟨Ao140, co140, eo140⟩ := Kd.zbr HO346.out; subst eo140; have p351 : 0 ≤ (t347 : Int) := of_decide_eq_true (by first | (with_reducible assumption) | assumption); have q351 : t347 < (y344.length : Int) := of_decide_eq_true (by first | (with_reducible assumption) | assumption); obtain ⟨ad351, e351, hx351_0⟩ := Kd.at_int (Kd.zbl HO346.out).2.2 t347 p351 q351; cases e351; replace p351 := eq_true p351; replace q351 := eq_true q351))
              go_ret
              exact ⟨by first | rfl | (simp [zar, zas] <;> rfl) | (simp [*, zar, zas] <;> rfl), by repeat (first | (with_reducible first | exact HI0.out | apply zaf.alloc | apply zaf.drewN | apply zaf.drew | apply zaf.zaX | apply zaf.zaW | apply zaf.zaY) | exact HI0.out), by repeat (first | (with_reducible first | exact HB.out | apply zad | apply zaa | apply zac | refine zae ?_ (zaf.ge HI0.out)) | exact HB.out), by repeat (first | (with_reducible first | exact HK.out | apply KeepBut.set_ | apply zao | apply zaq | apply keep_alloc) | exact HK.out)⟩
             rw [if_neg c133] at H
             exact absurd H (by simp)
            rw [if_neg c132] at H
            exact absurd H (by simp)
           rw [if_neg c127] at H
           have c127b0 : (t176 == 21) = false := beq_eq_false_iff_ne.mpr c127
           have c127b1 : (t176 != 21) = true := bne_iff_ne.mpr c127
           by_cases c141 : t176 = 22
           ·rw [if_pos c141] at H
            have c141b0 : (t176 == 22) = true := beq_iff_eq.mpr c141
            have c141b1 : (t176 != 22) = false := bne_eq_false_iff_eq.mpr c141
            clear c141; replace H := Option.bind_eq_some_iff.mp H
            obtain ⟨⟨t352, t353, t354, t355⟩, A1420, H⟩ := H
            replace H : ((zaj.f s0_0 t353 t354 t355 2048).bind fun bt356 => ((some (([wrap64 (12288 + t352), wrap64 (24576 + bt356.1)] : List Int) : List Int)).bind fun y360 => ((zaj.f s0_0 bt356.2.1 bt356.2.2.1 bt356.2.2.2 2).bind fun bt363 => (if 0 ≤ bt363.1 then (if bt363.1 < (y360.length : Int) then (some (rd y360 bt363.1, bt363.2.1, bt363.2.2.1, bt363.2.2.2)) else (none)) else (none))))) = some (r1, r2, r3, r4) := H
            have A142 := zab.mk A1420; clear A1420; replace H := Option.bind_eq_some_iff.mp H
            obtain ⟨⟨t356, t357, t358, t359⟩, A1430, H⟩ := H
            replace H : ((some (([wrap64 (12288 + t352), wrap64 (24576 + t356)] : List Int) : List Int)).bind fun y360 => ((zaj.f s0_0 t357 t358 t359 2).bind fun bt363 => (if 0 ≤ bt363.1 then (if bt363.1 < (y360.length : Int) then (some (rd y360 bt363.1, bt363.2.1, bt363.2.2.1, bt363.2.2.2)) else (none)) else (none)))) = some (r1, r2, r3, r4) := H
            have A143 := zab.mk A1430; clear A1430
            obtain ⟨y360, hy360⟩ : ∃ y_ : List Int, y_ = (([wrap64 (12288 + t352), wrap64 (24576 + t356)] : List Int)) := ⟨_, rfl⟩
            replace H : ((zaj.f s0_0 t357 t358 t359 2).bind fun bt363 => (if 0 ≤ bt363.1 then (if bt363.1 < (y360.length : Int) then (some (rd y360 bt363.1, bt363.2.1, bt363.2.2.1, bt363.2.2.2)) else (none)) else (none))) = some (r1, r2, r3, r4) := by first | (rw [hy360]; with_reducible exact H) | (have H2_ := (Option.bind_some _ _).symm.trans H; rw [hy360]; with_reducible exact H2_) | (have H2_ := (Option.bind_some _ _).symm.trans H; with_reducible exact H2_) | with_reducible exact H | (rw [hy360]; exact H) | exact H
            have Ny360 := zab.mk hy360; clear hy360; replace H := Option.bind_eq_some_iff.mp H
            obtain ⟨⟨t363, t364, t365, t366⟩, A1440, H⟩ := H
            replace H : (if 0 ≤ t363 then (if t363 < (y360.length : Int) then (some (rd y360 t363, t364, t365, t366)) else (none)) else (none)) = some (r1, r2, r3, r4) := H
            have A144 := zab.mk A1440; clear A1440
            by_cases c145 : 0 ≤ t363
            ·rw [if_pos c145] at H
             have c145b0 : decide (0 ≤ t363) = true := decide_eq_true c145
             clear c145
             by_cases c146 : t363 < (y360.length : Int)
             ·rw [if_pos c146] at H
              have c146b0 : decide (t363 < (y360.length : Int)) = true := decide_eq_true c146
              clear c146
              simp only [Option.some.injEq, Prod.mk.injEq] at H
              obtain ⟨rfl, rfl, rfl, rfl⟩ := H
              go_wp2_with (first | ((with_reducible refine zan (f := 19) rfl ?_); refine zaN (some 171) rfl rfl Tryd.func19 (by kernel_rfl) rfl #[.pointer (some ⟨g, 0, none⟩), .int .i64 11172] rfl (by (try simp only [List.map_toArray, List.map_cons, List.map_nil]); first | done | rfl | (simp only [List.length_drop, List.length_take]; rfl)) ?_; (with_reducible refine (zaj.calls g s0_0 t177 t178 t179 11172 t352 t353 t354 t355 w0 _ ?side1 ?side2 A142.out).mono ?_); (case side1 => exact HI0.out); (case side2 => exact HB.out); rintro e w147 ⟨rfl, hi, hb, hk⟩; refine ⟨_, rfl, ?_⟩; have n0_ := zab.mk (KeepBut.trans HK.out hk (.inl rfl)); have n1_ := zab.mk (hb); have n2_ := zab.mk (hi); clear HK HB HI0; have HK := n0_; have HB := n1_; have HI0 := n2_; clear n0_ n1_ n2_; (try clear hb); (try clear hb2); (try clear hk); (try clear hi)) | ((with_reducible refine zan (f := 19) rfl ?_); refine zaN (some 174) rfl rfl Tryd.func19 (by kernel_rfl) rfl #[.pointer (some ⟨g, 0, none⟩), .int .i64 2048] rfl (by (try simp only [List.map_toArray, List.map_cons, List.map_nil]); first | done | rfl | (simp only [List.length_drop, List.length_take]; rfl)) ?_; (with_reducible refine (zaj.calls g s0_0 t353 t354 t355 2048 t356 t357 t358 t359 w0 _ ?side1 ?side2 A143.out).mono ?_); (case side1 => exact HI0.out); (case side2 => exact HB.out); rintro e w148 ⟨rfl, hi, hb, hk⟩; refine ⟨_, rfl, ?_⟩; have n0_ := zab.mk (KeepBut.trans HK.out hk (.inl rfl)); have n1_ := zab.mk (hb); have n2_ := zab.mk (hi); clear HK HB HI0; have HK := n0_; have HB := n1_; have HI0 := n2_; clear n0_ n1_ n2_; (try clear hb); (try clear hb2); (try clear hk); (try clear hi)) | ((with_reducible refine zbb (N := 176) rfl ?_); refine Kd.R_lit (Kd.int .i64) _ 2 ?hg (N := 176) ?hd (xs := ([wrap64 (12288 + t352), wrap64 (24576 + t356)] : List Int)) (inner := [.int .i64 (wrap64 (12288 + t352)), .int .i64 (wrap64 (24576 + t356))]) (ok := fun _ => True) (okp := fun _ => True) ?hr ?hp (fun _ hk => hk) trivial (Below.refl _ _) (Nat.le_refl _) (by simp) ?_; (case hd => rfl); (case hg => rfl); (case hr => first | (go_simp; done) | (go_simp; rfl)); (case hp => exact (Reps.one (show Kd.M (Kd.int .i64) _ _ _ (wrap64 (12288 + t352)) [.int .i64 (wrap64 (12288 + t352))] from rfl) (Reps.one (show Kd.M (Kd.int .i64) _ _ _ (wrap64 (24576 + t356)) [.int .i64 (wrap64 (24576 + t356))] from rfl) (Reps.none _ _)))); intro v361 w149 ho150 hb hg_ hnew_; clear hg_ hnew_; (first | rw [← Ny360.out] at ho150 | (simp only [Int.reduceToNat] at ho150; rw [← Ny360.out] at ho150)); have n0_ := zab.mk (Kd.zbm ho150 (zbB (w := w) (g := g) (row := none) HK.out)); have n1_ := zab.mk (zaf.below HI0.out hb); have n2_ := zab.mk (KeepBut.trans HK.out (KeepBut.of_below hb g none) (.inl rfl)); have n3_ := zab.mk (zau HB.out hb); clear HI0 HK HB; have HO362 := n0_; have HI0 := n1_; have HK := n2_; have HB := n3_; clear n0_ n1_ n2_ n3_ hb ho150) | ((with_reducible refine zan (f := 19) rfl ?_); refine zaN (some 178) rfl rfl Tryd.func19 (by kernel_rfl) rfl #[.pointer (some ⟨g, 0, none⟩), .int .i64 2] rfl (by (try simp only [List.map_toArray, List.map_cons, List.map_nil]); first | done | rfl | (simp only [List.length_drop, List.length_take]; rfl)) ?_; (with_reducible refine (zaj.calls g s0_0 t357 t358 t359 2 t363 t364 t365 t366 w0 _ ?side1 ?side2 A144.out).mono ?_); (case side1 => exact HI0.out); (case side2 => exact HB.out); rintro e w151 ⟨rfl, hi, hb, hk⟩; refine ⟨_, rfl, ?_⟩; have n0_ := zab.mk (Kd.za7 (Kd.R_keep (zaf.apart (show zaf w0 _ g s0_0 t357 t358 t359 from by repeat (first | (with_reducible first | exact HI0.out | apply zaf.alloc | apply zaf.drewN | apply zaf.drew | apply zaf.zaX | apply zaf.zaW | apply zaf.zaY) | exact HI0.out)) HO362.out (by decide)) hk (fun _ h => h.2)) (fun _ h => h.1)); have n1_ := zab.mk (KeepBut.trans HK.out hk (.inl rfl)); have n2_ := zab.mk (hb); have n3_ := zab.mk (hi); clear HO362 HK HB HI0; have HO362 := n0_; have HK := n1_; have HB := n2_; have HI0 := n3_; clear n0_ n1_ n2_ n3_; (try clear hb); (try clear hb2); (try clear hk); (try clear hi); obtain ⟨Ao152, co152, eo152⟩ := Kd.zbr HO362.out; subst eo152; have p367 : 0 ≤ (t363 : Int) := of_decide_eq_true (by first | (with_reducible assumption) | assumption); have q367 : t363 < (y360.length : Int) := of_decide_eq_true (by first | (with_reducible assumption) | assumption); obtain ⟨ad367, e367, hx367_0⟩ := Kd.at_int (Kd.zbl HO362.out).2.2 t363 p367 q367; cases e367; replace p367 := eq_true p367; replace q367 := eq_true q367))
              go_ret
              exact ⟨by first | rfl | (simp [zar, zas] <;> rfl) | (simp [*, zar, zas] <;> rfl), by repeat (first | (with_reducible first | exact HI0.out | apply zaf.alloc | apply zaf.drewN | apply zaf.drew | apply zaf.zaX | apply zaf.zaW | apply zaf.zaY) | exact HI0.out), by repeat (first | (with_reducible first | exact HB.out | apply zad | apply zaa | apply zac | refine zae ?_ (zaf.ge HI0.out)) | exact HB.out), by repeat (first | (with_reducible first | exact HK.out | apply KeepBut.set_ | apply zao | apply zaq | apply keep_alloc) | exact HK.out)⟩
             rw [if_neg c146] at H
             exact absurd H (by simp)
            rw [if_neg c145] at H
            exact absurd H (by simp)
           rw [if_neg c141] at H
           have c141b0 : (t176 == 22) = false := beq_eq_false_iff_ne.mpr c141
           have c141b1 : (t176 != 22) = true := bne_iff_ne.mpr c141
           replace H := Option.bind_eq_some_iff.mp H
           obtain ⟨⟨t368, t369, t370, t371⟩, A1530, H⟩ := H
           replace H : ((zaj.f s0_0 t369 t370 t371 4096).bind fun bt372 => ((zaj.f s0_0 bt372.2.1 bt372.2.2.1 bt372.2.2.2 32768).bind fun bt376 => ((some (([65533, wrap64 (20480 + t368), wrap64 (65536 + bt372.1), 1114111, 65535, bt376.1] : List Int) : List Int)).bind fun y380 => ((zaj.f s0_0 bt376.2.1 bt376.2.2.1 bt376.2.2.2 6).bind fun bt383 => (if 0 ≤ bt383.1 then (if bt383.1 < (y380.length : Int) then (some (rd y380 bt383.1, bt383.2.1, bt383.2.2.1, bt383.2.2.2)) else (none)) else (none)))))) = some (r1, r2, r3, r4) := H
           have A153 := zab.mk A1530; clear A1530; replace H := Option.bind_eq_some_iff.mp H
           obtain ⟨⟨t372, t373, t374, t375⟩, A1540, H⟩ := H
           replace H : ((zaj.f s0_0 t373 t374 t375 32768).bind fun bt376 => ((some (([65533, wrap64 (20480 + t368), wrap64 (65536 + t372), 1114111, 65535, bt376.1] : List Int) : List Int)).bind fun y380 => ((zaj.f s0_0 bt376.2.1 bt376.2.2.1 bt376.2.2.2 6).bind fun bt383 => (if 0 ≤ bt383.1 then (if bt383.1 < (y380.length : Int) then (some (rd y380 bt383.1, bt383.2.1, bt383.2.2.1, bt383.2.2.2)) else (none)) else (none))))) = some (r1, r2, r3, r4) := H
           have A154 := zab.mk A1540; clear A1540; replace H := Option.bind_eq_some_iff.mp H
           obtain ⟨⟨t376, t377, t378, t379⟩, A1550, H⟩ := H
           replace H : ((some (([65533, wrap64 (20480 + t368), wrap64 (65536 + t372), 1114111, 65535, t376] : List Int) : List Int)).bind fun y380 => ((zaj.f s0_0 t377 t378 t379 6).bind fun bt383 => (if 0 ≤ bt383.1 then (if bt383.1 < (y380.length : Int) then (some (rd y380 bt383.1, bt383.2.1, bt383.2.2.1, bt383.2.2.2)) else (none)) else (none)))) = some (r1, r2, r3, r4) := H
           have A155 := zab.mk A1550; clear A1550
           obtain ⟨y380, hy380⟩ : ∃ y_ : List Int, y_ = (([65533, wrap64 (20480 + t368), wrap64 (65536 + t372), 1114111, 65535, t376] : List Int)) := ⟨_, rfl⟩
           replace H : ((zaj.f s0_0 t377 t378 t379 6).bind fun bt383 => (if 0 ≤ bt383.1 then (if bt383.1 < (y380.length : Int) then (some (rd y380 bt383.1, bt383.2.1, bt383.2.2.1, bt383.2.2.2)) else (none)) else (none))) = some (r1, r2, r3, r4) := by first | (rw [hy380]; with_reducible exact H) | (have H2_ := (Option.bind_some _ _).symm.trans H; rw [hy380]; with_reducible exact H2_) | (have H2_ := (Option.bind_some _ _).symm.trans H; with_reducible exact H2_) | with_reducible exact H | (rw [hy380]; exact H) | exact H
           have Ny380 := zab.mk hy380; clear hy380; replace H := Option.bind_eq_some_iff.mp H
           obtain ⟨⟨t383, t384, t385, t386⟩, A1560, H⟩ := H
           replace H : (if 0 ≤ t383 then (if t383 < (y380.length : Int) then (some (rd y380 t383, t384, t385, t386)) else (none)) else (none)) = some (r1, r2, r3, r4) := H
           have A156 := zab.mk A1560; clear A1560
           by_cases c157 : 0 ≤ t383
           ·rw [if_pos c157] at H
            have c157b0 : decide (0 ≤ t383) = true := decide_eq_true c157
            clear c157
            by_cases c158 : t383 < (y380.length : Int)
            ·rw [if_pos c158] at H
             have c158b0 : decide (t383 < (y380.length : Int)) = true := decide_eq_true c158
             clear c158
             simp only [Option.some.injEq, Prod.mk.injEq] at H
             obtain ⟨rfl, rfl, rfl, rfl⟩ := H
             go_wp2_with (first | ((with_reducible refine zan (f := 19) rfl ?_); refine zaN (some 182) rfl rfl Tryd.func19 (by kernel_rfl) rfl #[.pointer (some ⟨g, 0, none⟩), .int .i64 12288] rfl (by (try simp only [List.map_toArray, List.map_cons, List.map_nil]); first | done | rfl | (simp only [List.length_drop, List.length_take]; rfl)) ?_; (with_reducible refine (zaj.calls g s0_0 t177 t178 t179 12288 t368 t369 t370 t371 w0 _ ?side1 ?side2 A153.out).mono ?_); (case side1 => exact HI0.out); (case side2 => exact HB.out); rintro e w159 ⟨rfl, hi, hb, hk⟩; refine ⟨_, rfl, ?_⟩; have n0_ := zab.mk (KeepBut.trans HK.out hk (.inl rfl)); have n1_ := zab.mk (hb); have n2_ := zab.mk (hi); clear HK HB HI0; have HK := n0_; have HB := n1_; have HI0 := n2_; clear n0_ n1_ n2_; (try clear hb); (try clear hb2); (try clear hk); (try clear hi)) | ((with_reducible refine zan (f := 19) rfl ?_); refine zaN (some 185) rfl rfl Tryd.func19 (by kernel_rfl) rfl #[.pointer (some ⟨g, 0, none⟩), .int .i64 4096] rfl (by (try simp only [List.map_toArray, List.map_cons, List.map_nil]); first | done | rfl | (simp only [List.length_drop, List.length_take]; rfl)) ?_; (with_reducible refine (zaj.calls g s0_0 t369 t370 t371 4096 t372 t373 t374 t375 w0 _ ?side1 ?side2 A154.out).mono ?_); (case side1 => exact HI0.out); (case side2 => exact HB.out); rintro e w160 ⟨rfl, hi, hb, hk⟩; refine ⟨_, rfl, ?_⟩; have n0_ := zab.mk (KeepBut.trans HK.out hk (.inl rfl)); have n1_ := zab.mk (hb); have n2_ := zab.mk (hi); clear HK HB HI0; have HK := n0_; have HB := n1_; have HI0 := n2_; clear n0_ n1_ n2_; (try clear hb); (try clear hb2); (try clear hk); (try clear hi)) | ((with_reducible refine zan (f := 19) rfl ?_); refine zaN (some 188) rfl rfl Tryd.func19 (by kernel_rfl) rfl #[.pointer (some ⟨g, 0, none⟩), .int .i64 32768] rfl (by (try simp only [List.map_toArray, List.map_cons, List.map_nil]); first | done | rfl | (simp only [List.length_drop, List.length_take]; rfl)) ?_; (with_reducible refine (zaj.calls g s0_0 t373 t374 t375 32768 t376 t377 t378 t379 w0 _ ?side1 ?side2 A155.out).mono ?_); (case side1 => exact HI0.out); (case side2 => exact HB.out); rintro e w161 ⟨rfl, hi, hb, hk⟩; refine ⟨_, rfl, ?_⟩; have n0_ := zab.mk (KeepBut.trans HK.out hk (.inl rfl)); have n1_ := zab.mk (hb); have n2_ := zab.mk (hi); clear HK HB HI0; have HK := n0_; have HB := n1_; have HI0 := n2_; clear n0_ n1_ n2_; (try clear hb); (try clear hb2); (try clear hk); (try clear hi)) | ((with_reducible refine zbb (N := 189) rfl ?_); refine Kd.R_lit (Kd.int .i64) _ 2 ?hg (N := 189) ?hd (xs := ([65533, wrap64 (20480 + t368), wrap64 (65536 + t372), 1114111, 65535, t376] : List Int)) (inner := [.int .i64 65533, .int .i64 (wrap64 (20480 + t368)), .int .i64 (wrap64 (65536 + t372)), .int .i64 1114111, .int .i64 65535, .int .i64 t376]) (ok := fun _ => True) (okp := fun _ => True) ?hr ?hp (fun _ hk => hk) trivial (Below.refl _ _) (Nat.le_refl _) (by simp) ?_; (case hd => rfl); (case hg => rfl); (case hr => first | (go_simp; done) | (go_simp; rfl)); (case hp => exact (Reps.one (show Kd.M (Kd.int .i64) _ _ _ 65533 [.int .i64 65533] from rfl) (Reps.one (show Kd.M (Kd.int .i64) _ _ _ (wrap64 (20480 + t368)) [.int .i64 (wrap64 (20480 + t368))] from rfl) (Reps.one (show Kd.M (Kd.int .i64) _ _ _ (wrap64 (65536 + t372)) [.int .i64 (wrap64 (65536 + t372))] from rfl) (Reps.one (show Kd.M (Kd.int .i64) _ _ _ 1114111 [.int .i64 1114111] from rfl) (Reps.one (show Kd.M (Kd.int .i64) _ _ _ 65535 [.int .i64 65535] from rfl) (Reps.one (show Kd.M (Kd.int .i64) _ _ _ t376 [.int .i64 t376] from rfl) (Reps.none _ _)))))))); intro v381 w162 ho163 hb hg_ hnew_; clear hg_ hnew_; (first | rw [← Ny380.out] at ho163 | (simp only [Int.reduceToNat] at ho163; rw [← Ny380.out] at ho163)); have n0_ := zab.mk (Kd.zbm ho163 (zbB (w := w) (g := g) (row := none) HK.out)); have n1_ := zab.mk (zaf.below HI0.out hb); have n2_ := zab.mk (KeepBut.trans HK.out (KeepBut.of_below hb g none) (.inl rfl)); have n3_ := zab.mk (zau HB.out hb); clear HI0 HK HB; have HO382 := n0_; have HI0 := n1_; have HK := n2_; have HB := n3_; clear n0_ n1_ n2_ n3_ hb ho163) | ((with_reducible refine zan (f := 19) rfl ?_); refine zaN (some 191) rfl rfl Tryd.func19 (by kernel_rfl) rfl #[.pointer (some ⟨g, 0, none⟩), .int .i64 6] rfl (by (try simp only [List.map_toArray, List.map_cons, List.map_nil]); first | done | rfl | (simp only [List.length_drop, List.length_take]; rfl)) ?_; (with_reducible refine (zaj.calls g s0_0 t377 t378 t379 6 t383 t384 t385 t386 w0 _ ?side1 ?side2 A156.out).mono ?_); (case side1 => exact HI0.out); (case side2 => exact HB.out); rintro e w164 ⟨rfl, hi, hb, hk⟩; refine ⟨_, rfl, ?_⟩; have n0_ := zab.mk (Kd.za7 (Kd.R_keep (zaf.apart (show zaf w0 _ g s0_0 t377 t378 t379 from by repeat (first | (with_reducible first | exact HI0.out | apply zaf.alloc | apply zaf.drewN | apply zaf.drew | apply zaf.zaX | apply zaf.zaW | apply zaf.zaY) | exact HI0.out)) HO382.out (by decide)) hk (fun _ h => h.2)) (fun _ h => h.1)); have n1_ := zab.mk (KeepBut.trans HK.out hk (.inl rfl)); have n2_ := zab.mk (hb); have n3_ := zab.mk (hi); clear HO382 HK HB HI0; have HO382 := n0_; have HK := n1_; have HB := n2_; have HI0 := n3_; clear n0_ n1_ n2_ n3_; (try clear hb); (try clear hb2); (try clear hk); (try clear hi); obtain ⟨Ao165, co165, eo165⟩ := Kd.zbr HO382.out; subst eo165; have p387 : 0 ≤ (t383 : Int) := of_decide_eq_true (by first | (with_reducible assumption) | assumption); have q387 : t383 < (y380.length : Int) := of_decide_eq_true (by first | (with_reducible assumption) | assumption); obtain ⟨ad387, e387, hx387_0⟩ := Kd.at_int (Kd.zbl HO382.out).2.2 t383 p387 q387; cases e387; replace p387 := eq_true p387; replace q387 := eq_true q387))
             go_ret
             exact ⟨by first | rfl | (simp [zar, zas] <;> rfl) | (simp [*, zar, zas] <;> rfl), by repeat (first | (with_reducible first | exact HI0.out | apply zaf.alloc | apply zaf.drewN | apply zaf.drew | apply zaf.zaX | apply zaf.zaW | apply zaf.zaY) | exact HI0.out), by repeat (first | (with_reducible first | exact HB.out | apply zad | apply zaa | apply zac | refine zae ?_ (zaf.ge HI0.out)) | exact HB.out), by repeat (first | (with_reducible first | exact HK.out | apply KeepBut.set_ | apply zao | apply zaq | apply keep_alloc) | exact HK.out)⟩
            rw [if_neg c158] at H
            exact absurd H (by simp)
           rw [if_neg c157] at H
           exact absurd H (by simp)
end Go.Proofs.YtfafjbolmeimmaaDoor.P
