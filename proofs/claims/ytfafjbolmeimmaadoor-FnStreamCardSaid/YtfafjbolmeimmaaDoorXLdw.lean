/- The reference's reader of bytes in the forms of sixteens and of whole numbers: one step. -/
import Derived.Test.YtfafjbolmeimmaaDoorXLde
import Derived.Test.YtfafjbolmeimmaaDoorF2
namespace Go.Proofs.YtfafjbolmeimmaaDoor.P
open Go.RowKit Go.Proofs.YtfafjbolmeimmaaDoorW.PrintWords Go.Proofs.YtfafjbolmeimmaaDoorW.PrintLast Go.Proofs.YtfafjbolmeimmaaDoorW.PrintMore
set_option linter.unusedVariables false
set_option linter.unusedSimpArgs false
theorem u2_lt_ (b : Bool) (D : ByteArray) (i : Nat) : u2 b D i < 65536 := by
 unfold u2
 have := bN_lt D i
 have := bN_lt D (i + 1)
 split <;> omega
theorem u4_lt_ (b : Bool) (D : ByteArray) (i : Nat) : u4 b D i < 4294967296 := by
 unfold u4
 have := bN_lt D i
 have := bN_lt D (i + 1)
 have := bN_lt D (i + 2)
 have := bN_lt D (i + 3)
 split <;> omega
set_option maxHeartbeats 4000000 in
set_option maxRecDepth 100000 in
theorem wide_calls (g : Nat) (D : ByteArray) (little last : Bool) (pts brk : List Int) (u : Nat) (r : Bool × List Int × List Int × Nat) (w0 w : World) (hr : nx (pcWide (!little) D u D.size) last pts brk u = r) (hD : D.size ≤ 1099511627776) (hu : u < D.size) (hI : RD w0 w g pts brk (u : Int)) (hB : Below w0.heap.size w0 w) (hL : pts.length ≤ u) (hL2 : brk.length ≤ u) :
  Calls Tryd.prog 38 #[.pointer (some ⟨g, 0, none⟩), .string D, .bool little, .bool last] w fun e w' => e = .returned (.bool r.1) ∧ RD w0 w' g r.2.1 r.2.2.1 (r.2.2.2 : Int) ∧ Below w0.heap.size w0 w' := by
 have HB := zab.mk hB; have HI := zab.mk hI; have LM := zab.mk hL; have LM2 := zab.mk hL2; have HD := zab.mk hD; have HU := zab.mk hu
 have hz2 : w.cell? ⟨g, 2, none⟩ = some (.int .i64 (u : Int)) := by obtain ⟨vp, vb, BK, _⟩ := hI; exact (zal BK 2).trans rfl
 unfold pcWide at hr
 obtain ⟨lf, hlf⟩ : ∃ lf : Nat, D.size - u = lf := ⟨_, rfl⟩
 have hsz : u + lf = D.size := by omega
 rw [hlf] at hr
 have s1 : wrap64 ((D.size : Int) - (u : Int)) = (lf : Int) := by rw [w64 (by omega) (by omega)]; omega
 have HSZ := zab.mk hsz; clear hB hI hL hL2 hlf hsz
 by_cases c4 : lf < 4
 ·as_aux_lemma =>
  have d1 : decide ((lf : Int) < 4) = true := decide_eq_true (by omega)
  rw [if_pos c4] at hr
  cases last with
  | true =>
   have er : r = (true, pts ++ [65533], brk ++ [(u : Int)], u + lf) := by rw [nx_bad _ _ _ _ _ _ _ (.inr rfl)] at hr; exact hr.symm
   have ER := zab.mk er; clear er hr c4 hD hu
   go_enter Tryd.func38, Tryd.ntmps38
   go_wp2_with (fail)
   refine (piece_calls g (lf : Int) pts brk (u : Int) w0 _ HI.out HB.out (by have := LM.out; have := HU.out; have := HD.out; omega) (by have := LM2.out; have := HU.out; have := HD.out; omega)).mono ?_
   rintro e w2 ⟨rfl, hi, hb⟩
   have HI2 := zab.mk hi; have HB2 := zab.mk hb; clear hi hb
   have ew : wrap64 ((u : Int) + (lf : Int)) = ((u + lf : Nat) : Int) := by rw [w64 (by have := HU.out; have := HD.out; have := HSZ.out; omega) (by have := HU.out; have := HD.out; have := HSZ.out; omega)]; omega
   have EW := zab.mk ew; clear ew
   go_wp2
   go_ret
   rw [ER.out]
   exact ⟨by first | rfl | (simp; done), by have := HI2.out; rw [EW.out] at this; exact this, HB2.out⟩
  | false =>
   have er : r = (false, pts, brk, u) := by rw [nx_wait] at hr; exact hr.symm
   have ER := zab.mk er; clear er hr c4 hD hu
   go_enter Tryd.func38, Tryd.ntmps38
   go_wp2
   go_ret
   rw [ER.out]
   exact ⟨by first | rfl | (simp; done), HI.out, HB.out⟩
 have d1 : decide ((lf : Int) < 4) = false := decide_eq_false (by omega)
 rw [if_neg c4] at hr
 have C4 := zab.mk c4; have HR := zab.mk hr; clear c4 hr hD hu
 go_enter Tryd.func38, Tryd.ntmps38
 replace HSZ := zab.mk (show u + lf = D.size ∧ 4 ≤ lf from ⟨HSZ.out, by have := C4.out; omega⟩)
 obtain ⟨K, hKK⟩ := (unit4_ev D u (by have := HSZ.out; omega) little).rounds
 have HK := zab.mk hKK
 have hvv := u4_lt_ (!little) D u
 have q2 : (0 ≤ (u : Int)) = True := eq_true (by have := HU.out; omega)
 have q3 : ((u : Int) ≤ (u : Int) + 4) = True := eq_true (by omega)
 have q4 : ((u : Int) + 4 ≤ (D.size : Int)) = True := eq_true (by have := HSZ.out; omega)
 have q5 : ((u : Int) + 4).toNat = u + 4 := by omega
 have q6 : ((u : Int)).toNat = u := by omega
 have w2_ : IntKind.i64.wrap ((u : Int) + 4) = (u : Int) + 4 := by rw [wrapEq_, w64 (by have := HU.out; have := HD.out; omega) (by have := HU.out; have := HD.out; omega)]
 have HVv := zab.mk hvv; clear hKK hvv
 go_upto_region 6 with (fail)
 go_quiet ((go_at_call 57; refine Calls.quiet_of (v := .int .i64 (u4 (!little) D u : Int)) ((za8.calls K (D.extract u (u + 4)) little _ _ HK.out).mono ?_); rintro e w' ⟨rfl, m, rfl⟩; exact ⟨rfl, m, rfl⟩))
 clear q2 q3 q4 q5 q6 w2_
 have HIx := zab.mk (HI.out.drewN nq)
 have HBx := zab.mk (zaa HB.out nq)
 clear hz2 HI HB
 generalize w.drewN nq = wx at *
 have hp := isPoint_eq (u4 (!little) D u : Int)
 have HP := zab.mk hp; clear hp
 have hr := HR.out
 clear HR
 generalize u4 (!little) D u = v at *
 by_cases ci : isPt (v : Int) = true
 ·as_aux_lemma =>
   rw [if_pos ci, nx_good] at hr
   have ER := zab.mk hr.symm; clear hr
   go_wp2_with (fail)
   refine (zbA.calls (v : Int) true _ (by have := HP.out; rw [ci] at this; exact this)).mono ?_
   rintro e w' ⟨rfl, m, rfl⟩
   have HIy := zab.mk (HIx.out.drewN m)
   have HBy := zab.mk (zaa HBx.out m)
   clear HIx HBx
   generalize wx.drewN m = wy at *
   go_wp2_with (fail)
   refine (point_calls g (v : Int) 4 pts brk (u : Int) w0 _ HIy.out HBy.out (by have := LM.out; have := HU.out; have := HD.out; omega)).mono ?_
   rintro e w2 ⟨rfl, hi, hb⟩
   have HI2 := zab.mk hi; have HB2 := zab.mk hb; clear hi hb
   have ew : wrap64 ((u : Int) + 4) = ((u + 4 : Nat) : Int) := by rw [w64 (by have := HU.out; have := HD.out; have := HSZ.out; omega) (by have := HU.out; have := HD.out; have := HSZ.out; omega)]; omega
   have EW := zab.mk ew; clear ew
   go_wp2
   go_ret
   rw [ER.out]
   exact ⟨by first | rfl | (simp; done), by have := HI2.out; rw [EW.out] at this; exact this, HB2.out⟩
 as_aux_lemma =>
  replace ci := Bool.eq_false_iff.2 ci
  rw [ci, if_neg (by simp), nx_bad _ _ _ _ _ _ _ (.inl rfl)] at hr
  have ER := zab.mk hr.symm; clear hr
  go_wp2_with (fail)
  refine (zbA.calls (v : Int) false _ (by have := HP.out; rw [ci] at this; exact this)).mono ?_
  rintro e w' ⟨rfl, m, rfl⟩
  have HIy := zab.mk (HIx.out.drewN m)
  have HBy := zab.mk (zaa HBx.out m)
  clear HIx HBx
  generalize wx.drewN m = wy at *
  go_wp2_with (fail)
  refine (piece_calls g 4 pts brk (u : Int) w0 _ HIy.out HBy.out (by have := LM.out; have := HU.out; have := HD.out; omega) (by have := LM2.out; have := HU.out; have := HD.out; omega)).mono ?_
  rintro e w2 ⟨rfl, hi, hb⟩
  have HI2 := zab.mk hi; have HB2 := zab.mk hb; clear hi hb
  have ew : wrap64 ((u : Int) + 4) = ((u + 4 : Nat) : Int) := by rw [w64 (by have := HU.out; have := HD.out; have := HSZ.out; omega) (by have := HU.out; have := HD.out; have := HSZ.out; omega)]; omega
  have EW := zab.mk ew; clear ew
  go_wp2
  go_ret
  rw [ER.out]
  exact ⟨by first | rfl | (simp; done), by have := HI2.out; rw [EW.out] at this; exact this, HB2.out⟩
set_option maxHeartbeats 4000000 in
set_option maxRecDepth 100000 in
theorem sixteen_calls (g : Nat) (D : ByteArray) (little last : Bool) (pts brk : List Int) (u : Nat) (r : Bool × List Int × List Int × Nat) (w0 w : World) (hr : nx (pcSixteen (!little) D u D.size) last pts brk u = r) (hD : D.size ≤ 1099511627776) (hu : u < D.size) (hI : RD w0 w g pts brk (u : Int)) (hB : Below w0.heap.size w0 w) (hL : pts.length ≤ u) (hL2 : brk.length ≤ u) :
  Calls Tryd.prog 39 #[.pointer (some ⟨g, 0, none⟩), .string D, .bool little, .bool last] w fun e w' => e = .returned (.bool r.1) ∧ RD w0 w' g r.2.1 r.2.2.1 (r.2.2.2 : Int) ∧ Below w0.heap.size w0 w' := by
 have HB := zab.mk hB; have HI := zab.mk hI; have LM := zab.mk hL; have LM2 := zab.mk hL2; have HD := zab.mk hD; have HU := zab.mk hu
 have hz2 : w.cell? ⟨g, 2, none⟩ = some (.int .i64 (u : Int)) := by obtain ⟨vp, vb, BK, _⟩ := hI; exact (zal BK 2).trans rfl
 unfold pcSixteen at hr
 obtain ⟨lf, hlf⟩ : ∃ lf : Nat, D.size - u = lf := ⟨_, rfl⟩
 have hsz : u + lf = D.size := by omega
 rw [hlf] at hr
 have s1 : wrap64 ((D.size : Int) - (u : Int)) = (lf : Int) := by rw [w64 (by omega) (by omega)]; omega
 have HSZ := zab.mk hsz; clear hB hI hL hL2 hlf hsz
 by_cases c1 : lf < 2
 ·as_aux_lemma =>
  have hl1 : lf = 1 := by have := HSZ.out; omega
  have d1 : ((lf : Int) == 1) = true := beq_iff_eq.mpr (by omega)
  rw [if_pos c1] at hr
  cases last with
  | true =>
   have er : r = (true, pts ++ [65533], brk ++ [(u : Int)], u + 1) := by rw [nx_bad _ _ _ _ _ _ _ (.inr rfl), hl1] at hr; exact hr.symm
   have ER := zab.mk er; clear er hr c1 hD hu hl1
   go_enter Tryd.func39, Tryd.ntmps39
   go_wp2_with (fail)
   refine (piece_calls g 1 pts brk (u : Int) w0 _ HI.out HB.out (by have := LM.out; have := HU.out; have := HD.out; omega) (by have := LM2.out; have := HU.out; have := HD.out; omega)).mono ?_
   rintro e w2 ⟨rfl, hi, hb⟩
   have HI2 := zab.mk hi; have HB2 := zab.mk hb; clear hi hb
   have ew : wrap64 ((u : Int) + 1) = ((u + 1 : Nat) : Int) := by rw [w64 (by have := HU.out; have := HD.out; have := HSZ.out; omega) (by have := HU.out; have := HD.out; have := HSZ.out; omega)]; omega
   have EW := zab.mk ew; clear ew
   go_wp2
   go_ret
   rw [ER.out]
   exact ⟨by first | rfl | (simp; done), by have := HI2.out; rw [EW.out] at this; exact this, HB2.out⟩
  | false =>
   have er : r = (false, pts, brk, u) := by rw [nx_wait] at hr; exact hr.symm
   have ER := zab.mk er; clear er hr c1 hD hu hl1
   go_enter Tryd.func39, Tryd.ntmps39
   go_wp2
   go_ret
   rw [ER.out]
   exact ⟨by first | rfl | (simp; done), HI.out, HB.out⟩
 have d1 : ((lf : Int) == 1) = false := beq_eq_false_iff_ne.mpr (by omega)
 rw [if_neg c1] at hr
 replace HSZ := zab.mk (show u + lf = D.size ∧ 2 ≤ lf from ⟨HSZ.out, by omega⟩)
 have HR := zab.mk hr; clear c1 hr hD hu
 go_enter Tryd.func39, Tryd.ntmps39
 obtain ⟨K, hKK⟩ := (unit2_ev D u (by have := HSZ.out; omega) little).rounds
 have HK := zab.mk hKK
 have hvv := u2_lt_ (!little) D u
 have q2 : (0 ≤ (u : Int)) = True := eq_true (by have := HU.out; omega)
 have q3 : ((u : Int) ≤ (u : Int) + 2) = True := eq_true (by omega)
 have q4 : ((u : Int) + 2 ≤ (D.size : Int)) = True := eq_true (by have := HSZ.out; omega)
 have q5 : ((u : Int) + 2).toNat = u + 2 := by omega
 have q6 : ((u : Int)).toNat = u := by omega
 have w2_ : IntKind.i64.wrap ((u : Int) + 2) = (u : Int) + 2 := by rw [wrapEq_, w64 (by have := HU.out; have := HD.out; omega) (by have := HU.out; have := HD.out; omega)]
 have HVv := zab.mk hvv; clear hKK hvv
 go_upto_region 6 with (fail)
 go_quiet ((go_at_call 57; refine Calls.quiet_of (v := .int .i64 (u2 (!little) D u : Int)) ((za8.calls K (D.extract u (u + 2)) little _ _ HK.out).mono ?_); rintro e w' ⟨rfl, m, rfl⟩; exact ⟨rfl, m, rfl⟩))
 clear q2 q3 q4 q5 q6 w2_
 have HIx := zab.mk (HI.out.drewN nq)
 have HBx := zab.mk (zaa HB.out nq)
 clear HI HB
 have hr := HR.out
 clear HR
 have hz2 : (w.drewN nq).cell? ⟨g, 2, none⟩ = some (.int .i64 (u : Int)) := by obtain ⟨vp, vb, BK, _⟩ := HIx.out; exact (zal BK 2).trans rfl
 generalize w.drewN nq = wx at *
 have hv := HVv.out
 generalize hv0 : u2 (!little) D u = v at *
 by_cases e1 : v < 55296 ∨ 57343 < v
 ·as_aux_lemma =>
   rw [if_pos e1, nx_good] at hr
   have ER := zab.mk hr.symm; clear hr
   by_cases e2 : v < 55296
   ·have x1 : decide ((v : Int) < 55296) = true := decide_eq_true (by omega)
    clear e1 e2 hv hv0
    go_wp2_with (fail)
    refine (point_calls g (v : Int) 2 pts brk (u : Int) w0 _ HIx.out HBx.out (by have := LM.out; have := HU.out; have := HD.out; omega)).mono ?_
    rintro e w2 ⟨rfl, hi, hb⟩
    have HI2 := zab.mk hi; have HB2 := zab.mk hb; clear hi hb
    have ew : wrap64 ((u : Int) + 2) = ((u + 2 : Nat) : Int) := by rw [w64 (by have := HU.out; have := HD.out; have := HSZ.out; omega) (by have := HU.out; have := HD.out; have := HSZ.out; omega)]; omega
    have EW := zab.mk ew; clear ew
    go_wp2
    go_ret
    rw [ER.out]
    exact ⟨by first | rfl | (simp; done), by have := HI2.out; rw [EW.out] at this; exact this, HB2.out⟩
   have x1 : decide ((v : Int) < 55296) = false := decide_eq_false (by omega)
   have x2 : decide ((57343 : Int) < (v : Int)) = true := decide_eq_true (by omega)
   clear e1 e2 hv hv0
   go_wp2_with (fail)
   refine (point_calls g (v : Int) 2 pts brk (u : Int) w0 _ HIx.out HBx.out (by have := LM.out; have := HU.out; have := HD.out; omega)).mono ?_
   rintro e w2 ⟨rfl, hi, hb⟩
   have HI2 := zab.mk hi; have HB2 := zab.mk hb; clear hi hb
   have ew : wrap64 ((u : Int) + 2) = ((u + 2 : Nat) : Int) := by rw [w64 (by have := HU.out; have := HD.out; have := HSZ.out; omega) (by have := HU.out; have := HD.out; have := HSZ.out; omega)]; omega
   have EW := zab.mk ew; clear ew
   go_wp2
   go_ret
   rw [ER.out]
   exact ⟨by first | rfl | (simp; done), by have := HI2.out; rw [EW.out] at this; exact this, HB2.out⟩
 rw [if_neg e1] at hr
 have x1 : decide ((v : Int) < 55296) = false := decide_eq_false (by omega)
 have x2 : decide ((57343 : Int) < (v : Int)) = false := decide_eq_false (by omega)
 by_cases e3 : 56320 ≤ v
 ·as_aux_lemma =>
   rw [if_pos e3, nx_bad _ _ _ _ _ _ _ (.inl rfl)] at hr
   have ER := zab.mk hr.symm
   have x3 : decide ((56319 : Int) < (v : Int)) = true := decide_eq_true (by omega)
   clear hr e1 e3 hv hv0
   go_wp2_with (fail)
   refine (piece_calls g 2 pts brk (u : Int) w0 _ HIx.out HBx.out (by have := LM.out; have := HU.out; have := HD.out; omega) (by have := LM2.out; have := HU.out; have := HD.out; omega)).mono ?_
   rintro e w2 ⟨rfl, hi, hb⟩
   have HI2 := zab.mk hi; have HB2 := zab.mk hb; clear hi hb
   have ew : wrap64 ((u : Int) + 2) = ((u + 2 : Nat) : Int) := by rw [w64 (by have := HU.out; have := HD.out; have := HSZ.out; omega) (by have := HU.out; have := HD.out; have := HSZ.out; omega)]; omega
   have EW := zab.mk ew; clear ew
   go_wp2
   go_ret
   rw [ER.out]
   exact ⟨by first | rfl | (simp; done), by have := HI2.out; rw [EW.out] at this; exact this, HB2.out⟩
 rw [if_neg e3] at hr
 have x3 : decide ((56319 : Int) < (v : Int)) = false := decide_eq_false (by omega)
 by_cases c4 : lf < 4
 ·as_aux_lemma =>
   rw [if_pos c4] at hr
   have x4 : decide ((lf : Int) < 4) = true := decide_eq_true (by omega)
   cases last with
   | true =>
    rw [nx_bad _ _ _ _ _ _ _ (.inr rfl)] at hr
    have ER := zab.mk hr.symm; clear hr e1 e3 c4 hv hv0
    go_wp2_with (fail)
    refine (piece_calls g 2 pts brk (u : Int) w0 _ HIx.out HBx.out (by have := LM.out; have := HU.out; have := HD.out; omega) (by have := LM2.out; have := HU.out; have := HD.out; omega)).mono ?_
    rintro e w2 ⟨rfl, hi, hb⟩
    have HI2 := zab.mk hi; have HB2 := zab.mk hb; clear hi hb
    have ew : wrap64 ((u : Int) + 2) = ((u + 2 : Nat) : Int) := by rw [w64 (by have := HU.out; have := HD.out; have := HSZ.out; omega) (by have := HU.out; have := HD.out; have := HSZ.out; omega)]; omega
    have EW := zab.mk ew; clear ew
    go_wp2
    go_ret
    rw [ER.out]
    exact ⟨by first | rfl | (simp; done), by have := HI2.out; rw [EW.out] at this; exact this, HB2.out⟩
   | false =>
    rw [nx_wait] at hr
    have ER := zab.mk hr.symm; clear hr e1 e3 c4 hv hv0
    go_wp2
    go_ret
    rw [ER.out]
    exact ⟨by first | rfl | (simp; done), HIx.out, HBx.out⟩
 rw [if_neg c4] at hr
 have x4 : decide ((lf : Int) < 4) = false := decide_eq_false (by omega)
 replace HSZ := zab.mk (show u + lf = D.size ∧ 4 ≤ lf from ⟨HSZ.out.1, by omega⟩)
 have HV0 := zab.mk (show v < 65536 ∧ 55296 ≤ v ∧ v < 56320 from ⟨hv, by omega, by omega⟩)
 have HR := zab.mk hr; clear hr e1 e3 c4 hv hv0 HVv HK
 obtain ⟨K2, hKK2⟩ := (unit2_ev D (u + 2) (by have := HSZ.out; omega) little).rounds
 have HK2 := zab.mk hKK2
 have hvy := u2_lt_ (!little) D (u + 2)
 have q2 : (0 ≤ (u : Int) + 2) = True := eq_true (by have := HU.out; omega)
 have q3 : ((u : Int) + 2 ≤ (u : Int) + 4) = True := eq_true (by omega)
 have q4 : ((u : Int) + 4 ≤ (D.size : Int)) = True := eq_true (by have := HSZ.out; omega)
 have q5 : ((u : Int) + 4).toNat = u + 4 := by omega
 have q6 : ((u : Int) + 2).toNat = u + 2 := by omega
 have w2_ : IntKind.i64.wrap ((u : Int) + 4) = (u : Int) + 4 := by rw [wrapEq_, w64 (by have := HU.out; have := HD.out; omega) (by have := HU.out; have := HD.out; omega)]
 have w1_ : IntKind.i64.wrap ((u : Int) + 2) = (u : Int) + 2 := by rw [wrapEq_, w64 (by have := HU.out; have := HD.out; omega) (by have := HU.out; have := HD.out; omega)]
 have HVy := zab.mk hvy; clear hKK2 hvy
 go_upto_region 7 with (fail)
 go_quiet ((go_at_call 57; refine Calls.quiet_of (v := .int .i64 (u2 (!little) D (u + 2) : Int)) ((za8.calls K2 (D.extract (u + 2) (u + 4)) little _ _ HK2.out).mono ?_); rintro e w' ⟨rfl, m, rfl⟩; exact ⟨rfl, m, rfl⟩))
 clear q2 q3 q4 q5 q6 w2_ w1_
 have HIy := zab.mk (HIx.out.drewN nq)
 have HBy := zab.mk (zaa HBx.out nq)
 clear HIx HBx hz2
 generalize wx.drewN nq = wy at *
 have hr := HR.out
 clear HR
 have hv := HVy.out
 generalize u2 (!little) D (u + 2) = y at *
 clear x1 x2 x3 x4
 by_cases e4 : 56320 ≤ y ∧ y ≤ 57343
 ·as_aux_lemma =>
   rw [if_pos e4, nx_good] at hr
   have ER := zab.mk hr.symm
   have y1 : decide ((y : Int) < 56320) = false := decide_eq_false (by omega)
   have y2 : decide ((57343 : Int) < (y : Int)) = false := decide_eq_false (by omega)
   have hv0 := HV0.out
   have m1 : wrap64 ((v : Int) - 55296) = (v : Int) - 55296 := by rw [w64 (by omega) (by omega)]
   have m2 : wrap64 (((v : Int) - 55296) * 1024) = ((v : Int) - 55296) * 1024 := by rw [w64 (by clear m1; omega) (by clear m1; omega)]
   have m3 : wrap64 (65536 + ((v : Int) - 55296) * 1024) = 65536 + ((v : Int) - 55296) * 1024 := by rw [w64 (by clear m1 m2; omega) (by clear m1 m2; omega)]
   have m4 : wrap64 (65536 + ((v : Int) - 55296) * 1024 + (y : Int)) = 65536 + ((v : Int) - 55296) * 1024 + (y : Int) := by rw [w64 (by clear m1 m2 m3; omega) (by clear m1 m2 m3; omega)]
   have m5 : wrap64 (65536 + ((v : Int) - 55296) * 1024 + (y : Int) - 56320) = 65536 + ((v : Int) - 55296) * 1024 + (y : Int) - 56320 := by rw [w64 (by clear m1 m2 m3 m4; omega) (by clear m1 m2 m3 m4; omega)]
   clear hr e4 hv hv0
   go_wp2_with (fail)
   refine (point_calls g (65536 + ((v : Int) - 55296) * 1024 + (y : Int) - 56320) 4 pts brk (u : Int) w0 _ HIy.out HBy.out (by have := LM.out; have := HU.out; have := HD.out; omega)).mono ?_
   rintro e w2 ⟨rfl, hi, hb⟩
   have HI2 := zab.mk hi; have HB2 := zab.mk hb; clear hi hb
   have ew : wrap64 ((u : Int) + 4) = ((u + 4 : Nat) : Int) := by rw [w64 (by have := HU.out; have := HD.out; have := HSZ.out; omega) (by have := HU.out; have := HD.out; have := HSZ.out; omega)]; omega
   have EW := zab.mk ew; clear ew
   go_wp2
   go_ret
   rw [ER.out]
   exact ⟨by first | rfl | (simp; done), by have := HI2.out; rw [EW.out] at this; exact this, HB2.out⟩
 as_aux_lemma =>
  rw [if_neg e4, nx_bad _ _ _ _ _ _ _ (.inl rfl)] at hr
  have ER := zab.mk hr.symm
  by_cases e5 : y < 56320
  ·have y1 : decide ((y : Int) < 56320) = true := decide_eq_true (by omega)
   clear hr e4 e5 hv
   go_wp2_with (fail)
   refine (piece_calls g 2 pts brk (u : Int) w0 _ HIy.out HBy.out (by have := LM.out; have := HU.out; have := HD.out; omega) (by have := LM2.out; have := HU.out; have := HD.out; omega)).mono ?_
   rintro e w2 ⟨rfl, hi, hb⟩
   have HI2 := zab.mk hi; have HB2 := zab.mk hb; clear hi hb
   have ew : wrap64 ((u : Int) + 2) = ((u + 2 : Nat) : Int) := by rw [w64 (by have := HU.out; have := HD.out; have := HSZ.out; omega) (by have := HU.out; have := HD.out; have := HSZ.out; omega)]; omega
   have EW := zab.mk ew; clear ew
   go_wp2
   go_ret
   rw [ER.out]
   exact ⟨by first | rfl | (simp; done), by have := HI2.out; rw [EW.out] at this; exact this, HB2.out⟩
  have y1 : decide ((y : Int) < 56320) = false := decide_eq_false (by omega)
  have y2 : decide ((57343 : Int) < (y : Int)) = true := decide_eq_true (by omega)
  clear hr e4 e5 hv
  go_wp2_with (fail)
  refine (piece_calls g 2 pts brk (u : Int) w0 _ HIy.out HBy.out (by have := LM.out; have := HU.out; have := HD.out; omega) (by have := LM2.out; have := HU.out; have := HD.out; omega)).mono ?_
  rintro e w2 ⟨rfl, hi, hb⟩
  have HI2 := zab.mk hi; have HB2 := zab.mk hb; clear hi hb
  have ew : wrap64 ((u : Int) + 2) = ((u + 2 : Nat) : Int) := by rw [w64 (by have := HU.out; have := HD.out; have := HSZ.out; omega) (by have := HU.out; have := HD.out; have := HSZ.out; omega)]; omega
  have EW := zab.mk ew; clear ew
  go_wp2
  go_ret
  rw [ER.out]
  exact ⟨by first | rfl | (simp; done), by have := HI2.out; rw [EW.out] at this; exact this, HB2.out⟩
end Go.Proofs.YtfafjbolmeimmaaDoor.P
