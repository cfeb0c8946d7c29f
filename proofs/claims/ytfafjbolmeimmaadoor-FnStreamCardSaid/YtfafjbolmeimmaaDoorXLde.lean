/- The reference's reader of bytes in the form of eights: one step. -/
import Derived.Test.YtfafjbolmeimmaaDoorXLdp
import Derived.Test.YtfafjbolmeimmaaDoorXStB
import Derived.Deep.QuietTactic
namespace Go.Proofs.YtfafjbolmeimmaaDoor.P
open Go.RowKit Go.Proofs.YtfafjbolmeimmaaDoorW.PrintWords Go.Proofs.YtfafjbolmeimmaaDoorW.PrintLast Go.Proofs.YtfafjbolmeimmaaDoorW.PrintMore
set_option linter.unusedVariables false
set_option linter.unusedSimpArgs false
def nx (P : Pc) (last : Bool) (pts brk : List Int) (u : Nat) : Bool × List Int × List Int × Nat :=
 if P.2.2.2 = true ∧ last = false then (false, pts, brk, u) else (true, pts ++ [P.1], if P.2.2.1 = true then brk ++ [(u : Int)] else brk, u + P.2.1)
theorem nx_wait (p : Int) (n : Nat) (b : Bool) (pts brk : List Int) (u : Nat) : nx (p, n, b, true) false pts brk u = (false, pts, brk, u) := by
 unfold nx; rw [if_pos ⟨rfl, rfl⟩]
theorem nx_good (p : Int) (n : Nat) (last : Bool) (pts brk : List Int) (u : Nat) : nx (p, n, false, false) last pts brk u = (true, pts ++ [p], brk, u + n) := by
 unfold nx; rw [if_neg (by simp), if_neg (by simp)]
theorem nx_bad (p : Int) (n : Nat) (w last : Bool) (pts brk : List Int) (u : Nat) (h : w = false ∨ last = true) : nx (p, n, true, w) last pts brk u = (true, pts ++ [p], brk ++ [(u : Int)], u + n) := by
 unfold nx
 rw [if_neg, if_pos rfl]
 rintro ⟨h1, h2⟩
 rcases h with h | h
 ·exact absurd (h1.symm.trans h) (by simp)
 exact absurd (h2.symm.trans h) (by simp)
theorem wrapEq_ (x : Int) : IntKind.i64.wrap x = wrap64 x := by rw [IntKind.wrap_i64]; unfold wrap64; omega
set_option maxHeartbeats 4000000 in
set_option maxRecDepth 100000 in
theorem eight_calls (g : Nat) (D : ByteArray) (last : Bool) (pts brk : List Int) (u : Nat) (r : Bool × List Int × List Int × Nat) (w0 w : World) (hr : nx (pcEight D u D.size) last pts brk u = r) (hD : D.size ≤ 1099511627776) (hu : u < D.size) (hI : RD w0 w g pts brk (u : Int)) (hB : Below w0.heap.size w0 w) (hL : pts.length ≤ u) (hL2 : brk.length ≤ u) :
  Calls Tryd.prog 37 #[.pointer (some ⟨g, 0, none⟩), .string D, .bool last] w fun e w' => e = .returned (.bool r.1) ∧ RD w0 w' g r.2.1 r.2.2.1 (r.2.2.2 : Int) ∧ Below w0.heap.size w0 w' := by
 have HB := zab.mk hB; have HI := zab.mk hI; have LM := zab.mk hL; have LM2 := zab.mk hL2; have HD := zab.mk hD; have HU := zab.mk hu
 obtain ⟨K, hK⟩ := (next_f D hD u hu).rounds
 have HK := zab.mk hK
 have hz2 : w.cell? ⟨g, 2, none⟩ = some (.int .i64 (u : Int)) := by obtain ⟨vp, vb, BK, _⟩ := hI; exact (zal BK 2).trans rfl
 have hnb : need (bN D u) = 0 ∨ run1 D u D.size ≠ need (bN D u) ↔ ¬ (need (bN D u) ≠ 0 ∧ run1 D u D.size = need (bN D u)) := by
  constructor
  ·rintro (h | h) ⟨h1, h2⟩
   ·exact h1 h
   exact h h2
  intro h
  by_cases h1 : need (bN D u) = 0
  ·exact .inl h1
  exact .inr fun h2 => h ⟨h1, h2⟩
 have HN := zab.mk hnb; have HR := zab.mk hr; clear hB hI hL hL2 hK hD hu hnb hr
 by_cases hg : need (bN D u) ≠ 0 ∧ run1 D u D.size = need (bN D u)
 ·
  obtain ⟨hd1, hd2⟩ := run1_dec D u D.size HU.out (Nat.le_refl _) hg.1 hg.2
  have e3 : (nextR (dec D u)).2.2 = true := by
   show (!((dec D u).1 == 65533 && (dec D u).2 == 1)) = true
   simp only [Bool.not_eq_true', Bool.and_eq_false_iff, beq_eq_false_iff_ne]
   by_cases a : (dec D u).1 = 65533
   ·exact .inr fun hh => hd2 ⟨a, hh⟩
   exact .inl a
  have hK2 : zaJ.f K D (u : Int) = some (((dec D u).1 : Int), ((dec D u).2 : Int), true) := by
   rw [HK.out]
   congr 1
   exact Prod.ext rfl (Prod.ext rfl e3)
  have hr2 := HR.out
  have hp : pcEight D u D.size = (((dec D u).1 : Int), (dec D u).2, false, false) := by
   unfold pcEight
   rw [if_neg (by rw [hg.2]; exact hg.1), if_pos hg.2, hd1, hg.2]
  rw [hp, nx_good] at hr2
  have HR := zab.mk hr2
  have h4 : (dec D u).2 ≤ 4 := by have := need_le (bN D u); omega
  generalize (dec D u).1 = p at *
  generalize (dec D u).2 = n at *
  clear hr2 hp e3 hd1 hd2 hg HK; have HK := zab.mk hK2; have H4 := zab.mk h4; clear h4 hK2
  go_enter Tryd.func37, Tryd.ntmps37
  go_wp2_with (fail)
  refine (zaJ.calls K D (u : Int) (p : Int) (n : Int) true _ HK.out).mono ?_
  rintro e w1 ⟨rfl, hb⟩
  have HB1 := zab.mk (zau HB.out hb)
  have HI1 := zab.mk (HI.out.below hb)
  clear hb HK
  go_wp2_with (fail)
  refine (point_calls g (p : Int) (n : Int) pts brk (u : Int) w0 _ HI1.out HB1.out (by have := LM.out; have := HU.out; have := HD.out; omega)).mono ?_
  rintro e w2 ⟨rfl, hi, hb⟩
  have HI2 := zab.mk hi; have HB2 := zab.mk hb; clear hi hb
  go_wp2
  go_ret
  rw [← HR.out]
  have ew : wrap64 ((u : Int) + (n : Int)) = ((u + n : Nat) : Int) := w_add u n (by have := HU.out; have := HD.out; have := H4.out; omega)
  exact ⟨by first | rfl | (simp; done), by have := HI2.out; rw [ew] at this; exact this, HB2.out⟩
 have hbad := HN.out.2 hg
 have hdec := run1_bad D u HU.out hbad
 have hp : pcEight D u D.size = (65533, (if run1 D u D.size = 0 then 1 else run1 D u D.size), true, (if run1 D u D.size = 0 then false else decide (u + run1 D u D.size = D.size))) := by
  unfold pcEight
  by_cases c : run1 D u D.size = 0
  ·rw [if_pos c, if_pos c, if_pos c]
  rw [if_neg c, if_neg c, if_neg c, if_neg]
  intro h
  exact hg ⟨by omega, h⟩
 have hr2 := HR.out
 rw [hp] at hr2
 have hrb := run1_bd D u D.size HU.out
 have hn4 := need_le (bN D u)
 have hbg := fun j h hj => begins_ev D u j h hbad hj
 have hK2 : zaJ.f K D (u : Int) = some (65533, 1, false) := by
  rw [HK.out, hdec]
  rfl
 have h4 : run1 D u D.size ≤ 4 := by omega
 generalize hR1 : run1 D u D.size = R at *
 have HR := zab.mk hr2; have HRb := zab.mk hrb.2; have HBG := zab.mk hbg; have H4 := zab.mk h4; clear hr2 hp hrb hn4 hbg hdec hR1 hg hbad h4 HK; have HK := zab.mk hK2; clear hK2
 go_enter Tryd.func37, Tryd.ntmps37
 go_wp2_with (fail)
 refine (zaJ.calls K D (u : Int) 65533 1 false _ HK.out).mono ?_
 rintro e w1 ⟨rfl, hb⟩
 have HB1 := zab.mk (zau HB.out hb)
 have HI1 := zab.mk (HI.out.below hb)
 clear hb HK hz2
 go_wp2_with (fail)
 go_loopw [8] (fun v8 wr => ∃ j : Nat, v8 = .int .i64 (j : Int) ∧ zab (j ≤ R) ∧ zab (RD w0 wr g pts brk (u : Int)) ∧ zab (Below w0.heap.size w0 wr)) (fun v8 wr => (R + 1 - (intOf v8).toNat))
 case atStart => exact ⟨0, rfl, ⟨Nat.zero_le _⟩, HI1, HB1⟩
 case round => as_aux_lemma =>
  clear HI1 HB1 HI HB
  obtain ⟨j, rfl, HJ, HI1, HB1⟩ := hrel
  have hz2 : wr.cell? ⟨g, 2, none⟩ = some (.int .i64 (u : Int)) := by obtain ⟨vp, vb, BK, _⟩ := HI1.out; exact (zal BK 2).trans rfl
  have hD := HD.out
  have hj := HJ.out
  have h4 := H4.out
  have hrb := HRb.out
  have hu := HU.out
  have s1 : wrap64 ((u : Int) + (j : Int)) = ((u + j : Nat) : Int) := w_add u j (by omega)
  have s2 : wrap64 (((u + j : Nat) : Int) + 1) = ((u + j + 1 : Nat) : Int) := w_succ (u + j) (by omega)
  have s3 : wrap64 ((j : Int) + 1) = ((j + 1 : Nat) : Int) := w_succ j (by omega)
  have t1 : (u : Int) + (j : Int) = ((u + j : Nat) : Int) := by omega
  have w1_ : IntKind.i64.wrap ((u : Int) + (j : Int)) = (u : Int) + (j : Int) := by rw [wrapEq_, s1, t1]
  have w1b_ : wrap64 ((u : Int) + (j : Int)) = (u : Int) + (j : Int) := by rw [s1, t1]
  have W1b := zab.mk w1b_; clear w1b_
  by_cases c : u + j < D.size
  ·obtain ⟨K2, hK2⟩ := (HBG.out j c hj).rounds
   have HK2 := zab.mk hK2
   have q1 : decide ((u : Int) + (j : Int) < (D.size : Int)) = true := decide_eq_true (by clear s1 s2 s3 w1_; omega)
   have q1' : ((u : Int) + (j : Int) < (D.size : Int)) = True := eq_true (by clear s1 s2 s3 w1_; omega)
   have q2 : (0 ≤ (u : Int)) = True := eq_true (by clear s1 s2 s3 w1_; omega)
   have q3 : ((u : Int) ≤ (u : Int) + (j : Int) + 1) = True := eq_true (by clear s1 s2 s3 w1_; omega)
   have q4 : ((u : Int) + (j : Int) + 1 ≤ (D.size : Int)) = True := eq_true (by clear s1 s2 s3 w1_; omega)
   have q5 : ((u : Int) + (j : Int) + 1).toNat = u + j + 1 := by clear s1 s2 s3 w1_; omega
   have w2_ : IntKind.i64.wrap ((u : Int) + (j : Int) + 1) = (u : Int) + (j : Int) + 1 := by rw [wrapEq_, t1, s2]; clear s1 s2 s3 w1_; omega
   have S3 := zab.mk s3; clear t1 s1 s2 hD hj h4 hrb hu hK2 c s3
   go_upto_region 6 with (fail)
   go_quiet ((go_at_call 55; refine Calls.quiet_of (v := .bool (decide (j < R))) ((zaA.calls K2 (D.extract u (u + j + 1)) _ _ HK2.out).mono ?_); rintro e w' ⟨rfl, m, rfl⟩; exact ⟨rfl, m, rfl⟩))
   clear q1 q1' q2 q3 q4 q5 w1_ w2_ hz2
   have HIx := zab.mk (HI1.out.drewN nq)
   have HBx := zab.mk (zaa HB1.out nq)
   clear HI1 HB1
   by_cases hlt : j < R
   ·as_aux_lemma =>
     have d1 : decide (j < R) = true := decide_eq_true hlt
     rw [d1]
     have S4 := zab.mk hlt
     have s3 := S3.out
     clear d1 hlt S3
     go_wp2
     go_roundw
     case rel => exact ⟨j + 1, by rw [s3], ⟨by have := S4.out; clear s3; omega⟩, HIx, HBx⟩
     case measure => have h4 := S4.out; have hj := HJ.out; rw [s3]; clear s3; simp only [intOf, Int.toNat_natCast]; omega
   have d1 : decide (j < R) = false := decide_eq_false hlt
   rw [d1]
   have HE := zab.mk (show j = R by have := HJ.out; omega)
   have w1b_ := W1b.out
   clear d1 hlt S3 W1b HJ
   have hz2 : (wr.drewN nq).cell? ⟨g, 2, none⟩ = some (.int .i64 (u : Int)) := by obtain ⟨vp, vb, BK, _⟩ := HIx.out; exact (zal BK 2).trans rfl
   by_cases ce : u + j = D.size ∧ last = false
   ·as_aux_lemma =>
     obtain ⟨ce1, rfl⟩ := ce
     have x1 : ((u : Int) + (j : Int) == (D.size : Int)) = true := beq_iff_eq.mpr (by omega)
     have er : r = (false, pts, brk, u) := by
      have h := HR.out; have he := HE.out; subst he; have hu := HU.out
      have hR0 : j ≠ 0 := by omega
      rw [if_neg hR0, if_neg hR0, decide_eq_true ce1, nx_wait] at h; exact h.symm
     have ER := zab.mk er; clear ce1 er
     go_wp2
     go_ret
     rw [ER.out]
     exact ⟨by first | rfl | (simp; done), HIx.out, HBx.out⟩
   by_cases c0 : R = 0
   ·as_aux_lemma =>
     have er : r = (true, pts ++ [65533], brk ++ [(u : Int)], u + 1) := by
      have h := HR.out; have he := HE.out; have hu := HU.out
      rw [if_pos c0, if_pos c0, nx_bad _ _ _ _ _ _ _ (.inl rfl)] at h; exact h.symm
     have ER := zab.mk er
     have x2 : ((j : Int) == 0) = true := beq_iff_eq.mpr (by have := HE.out; omega)
     have NJ := zab.mk (show j = 0 by have := HE.out; omega)
     by_cases ce1 : u + j = D.size
     ·cases last with
      | false => exact absurd ⟨ce1, rfl⟩ ce
      | true =>
       have x1 : ((u : Int) + (j : Int) == (D.size : Int)) = true := beq_iff_eq.mpr (by omega)
       clear er ce1 ce
       go_wp2_with (fail)
       refine (piece_calls g 1 pts brk (u : Int) w0 _ HIx.out HBx.out (by have := LM.out; have := HU.out; have := HD.out; omega) (by have := LM2.out; have := HU.out; have := HD.out; omega)).mono ?_
       rintro e w2 ⟨rfl, hi, hb⟩
       have HI2 := zab.mk hi; have HB2 := zab.mk hb; clear hi hb
       go_wp2
       go_ret
       rw [ER.out]
       have ew : wrap64 ((u : Int) + 1) = ((u + 1 : Nat) : Int) := w_succ u (by have := HU.out; have := HD.out; omega)
       exact ⟨by first | rfl | (simp; done), by have := HI2.out; rw [ew] at this; exact this, HB2.out⟩
     have x1 : ((u : Int) + (j : Int) == (D.size : Int)) = false := beq_eq_false_iff_ne.mpr (by omega)
     clear er ce1 ce
     go_wp2_with (fail)
     refine (piece_calls g 1 pts brk (u : Int) w0 _ HIx.out HBx.out (by have := LM.out; have := HU.out; have := HD.out; omega) (by have := LM2.out; have := HU.out; have := HD.out; omega)).mono ?_
     rintro e w2 ⟨rfl, hi, hb⟩
     have HI2 := zab.mk hi; have HB2 := zab.mk hb; clear hi hb
     go_wp2
     go_ret
     rw [ER.out]
     have ew : wrap64 ((u : Int) + 1) = ((u + 1 : Nat) : Int) := w_succ u (by have := HU.out; have := HD.out; omega)
     exact ⟨by first | rfl | (simp; done), by have := HI2.out; rw [ew] at this; exact this, HB2.out⟩
   as_aux_lemma =>
    have er : r = (true, pts ++ [65533], brk ++ [(u : Int)], u + R) := by
     have h := HR.out; have he := HE.out; have hu := HU.out
     rw [if_neg c0, if_neg c0, nx_bad _ _ _ _ _ _ _ (if hs : u + R = D.size then .inr (by cases last with | true => rfl | false => exact absurd ⟨by omega, rfl⟩ ce) else .inl (decide_eq_false hs))] at h; exact h.symm
    have ER := zab.mk er
    have x2 : ((j : Int) == 0) = false := beq_eq_false_iff_ne.mpr (by have := HE.out; omega)
    have NJ := zab.mk (show j = R by have := HE.out; omega)
    by_cases ce1 : u + j = D.size
    ·cases last with
     | false => exact absurd ⟨ce1, rfl⟩ ce
     | true =>
      have x1 : ((u : Int) + (j : Int) == (D.size : Int)) = true := beq_iff_eq.mpr (by omega)
      clear er ce1 ce
      go_wp2_with (fail)
      refine (piece_calls g (j : Int) pts brk (u : Int) w0 _ HIx.out HBx.out (by have := LM.out; have := HU.out; have := HD.out; omega) (by have := LM2.out; have := HU.out; have := HD.out; omega)).mono ?_
      rintro e w2 ⟨rfl, hi, hb⟩
      have HI2 := zab.mk hi; have HB2 := zab.mk hb; clear hi hb
      go_wp2
      go_ret
      rw [ER.out]
      have ew : wrap64 ((u : Int) + (j : Int)) = ((u + R : Nat) : Int) := by rw [← HE.out]; exact w_add u j (by have := HU.out; have := HD.out; have := H4.out; have := HE.out; omega)
      exact ⟨by first | rfl | (simp; done), by have := HI2.out; rw [ew] at this; exact this, HB2.out⟩
    have x1 : ((u : Int) + (j : Int) == (D.size : Int)) = false := beq_eq_false_iff_ne.mpr (by omega)
    clear er ce1 ce
    go_wp2_with (fail)
    refine (piece_calls g (j : Int) pts brk (u : Int) w0 _ HIx.out HBx.out (by have := LM.out; have := HU.out; have := HD.out; omega) (by have := LM2.out; have := HU.out; have := HD.out; omega)).mono ?_
    rintro e w2 ⟨rfl, hi, hb⟩
    have HI2 := zab.mk hi; have HB2 := zab.mk hb; clear hi hb
    go_wp2
    go_ret
    rw [ER.out]
    have ew : wrap64 ((u : Int) + (j : Int)) = ((u + R : Nat) : Int) := by rw [← HE.out]; exact w_add u j (by have := HU.out; have := HD.out; have := H4.out; have := HE.out; omega)
    exact ⟨by first | rfl | (simp; done), by have := HI2.out; rw [ew] at this; exact this, HB2.out⟩
  have q1 : decide ((u : Int) + (j : Int) < (D.size : Int)) = false := decide_eq_false (by clear s1 s2 s3 w1_; omega)
  have q1' : ((u : Int) + (j : Int) < (D.size : Int)) = False := eq_false (by clear s1 s2 s3 w1_; omega)
  have HE := zab.mk (show j = R by clear s1 s2 s3 w1_; omega)
  clear t1 s1 s2 hD hj h4 hrb hu c s3
  go_upto_region 6 with (fail)
  go_quiet (fail)
  clear q1 q1' w1_ hz2
  have HIx := zab.mk (HI1.out.drewN nq)
  have HBx := zab.mk (zaa HB1.out nq)
  have w1b_ := W1b.out
  clear HI1 HB1 W1b HJ
  have hz2 : (wr.drewN nq).cell? ⟨g, 2, none⟩ = some (.int .i64 (u : Int)) := by obtain ⟨vp, vb, BK, _⟩ := HIx.out; exact (zal BK 2).trans rfl
  by_cases ce : u + j = D.size ∧ last = false
  ·as_aux_lemma =>
    obtain ⟨ce1, rfl⟩ := ce
    have x1 : ((u : Int) + (j : Int) == (D.size : Int)) = true := beq_iff_eq.mpr (by omega)
    have er : r = (false, pts, brk, u) := by
     have h := HR.out; have he := HE.out; subst he; have hu := HU.out
     have hR0 : j ≠ 0 := by omega
     rw [if_neg hR0, if_neg hR0, decide_eq_true ce1, nx_wait] at h; exact h.symm
    have ER := zab.mk er; clear ce1 er
    go_wp2
    go_ret
    rw [ER.out]
    exact ⟨by first | rfl | (simp; done), HIx.out, HBx.out⟩
  by_cases c0 : R = 0
  ·as_aux_lemma =>
    have er : r = (true, pts ++ [65533], brk ++ [(u : Int)], u + 1) := by
     have h := HR.out; have he := HE.out; have hu := HU.out
     rw [if_pos c0, if_pos c0, nx_bad _ _ _ _ _ _ _ (.inl rfl)] at h; exact h.symm
    have ER := zab.mk er
    have x2 : ((j : Int) == 0) = true := beq_iff_eq.mpr (by have := HE.out; omega)
    have NJ := zab.mk (show j = 0 by have := HE.out; omega)
    by_cases ce1 : u + j = D.size
    ·cases last with
     | false => exact absurd ⟨ce1, rfl⟩ ce
     | true =>
      have x1 : ((u : Int) + (j : Int) == (D.size : Int)) = true := beq_iff_eq.mpr (by omega)
      clear er ce1 ce
      go_wp2_with (fail)
      refine (piece_calls g 1 pts brk (u : Int) w0 _ HIx.out HBx.out (by have := LM.out; have := HU.out; have := HD.out; omega) (by have := LM2.out; have := HU.out; have := HD.out; omega)).mono ?_
      rintro e w2 ⟨rfl, hi, hb⟩
      have HI2 := zab.mk hi; have HB2 := zab.mk hb; clear hi hb
      go_wp2
      go_ret
      rw [ER.out]
      have ew : wrap64 ((u : Int) + 1) = ((u + 1 : Nat) : Int) := w_succ u (by have := HU.out; have := HD.out; omega)
      exact ⟨by first | rfl | (simp; done), by have := HI2.out; rw [ew] at this; exact this, HB2.out⟩
    have x1 : ((u : Int) + (j : Int) == (D.size : Int)) = false := beq_eq_false_iff_ne.mpr (by omega)
    clear er ce1 ce
    go_wp2_with (fail)
    refine (piece_calls g 1 pts brk (u : Int) w0 _ HIx.out HBx.out (by have := LM.out; have := HU.out; have := HD.out; omega) (by have := LM2.out; have := HU.out; have := HD.out; omega)).mono ?_
    rintro e w2 ⟨rfl, hi, hb⟩
    have HI2 := zab.mk hi; have HB2 := zab.mk hb; clear hi hb
    go_wp2
    go_ret
    rw [ER.out]
    have ew : wrap64 ((u : Int) + 1) = ((u + 1 : Nat) : Int) := w_succ u (by have := HU.out; have := HD.out; omega)
    exact ⟨by first | rfl | (simp; done), by have := HI2.out; rw [ew] at this; exact this, HB2.out⟩
  as_aux_lemma =>
   have er : r = (true, pts ++ [65533], brk ++ [(u : Int)], u + R) := by
    have h := HR.out; have he := HE.out; have hu := HU.out
    rw [if_neg c0, if_neg c0, nx_bad _ _ _ _ _ _ _ (if hs : u + R = D.size then .inr (by cases last with | true => rfl | false => exact absurd ⟨by omega, rfl⟩ ce) else .inl (decide_eq_false hs))] at h; exact h.symm
   have ER := zab.mk er
   have x2 : ((j : Int) == 0) = false := beq_eq_false_iff_ne.mpr (by have := HE.out; omega)
   have NJ := zab.mk (show j = R by have := HE.out; omega)
   by_cases ce1 : u + j = D.size
   ·cases last with
    | false => exact absurd ⟨ce1, rfl⟩ ce
    | true =>
     have x1 : ((u : Int) + (j : Int) == (D.size : Int)) = true := beq_iff_eq.mpr (by omega)
     clear er ce1 ce
     go_wp2_with (fail)
     refine (piece_calls g (j : Int) pts brk (u : Int) w0 _ HIx.out HBx.out (by have := LM.out; have := HU.out; have := HD.out; omega) (by have := LM2.out; have := HU.out; have := HD.out; omega)).mono ?_
     rintro e w2 ⟨rfl, hi, hb⟩
     have HI2 := zab.mk hi; have HB2 := zab.mk hb; clear hi hb
     go_wp2
     go_ret
     rw [ER.out]
     have ew : wrap64 ((u : Int) + (j : Int)) = ((u + R : Nat) : Int) := by rw [← HE.out]; exact w_add u j (by have := HU.out; have := HD.out; have := H4.out; have := HE.out; omega)
     exact ⟨by first | rfl | (simp; done), by have := HI2.out; rw [ew] at this; exact this, HB2.out⟩
   have x1 : ((u : Int) + (j : Int) == (D.size : Int)) = false := beq_eq_false_iff_ne.mpr (by omega)
   clear er ce1 ce
   go_wp2_with (fail)
   refine (piece_calls g (j : Int) pts brk (u : Int) w0 _ HIx.out HBx.out (by have := LM.out; have := HU.out; have := HD.out; omega) (by have := LM2.out; have := HU.out; have := HD.out; omega)).mono ?_
   rintro e w2 ⟨rfl, hi, hb⟩
   have HI2 := zab.mk hi; have HB2 := zab.mk hb; clear hi hb
   go_wp2
   go_ret
   rw [ER.out]
   have ew : wrap64 ((u : Int) + (j : Int)) = ((u + R : Nat) : Int) := by rw [← HE.out]; exact w_add u j (by have := HU.out; have := HD.out; have := H4.out; have := HE.out; omega)
   exact ⟨by first | rfl | (simp; done), by have := HI2.out; rw [ew] at this; exact this, HB2.out⟩
end Go.Proofs.YtfafjbolmeimmaaDoor.P
