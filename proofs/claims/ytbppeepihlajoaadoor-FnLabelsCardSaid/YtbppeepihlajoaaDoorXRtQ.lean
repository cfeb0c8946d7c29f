/- The law of labels, in plain words. -/
import Derived.Test.YtbppeepihlajoaaDoorB17
import Derived.Test.YtbppeepihlajoaaDoorXRtZ
import Derived.Test.YtbppeepihlajoaaDoorXDr
namespace Go.Proofs.YtbppeepihlajoaaDoor.P
open Go.RowKit Go.Proofs.YtbppeepihlajoaaDoorW.PrintWords Go.Proofs.YtbppeepihlajoaaDoorW.PrintMore
set_option linter.unusedVariables false
theorem enc_shape (s : ByteArray) (hs : s.size ≤ 1048576) (r : ByteArray) (hr : Ev (fun k => zar.f k s) r) : r = ⟨#[]⟩ ∨ (goodFrom s 0 = true ∧ (pts s).length ≤ 1000 ∧ r.size ≤ 65536 ∧ ∃ K, zaX.f K (pts s) = some r) := by
 have ij (x : List Int) : Ev (fun k => zar.j0 k x true) ⟨#[]⟩ := Ev.step (fun k => by rw [zar.j0]) (Ev.pos rfl (Ev.now _))
 have hpt := points_f s (by omega)
 have iw : impl_well.f s = some (goodFrom s 0) := by
  unfold impl_well.f utf8_ValidString.f
  rw [if_pos (by omega), valid_eq]
  rfl
 by_cases h1 : (s.size : Int) > 65536
 ·refine .inl (hr.inj ?_)
  unfold zar.f
  exact Ev.bind hpt (Ev.bind (Ev.done (show zaV.f s = some true by unfold zaV.f; rw [decide_eq_true h1])) (Ev.pos rfl (ij _)))
 have il : zaV.f s = some false := by unfold zaV.f; rw [decide_eq_false h1]
 by_cases hg : goodFrom s 0 = true
 ·by_cases h2 : (pts s).length ≤ 1000
  ·have e3 : decide (((pts s).length : Int) > 1000) = false := decide_eq_false (by omega)
   obtain ⟨q, r1, r2⟩ := label_ev (pts s) h2 (fun p hp => ⟨(pts_range s 0 p hp).1, (pts_range s 0 p hp).2.1⟩)
   by_cases h : (q.size : Int) > 65536
   ·refine .inl (hr.inj ?_)
    unfold zar.f
    refine Ev.bind hpt (Ev.bind (Ev.done il) (Ev.neg (by simp) (Ev.bind (Ev.done iw) (Ev.pos hg ?_))))
    rw [e3]
    refine Ev.step (fun k => by rw [zar.j0]) (Ev.neg (by simp) (Ev.bind r1 (Ev.bind (Ev.done (r := (⟨#[]⟩ : ByteArray)) ?_) (Ev.now _))))
    unfold impl_short.f zaV.f
    rw [decide_eq_true h]; rfl
   have : r = q := by
    refine hr.inj ?_
    unfold zar.f
    refine Ev.bind hpt (Ev.bind (Ev.done il) (Ev.neg (by simp) (Ev.bind (Ev.done iw) (Ev.pos hg ?_))))
    rw [e3]
    refine Ev.step (fun k => by rw [zar.j0]) (Ev.neg (by simp) (Ev.bind r1 (Ev.bind (Ev.done (r := q) ?_) (Ev.now _))))
    unfold impl_short.f zaV.f
    rw [decide_eq_false h]; rfl
   subst this
   exact .inr ⟨hg, h2, by omega, r1.rounds⟩
  have e3 : decide (((pts s).length : Int) > 1000) = true := decide_eq_true (by omega)
  refine .inl (hr.inj ?_)
  unfold zar.f
  refine Ev.bind hpt (Ev.bind (Ev.done il) (Ev.neg (by simp) (Ev.bind (Ev.done iw) (Ev.pos hg ?_))))
  rw [e3]
  exact ij _
 refine .inl (hr.inj ?_)
 unfold zar.f
 exact Ev.bind hpt (Ev.bind (Ev.done il) (Ev.neg (by simp) (Ev.bind (Ev.done iw) (Ev.neg hg (ij _)))))
theorem low_l (t r : ByteArray) (hs : r.size ≤ 1000000000) (hb : ∀ i : Nat, i < r.size → bt r (i : Int) < 128) (hfin : Ev (fun k => if r.toList = ([] : List UInt8) then some true else (if (r.size : Int) > 1000 then some true else ((zaL.f k r).bind fun bt563 => (if bt563.1 = 0 then (some (bt563.2.2.toList == t.toList)) else (some false))))) true) : ∀ (d i : Nat), i + d = r.size → Ev (fun k => zaU.l0 k t r (i : Int)) true
 | 0, i, h => Ev.step (fun k => by rw [zaU.l0]) (Ev.neg (by omega) hfin)
 | d + 1, i, h => Ev.step (fun k => by rw [zaU.l0, w_succ i (by omega)]) (Ev.pos (by omega) (Ev.pos (by omega) (Ev.neg (by have := hb i (by omega); omega) (low_l t r hs hb hfin d (i + 1) (by omega)))))
theorem law_Labels (l : List Int) : ∃ k, zaU.f k l = some true := by
 apply Ev.rounds
 unfold zaU.f
 by_cases h : (l.length : Int) > 1048576
 ·exact Ev.pos h (Ev.now _)
 obtain ⟨t, ht, hts⟩ := drawLabel l (by omega)
 obtain ⟨r, r1, r2⟩ := enc_both t (by omega)
 refine Ev.neg h (Ev.bind ht (Ev.bind r1 (Ev.bind r2 (Ev.pos rfl ?_))))
 rcases enc_shape t (by omega) r r1 with rfl | ⟨hg, hl, hz, K, hK⟩
 ·exact low_l t _ (by decide) (fun i hi => absurd hi (by show ¬ i < 0; omega)) (Ev.pos (by simp [Lib.toList_data]) (Ev.now _)) 0 0 rfl
 have hpp : ∀ p ∈ pts t, isPt p = true := fun p hp => by
  have := pts_range t 0 p hp
  exact isPt_iff.2 (by omega)
 have hb := (txt_back t).2 hg
 obtain ⟨b1, b2⟩ := lab_back (pts t) hl hpp K r hK (by omega)
 rw [hb] at b2
 refine low_l t r (by omega) b1 ?_ r.size 0 (by omega)
 by_cases h0 : r.toList = []
 ·exact Ev.pos h0 (Ev.now _)
 refine Ev.neg h0 ?_
 by_cases h1 : (r.size : Int) > 1000
 ·exact Ev.pos h1 (Ev.now _)
 refine Ev.neg h1 (Ev.bind (a := ((0 : Int), (0 : Int), t)) ?_ (Ev.pos rfl ((Ev.now _).to (by simp))))
 unfold zaL.f
 refine Ev.bind (Ev.done (show zaV.f r = some false by unfold zaV.f; rw [decide_eq_false (by omega)])) (Ev.neg (by simp) ?_)
 rw [decide_eq_false h1]
 exact Ev.step (fun k => by rw [zaL.j0]) (Ev.neg (by simp) (Ev.bind (b2 r1) (Ev.pos rfl (Ev.now _))))
end Go.Proofs.YtbppeepihlajoaaDoor.P
