/- Parts of a proof: words of the print tool that this claim uses, or plain lists. -/
import Derived.Test.YtbppeepihlajoaaDoorXIn
import Derived.Test.YtbppeepihlajoaaDoorXKe
import Derived.Test.YtbppeepihlajoaaDoorL20
import Derived.Test.YtbppeepihlajoaaDoorL8
import Derived.Test.YtbppeepihlajoaaDoorL7
import Derived.Test.YtbppeepihlajoaaDoorL4
import Derived.Test.YtbppeepihlajoaaDoorXLnM
import Derived.Test.YtbppeepihlajoaaDoorL5
import Derived.Test.YtbppeepihlajoaaDoorL6
import Derived.Test.YtbppeepihlajoaaDoorL10
import Derived.Test.YtbppeepihlajoaaDoorXCh
import Derived.Test.YtbppeepihlajoaaDoorL9
import Derived.Test.YtbppeepihlajoaaDoorL11
import Derived.Test.YtbppeepihlajoaaDoorL13
import Derived.Lib.RuneCountTail
import Derived.Test.YtbppeepihlajoaaDoorWWords
import Derived.Lib.RuneBytes
import Derived.Test.YtbppeepihlajoaaDoorL3
import Derived.Test.YtbppeepihlajoaaDoorXLn
import Derived.Test.YtbppeepihlajoaaDoorL12
import Derived.Test.YtbppeepihlajoaaDoorL21
import Derived.Test.YtbppeepihlajoaaDoorL23
import Derived.Test.YtbppeepihlajoaaDoorL22
namespace Go.Proofs.YtbppeepihlajoaaDoor.P
open Go.RowKit Go.Proofs.YtbppeepihlajoaaDoorW.PrintWords
set_option linter.unusedVariables false
def cls (p : Int) : Int :=
 if (kd p).1 = 1 ∨ p = 7954 then 1
 else if (kd p).1 = 3 ∨ p = 7936 ∨ (7744 ≤ p ∧ p ≤ 7748) then 2
 else if 1792 ≤ p ∧ p ≤ 1810 then 3
 else if 1824 ≤ p ∧ p ≤ 1844 then 4
 else if 1857 ≤ p ∧ p ≤ 1883 then 5
 else if (12288 ≤ p ∧ p ≤ 23459) ∧ (p - 12288) % 28 = 0 then 6
 else if 12288 ≤ p ∧ p ≤ 23459 then 7
 else if 7680 ≤ p ∧ p ≤ 7743 then 8
 else if 7760 ≤ p ∧ p ≤ 7785 then 9 else 0
theorem cat_ev (p : Int) (h0 : 0 ≤ p) : Ev (fun k => impl_Category.f k p) (kd p).1 := by
 unfold impl_Category.f
 exact Ev.bind (kind_ev p h0) (Ev.now _)
theorem scat_ev (p : Int) (h0 : 0 ≤ p) (h1 : p < 1000000000) : Ev (fun k => zbn.f k p) (kd p).1 := by
 unfold zbn.f
 exact Ev.bind (known_ev p h0 h1) (Ev.now _)
theorem kd_named (p : Int) (h : (1792 ≤ p ∧ p ≤ 1810) ∨ (1824 ≤ p ∧ p ≤ 1844) ∨ (1857 ≤ p ∧ p ≤ 1883) ∨ (12288 ≤ p ∧ p ≤ 23459) ∨ (7680 ≤ p ∧ p ≤ 7748) ∨ (7760 ≤ p ∧ p ≤ 7785) ∨ p = 7936 ∨ p = 7954) : (kd p).1 ≠ 1 ∧ (kd p).1 ≠ 3 := by
 rcases kd_cases p with e | ⟨a, b, r, hr, c, d, e⟩ | ⟨a, b, e | e⟩ | ⟨a, b, r, hr, c, d, e⟩
 ·rw [e]; decide
 ·omega
 ·rw [e]; decide
 ·rw [e]; decide
 rw [e]
 have key : ∀ r ∈ kdLow ++ kdHi, (r.f2 = 1 ∨ r.f2 = 3) → r.f1 < 1792 ∨ 1883 < r.f0 ∧ r.f1 < 7680 ∨ 23459 < r.f0 ∨ 7785 < r.f0 ∧ r.f1 < 7936 ∨ 7954 < r.f0 ∧ r.f1 < 12288 := by decide
 have := key r hr
 show r.f2 ≠ 1 ∧ r.f2 ≠ 3
 omega
theorem charClass_ev (p : Int) (h0 : 0 ≤ p) : Ev (fun k => zaM.f k p) (cls p) := by
 have hj : ∀ k, ¬ ((kd p).1 = 1 ∨ p = 7954) → ¬ ((kd p).1 = 3 ∨ p = 7936 ∨ (7744 ≤ p ∧ p ≤ 7748)) → zaM.j1 (k + 1) p false = some (cls p) := by
  intro k hA hB
  unfold cls
  rw [if_neg hA, if_neg hB, zaM.j1]
  simp only [Bool.false_eq_true, if_false, in_dec, impl_isOpen.f, zbj.f, za3.f, Option.bind_some, decide_eq_true_eq]
  by_cases h1 : 1792 ≤ p ∧ p ≤ 1810
  ·rw [if_pos h1, if_pos h1]
  rw [if_neg h1, if_neg h1]
  by_cases h2 : 1824 ≤ p ∧ p ≤ 1844
  ·rw [if_pos h2, if_pos h2]
  rw [if_neg h2, if_neg h2]
  by_cases h3 : 1857 ≤ p ∧ p ≤ 1883
  ·rw [if_pos h3, if_pos h3]
  rw [if_neg h3, if_neg h3]
  by_cases h4 : 12288 ≤ p ∧ p ≤ 23459
  ·rw [w64 (x := p - 12288) (by omega) (by omega), Int.tmod_eq_emod_of_nonneg (by omega), if_pos h4, Option.bind_some]
   by_cases h5 : (p - 12288) % 28 = 0
   ·rw [if_pos (beq_iff_eq.2 h5), if_pos (c := (12288 ≤ p ∧ p ≤ 23459) ∧ (p - 12288) % 28 = 0) ⟨h4, h5⟩]
   rw [if_neg (fun h => h5 (beq_iff_eq.1 h)), if_pos h4, if_neg (c := (12288 ≤ p ∧ p ≤ 23459) ∧ (p - 12288) % 28 = 0) (fun h => h5 h.2), if_pos h4]
  rw [if_neg h4, Option.bind_some, if_neg (c := false = true) (by decide), if_neg h4, if_neg (c := (12288 ≤ p ∧ p ≤ 23459) ∧ (p - 12288) % 28 = 0) (fun h => h4 h.1), if_neg h4]
  by_cases h6 : 7680 ≤ p ∧ p ≤ 7743
  ·rw [if_pos h6, if_pos h6]
  rw [if_neg h6, if_neg h6]
  by_cases h7 : 7760 ≤ p ∧ p ≤ 7785
  ·rw [if_pos h7, if_pos h7]
  rw [if_neg h7, if_neg h7]
 have hm : Ev (fun k => impl_isMark.f k p) ((kd p).1 == 3) := by
  unfold impl_isMark.f
  exact Ev.bind (cat_ev p h0) (Ev.now _)
 unfold zaM.f
 refine Ev.bind (cat_ev p h0) ?_
 by_cases hA : (kd p).1 = 1
 ·refine Ev.pos hA (Ev.step (fun k => by rw [zaM.j0]) (Ev.pos rfl ?_))
  unfold cls
  rw [if_pos (.inl hA)]
  exact Ev.now _
 refine Ev.neg hA (Ev.step (fun k => by rw [zaM.j0]) ?_)
 by_cases hA2 : p = 7954
 ·refine Ev.pos (beq_iff_eq.2 hA2) ?_
  unfold cls
  rw [if_pos (.inr hA2)]
  exact Ev.now _
 refine Ev.neg (fun h => hA2 (beq_iff_eq.1 h)) (Ev.bind hm ?_)
 have hN : ¬ ((kd p).1 = 1 ∨ p = 7954) := by rintro (h | h); exact hA h; exact hA2 h
 have two : ((kd p).1 = 3 ∨ p = 7936 ∨ (7744 ≤ p ∧ p ≤ 7748)) → Ev (fun k => zaM.j1 k p true) (cls p) := by
  intro h
  unfold cls
  rw [if_neg hN, if_pos h]
  exact Ev.step (fun k => by rw [zaM.j1]) (Ev.pos rfl (Ev.now _))
 by_cases hB : (kd p).1 = 3
 ·exact Ev.pos (beq_iff_eq.2 hB) (two (.inl hB))
 refine Ev.neg (fun h => hB (beq_iff_eq.1 h)) ?_
 by_cases hB2 : p = 7936
 ·exact Ev.pos hB2 (two (.inr (.inl hB2)))
 refine Ev.neg hB2 (Ev.bind (Ev.done (in_dec _ _ _)) ?_)
 by_cases hB3 : 7744 ≤ p ∧ p ≤ 7748
 ·rw [decide_eq_true hB3]; exact two (.inr (.inr hB3))
 rw [decide_eq_false hB3]
 have hN2 : ¬ ((kd p).1 = 3 ∨ p = 7936 ∨ (7744 ≤ p ∧ p ≤ 7748)) := by rintro (h | h | h); exact hB h; exact hB2 h; exact hB3 h
 exact Ev.step (fun k => hj k hN hN2) (Ev.now _)
theorem cls_iff (p : Int) : (cls p = 1 ↔ ((kd p).1 = 1 ∨ p = 7954)) ∧ (cls p = 2 ↔ ((kd p).1 = 3 ∨ p = 7936 ∨ (7744 ≤ p ∧ p ≤ 7748))) ∧ (cls p = 3 ↔ (1792 ≤ p ∧ p ≤ 1810)) ∧ (cls p = 4 ↔ (1824 ≤ p ∧ p ≤ 1844)) ∧ (cls p = 5 ↔ (1857 ≤ p ∧ p ≤ 1883)) ∧ (cls p = 6 ↔ ((12288 ≤ p ∧ p ≤ 23459) ∧ (p - 12288) % 28 = 0)) ∧ (cls p = 7 ↔ ((12288 ≤ p ∧ p ≤ 23459) ∧ ¬ (p - 12288) % 28 = 0)) ∧ (cls p = 8 ↔ (7680 ≤ p ∧ p ≤ 7743)) ∧ (cls p = 9 ↔ (7760 ≤ p ∧ p ≤ 7785)) := by
 have hk := kd_named p
 unfold cls
 generalize (kd p).1 = c at *
 by_cases h1 : c = 1 ∨ p = 7954
 ·rw [if_pos h1]
  refine ⟨?_, ?_, ?_, ?_, ?_, ?_, ?_, ?_, ?_⟩ <;> constructor <;> omega
 rw [if_neg h1]
 by_cases h2 : c = 3 ∨ p = 7936 ∨ (7744 ≤ p ∧ p ≤ 7748)
 ·rw [if_pos h2]
  refine ⟨?_, ?_, ?_, ?_, ?_, ?_, ?_, ?_, ?_⟩ <;> constructor <;> omega
 rw [if_neg h2]
 clear hk
 by_cases h3 : 1792 ≤ p ∧ p ≤ 1810
 ·rw [if_pos h3]
  refine ⟨?_, ?_, ?_, ?_, ?_, ?_, ?_, ?_, ?_⟩ <;> constructor <;> omega
 rw [if_neg h3]
 by_cases h4 : 1824 ≤ p ∧ p ≤ 1844
 ·rw [if_pos h4]
  refine ⟨?_, ?_, ?_, ?_, ?_, ?_, ?_, ?_, ?_⟩ <;> constructor <;> omega
 rw [if_neg h4]
 by_cases h5 : 1857 ≤ p ∧ p ≤ 1883
 ·rw [if_pos h5]
  refine ⟨?_, ?_, ?_, ?_, ?_, ?_, ?_, ?_, ?_⟩ <;> constructor <;> omega
 rw [if_neg h5]
 by_cases h6 : (12288 ≤ p ∧ p ≤ 23459) ∧ (p - 12288) % 28 = 0
 ·rw [if_pos h6]
  refine ⟨?_, ?_, ?_, ?_, ?_, ?_, ?_, ?_, ?_⟩ <;> constructor <;> omega
 rw [if_neg h6]
 by_cases h7 : 12288 ≤ p ∧ p ≤ 23459
 ·rw [if_pos h7]
  refine ⟨?_, ?_, ?_, ?_, ?_, ?_, ?_, ?_, ?_⟩ <;> constructor <;> omega
 rw [if_neg h7]
 by_cases h8 : 7680 ≤ p ∧ p ≤ 7743
 ·rw [if_pos h8]
  refine ⟨?_, ?_, ?_, ?_, ?_, ?_, ?_, ?_, ?_⟩ <;> constructor <;> omega
 rw [if_neg h8]
 by_cases h9 : 7760 ≤ p ∧ p ≤ 7785
 ·rw [if_pos h9]
  refine ⟨?_, ?_, ?_, ?_, ?_, ?_, ?_, ?_, ?_⟩ <;> constructor <;> omega
 rw [if_neg h9]
 refine ⟨?_, ?_, ?_, ?_, ?_, ?_, ?_, ?_, ?_⟩ <;> constructor <;> omega
theorem control_ev (p : Int) (h0 : 0 ≤ p) (h1 : p < 1000000000) : Ev (fun k => zbD.f k p) (decide (cls p = 1)) := by
 have h := (cls_iff p).1
 unfold zbD.f
 refine Ev.bind (scat_ev p h0 h1) ?_
 by_cases hA : (kd p).1 = 1
 ·exact Ev.pos hA ((Ev.now _).to (decide_eq_true (h.2 (.inl hA))).symm)
 refine Ev.neg hA ((Ev.now _).to ?_)
 rw [Bool.eq_iff_iff, beq_iff_eq, decide_eq_true_eq, h]
 exact ⟨.inr, fun h => h.resolve_left hA⟩
theorem mark_ev (p : Int) (h0 : 0 ≤ p) (h1 : p < 1000000000) : Ev (fun k => spec_l07Mark.f k p) (decide (cls p = 2)) := by
 have h := (cls_iff p).2.1
 unfold spec_l07Mark.f
 refine Ev.bind (scat_ev p h0 h1) ?_
 by_cases hA : (kd p).1 = 3
 ·exact Ev.pos hA ((Ev.now _).to (decide_eq_true (h.2 (.inl hA))).symm)
 refine Ev.neg hA ?_
 by_cases hB : p = 7936
 ·exact Ev.pos hB ((Ev.now _).to (decide_eq_true (h.2 (.inr (.inl hB)))).symm)
 refine Ev.neg hB ?_
 by_cases hC : p ≥ 7744
 ·refine Ev.pos hC ((Ev.now _).to ?_)
  rw [decide_eq_decide, h]
  omega
 refine Ev.neg hC ((Ev.now _).to ?_)
 symm
 rw [decide_eq_false_iff_not, h]
 omega
theorem picture_f (p : Int) : zbt.f p = some (decide (cls p = 8)) := by
 have h := (cls_iff p).2.2.2.2.2.2.2.1
 unfold zbt.f
 by_cases hC : p ≥ 7680
 ·rw [if_pos hC]; congr 1; rw [decide_eq_decide, h]; omega
 rw [if_neg hC]; congr 1; symm; rw [decide_eq_false_iff_not, h]; omega
theorem flag_f (p : Int) : zbe.f p = some (decide (cls p = 9)) := by
 have h := (cls_iff p).2.2.2.2.2.2.2.2
 unfold zbe.f
 by_cases hC : p ≥ 7760
 ·rw [if_pos hC]; congr 1; rw [decide_eq_decide, h]; omega
 rw [if_neg hC]; congr 1; symm; rw [decide_eq_false_iff_not, h]; omega
def part (c : Int) : Int := if c = 3 then 1 else if c = 4 then 2 else if c = 5 then 3 else if c = 6 then 4 else if c = 7 then 5 else 0
theorem part_ev (p : Int) (h0 : 0 ≤ p) (h1 : p < 1000000000) : Ev (fun k => zaJ.f k p) (part (cls p)) := by
 obtain ⟨-, -, c3, c4, c5, c6, c7, -, -⟩ := cls_iff p
 refine ⟨4, fun k hk => ?_⟩
 obtain ⟨m, rfl⟩ : ∃ m, k = m + 4 := ⟨k - 4, by omega⟩
 have e3 : ∀ b, zaJ.j3 (m + 1) p b = some (if b = true then 4 else if 12288 ≤ p ∧ p ≤ 23459 then 5 else 0) := by
  intro b
  rw [zaJ.j3]
  by_cases hb : b = true
  ·rw [if_pos hb, if_pos hb]
  rw [if_neg hb, if_neg hb]
  by_cases h : p ≥ 12288
  ·rw [if_pos h]
   by_cases h' : p ≤ 23459
   ·rw [if_pos h', if_pos ⟨h, h'⟩]
   rw [if_neg h', if_neg (fun x => h' x.2)]
  rw [if_neg h, if_neg (fun x => h x.1)]
 have e2 : ∀ b, zaJ.j2 (m + 2) p b = some (if b = true then 3 else if (12288 ≤ p ∧ p ≤ 23459) ∧ (p - 12288) % 28 = 0 then 4 else if 12288 ≤ p ∧ p ≤ 23459 then 5 else 0) := by
  intro b
  rw [zaJ.j2]
  by_cases hb : b = true
  ·rw [if_pos hb, if_pos hb]
  rw [if_neg hb, if_neg hb, e3, e3]
  by_cases h : p ≥ 12288
  ·rw [if_pos h]
   by_cases h' : p ≤ 23459
   ·rw [if_pos h', w64 (x := p - 12288) (by omega) (by omega), Int.tmod_eq_emod_of_nonneg (by omega)]
    congr 1
    by_cases h5 : (p - 12288) % 28 = 0
    ·rw [if_pos (beq_iff_eq.2 h5), if_pos ⟨⟨h, h'⟩, h5⟩]
    rw [if_neg (fun x => h5 (beq_iff_eq.1 x)), if_neg (c := (12288 ≤ p ∧ p ≤ 23459) ∧ (p - 12288) % 28 = 0) (fun x => h5 x.2)]
   rw [if_neg h', if_neg (c := false = true) (by decide), if_neg (c := (12288 ≤ p ∧ p ≤ 23459) ∧ (p - 12288) % 28 = 0) (fun x => h' x.1.2)]
  rw [if_neg h, if_neg (c := false = true) (by decide), if_neg (c := (12288 ≤ p ∧ p ≤ 23459) ∧ (p - 12288) % 28 = 0) (fun x => h x.1.1)]
 have e1 : ∀ b, zaJ.j1 (m + 3) p b = some (if b = true then 2 else if 1857 ≤ p ∧ p ≤ 1883 then 3 else if (12288 ≤ p ∧ p ≤ 23459) ∧ (p - 12288) % 28 = 0 then 4 else if 12288 ≤ p ∧ p ≤ 23459 then 5 else 0) := by
  intro b
  rw [zaJ.j1]
  by_cases hb : b = true
  ·rw [if_pos hb, if_pos hb]
  rw [if_neg hb, if_neg hb, e2, e2]
  by_cases h : p ≥ 1857
  ·rw [if_pos h]
   congr 1
   by_cases h' : p ≤ 1883
   ·rw [if_pos (decide_eq_true h'), if_pos ⟨h, h'⟩]
   rw [if_neg (fun x => h' (of_decide_eq_true x)), if_neg (c := 1857 ≤ p ∧ p ≤ 1883) (fun x => h' x.2)]
  rw [if_neg h, if_neg (c := false = true) (by decide), if_neg (c := 1857 ≤ p ∧ p ≤ 1883) (fun x => h x.1)]
 have e0 : ∀ b, zaJ.j0 (m + 4) p b = some (if b = true then 1 else if 1824 ≤ p ∧ p ≤ 1844 then 2 else if 1857 ≤ p ∧ p ≤ 1883 then 3 else if (12288 ≤ p ∧ p ≤ 23459) ∧ (p - 12288) % 28 = 0 then 4 else if 12288 ≤ p ∧ p ≤ 23459 then 5 else 0) := by
  intro b
  rw [zaJ.j0]
  by_cases hb : b = true
  ·rw [if_pos hb, if_pos hb]
  rw [if_neg hb, if_neg hb, e1, e1]
  by_cases h : p ≥ 1824
  ·rw [if_pos h]
   congr 1
   by_cases h' : p ≤ 1844
   ·rw [if_pos (decide_eq_true h'), if_pos ⟨h, h'⟩]
   rw [if_neg (fun x => h' (of_decide_eq_true x)), if_neg (c := 1824 ≤ p ∧ p ≤ 1844) (fun x => h' x.2)]
  rw [if_neg h, if_neg (c := false = true) (by decide), if_neg (c := 1824 ≤ p ∧ p ≤ 1844) (fun x => h x.1)]
 show zaJ.f (m + 4) p = _
 unfold zaJ.f part
 rw [e0, e0]
 have hb : (if p ≥ 1792 then some (if decide (p ≤ 1810) = true then (1 : Int) else if 1824 ≤ p ∧ p ≤ 1844 then 2 else if 1857 ≤ p ∧ p ≤ 1883 then 3 else if (12288 ≤ p ∧ p ≤ 23459) ∧ (p - 12288) % 28 = 0 then 4 else if 12288 ≤ p ∧ p ≤ 23459 then 5 else 0) else some (if false = true then 1 else if 1824 ≤ p ∧ p ≤ 1844 then 2 else if 1857 ≤ p ∧ p ≤ 1883 then 3 else if (12288 ≤ p ∧ p ≤ 23459) ∧ (p - 12288) % 28 = 0 then 4 else if 12288 ≤ p ∧ p ≤ 23459 then 5 else 0)) = some (if 1792 ≤ p ∧ p ≤ 1810 then (1 : Int) else if 1824 ≤ p ∧ p ≤ 1844 then 2 else if 1857 ≤ p ∧ p ≤ 1883 then 3 else if (12288 ≤ p ∧ p ≤ 23459) ∧ (p - 12288) % 28 = 0 then 4 else if 12288 ≤ p ∧ p ≤ 23459 then 5 else 0) := by
  by_cases h : p ≥ 1792
  ·rw [if_pos h]
   congr 1
   by_cases h' : p ≤ 1810
   ·rw [if_pos (decide_eq_true h'), if_pos ⟨h, h'⟩]
   rw [if_neg (fun x => h' (of_decide_eq_true x)), if_neg (c := 1792 ≤ p ∧ p ≤ 1810) (fun x => h' x.2)]
  rw [if_neg h, if_neg (c := false = true) (by decide), if_neg (c := 1792 ≤ p ∧ p ≤ 1810) (fun x => h x.1)]
 rw [hb]
 congr 1
 by_cases h3 : 1792 ≤ p ∧ p ≤ 1810
 ·rw [if_pos h3, if_pos (c3.2 h3)]
 rw [if_neg h3, if_neg (fun x => h3 (c3.1 x))]
 by_cases h4 : 1824 ≤ p ∧ p ≤ 1844
 ·rw [if_pos h4, if_pos (c4.2 h4)]
 rw [if_neg h4, if_neg (fun x => h4 (c4.1 x))]
 by_cases h5 : 1857 ≤ p ∧ p ≤ 1883
 ·rw [if_pos h5, if_pos (c5.2 h5)]
 rw [if_neg h5, if_neg (fun x => h5 (c5.1 x))]
 by_cases h6 : (12288 ≤ p ∧ p ≤ 23459) ∧ (p - 12288) % 28 = 0
 ·rw [if_pos h6, if_pos (c6.2 h6)]
 rw [if_neg h6, if_neg (fun x => h6 (c6.1 x))]
 by_cases h7 : 12288 ≤ p ∧ p ≤ 23459
 ·rw [if_pos h7, if_pos (c7.2 ⟨h7, fun h => h6 ⟨h7, h⟩⟩)]
 rw [if_neg h7, if_neg (fun x => h7 (c7.1 x).1)]
end Go.Proofs.YtbppeepihlajoaaDoor.P
namespace Go.Proofs.YtbppeepihlajoaaDoor.P
open Go.RowKit Go.Proofs.YtbppeepihlajoaaDoorW.PrintWords
set_option linter.unusedVariables false
theorem in08_l (p : Int) (s : ByteArray) (hs : s.size ≤ 1000) : ∀ (d i : Nat), s.size - i = d → i ≤ s.size → Ev (fun k => za7.l0 k p s (i : Int)) (oneB p (s.data.toList.drop i)) := by
 intro d
 induction d with
 | zero =>
  intro i hd hi
  refine Ev.step (fun k => by rw [za7.l0]) (Ev.neg (by omega) ((Ev.now _).to ?_))
  rw [List.drop_eq_nil_of_le (by simp; omega)]
  rfl
 | succ d ih =>
  intro i hd hi
  have hlt : i < s.size := by omega
  have hl : i < s.data.toList.length := by simpa using hlt
  have hb : bt s (i : Int) = (s.data.toList[i].toNat : Int) := by
   unfold bt
   rw [Int.toNat_natCast, dif_pos hlt]
   rfl
  have hr := bt_range s (i : Int)
  rw [List.drop_eq_getElem_cons hl]
  refine Ev.step (fun k => by rw [za7.l0, w64 (x := bt s (i : Int)) (by omega) (by omega), w_succ i (by omega)]) (Ev.pos (by omega) (Ev.pos (by omega) ?_))
  rw [hb]
  unfold oneB
  rw [List.any_cons]
  by_cases h : p = (s.data.toList[i].toNat : Int)
  ·refine Ev.pos h ((Ev.now _).to ?_)
   rw [show ((s.data.toList[i].toNat : Int) == p) = true from beq_iff_eq.2 h.symm]; rfl
  refine Ev.neg h ((ih (i + 1) (by omega) (by omega)).to ?_)
  rw [show ((s.data.toList[i].toNat : Int) == p) = false from beq_eq_false_iff_ne.2 (fun e => h e.symm)]; rfl
theorem in08_ev (p : Int) (s : ByteArray) (hs : s.size ≤ 1000) : Ev (fun k => za7.f k p s) (oneB p s.data.toList) := in08_l p s hs _ 0 rfl (by omega)
def lcl (p : Int) : Int :=
 if p = 10 ∨ p = 13 then 1 else if p = 32 ∨ p = 8064 then 2 else if p = 160 ∨ p = 7953 then 3 else if p = 7954 then 4 else if p = 45 ∨ p = 173 then 5
 else if oneB p [40, 91, 123, 60] = true then 6 else if oneB p [41, 93, 125, 62, 44, 46, 33, 63, 58, 59] = true then 7 else if oneB p [34, 39] = true then 8
 else if (kd p).1 = 8 then 9 else if (kd p).2 = 7 ∨ (kd p).2 = 9 ∨ (7680 ≤ p ∧ p ≤ 7743) then 10 else if (kd p).2 = 8 then 11
 else if 7760 ≤ p ∧ p ≤ 7785 then 12 else if 7744 ≤ p ∧ p ≤ 7748 then 13 else 0
theorem one_f (p : Int) (l : List UInt8) (h : (l.all fun b => decide (b.toNat < 128)) = true) : zbI.f p ⟨l.toArray⟩ = some (oneB p l) := by
 unfold zbI.f
 rw [if_pos (by simpa using h)]
theorem scr_ev (p : Int) (h0 : 0 ≤ p) : Ev (fun k => impl_Script.f k p) (kd p).2 := by
 unfold impl_Script.f
 exact Ev.bind (kind_ev p h0) (Ev.now _)
theorem sscr_ev (p : Int) (h0 : 0 ≤ p) (h1 : p < 1000000000) : Ev (fun k => zbw.f k p) (kd p).2 := by
 unfold zbw.f
 exact Ev.bind (known_ev p h0 h1) (Ev.now _)
theorem dig_ev (p : Int) (h0 : 0 ≤ p) : Ev (fun k => impl_isDigit.f k p) ((kd p).1 == 8) := by
 unfold impl_isDigit.f
 exact Ev.bind (cat_ev p h0) (Ev.now _)
theorem lineClass_ev (p : Int) (h0 : 0 ≤ p) : Ev (fun k => zax.f k p) (lcl p) := by
 have j4 : ∀ b : Bool, Ev (fun k => zax.j4 k p (kd p).2 b) (if b = true then 10 else if (kd p).2 = 8 then 11 else if 7760 ≤ p ∧ p ≤ 7785 then 12 else if 7744 ≤ p ∧ p ≤ 7748 then 13 else 0) := by
  intro b
  refine Ev.step (fun k => by rw [zax.j4]) ?_
  by_cases hb : b = true
  ·exact Ev.pos hb ((Ev.now _).to (if_pos hb).symm)
  refine Ev.neg hb ?_
  rw [if_neg hb]
  by_cases h8 : (kd p).2 = 8
  ·exact Ev.pos h8 ((Ev.now _).to (if_pos h8).symm)
  refine Ev.neg h8 ?_
  rw [if_neg h8]
  refine Ev.bind (Ev.done (in_dec _ _ _)) ?_
  by_cases h1 : 7760 ≤ p ∧ p ≤ 7785
  ·rw [if_pos h1]; exact Ev.pos (decide_eq_true h1) (Ev.now _)
  rw [if_neg h1]
  refine Ev.neg (fun x => h1 (of_decide_eq_true x)) (Ev.bind (Ev.done (in_dec _ _ _)) ?_)
  by_cases h2 : 7744 ≤ p ∧ p ≤ 7748
  ·rw [if_pos h2]; exact Ev.pos (decide_eq_true h2) (Ev.now _)
  rw [if_neg h2]; exact Ev.neg (fun x => h2 (of_decide_eq_true x)) (Ev.now _)
 have j3 : ∀ b : Bool, Ev (fun k => zax.j3 k p (kd p).2 b) (if b = true then 5 else if oneB p [40, 91, 123, 60] = true then 6 else if oneB p [41, 93, 125, 62, 44, 46, 33, 63, 58, 59] = true then 7 else if oneB p [34, 39] = true then 8 else if (kd p).1 = 8 then 9 else if (kd p).2 = 7 ∨ (kd p).2 = 9 ∨ (7680 ≤ p ∧ p ≤ 7743) then 10 else if (kd p).2 = 8 then 11 else if 7760 ≤ p ∧ p ≤ 7785 then 12 else if 7744 ≤ p ∧ p ≤ 7748 then 13 else 0) := by
  intro b
  refine Ev.step (fun k => by rw [zax.j3]) ?_
  by_cases hb : b = true
  ·rw [if_pos hb]; exact Ev.pos hb (Ev.now _)
  rw [if_neg hb]
  refine Ev.neg hb (Ev.bind (Ev.done (one_f p [40, 91, 123, 60] rfl)) ?_)
  by_cases h1 : oneB p [40, 91, 123, 60] = true
  ·rw [if_pos h1]; exact Ev.pos h1 (Ev.now _)
  rw [if_neg h1]
  refine Ev.neg h1 (Ev.bind (Ev.done (one_f p [41, 93, 125, 62, 44, 46, 33, 63, 58, 59] rfl)) ?_)
  by_cases h2 : oneB p [41, 93, 125, 62, 44, 46, 33, 63, 58, 59] = true
  ·rw [if_pos h2]; exact Ev.pos h2 (Ev.now _)
  rw [if_neg h2]
  refine Ev.neg h2 (Ev.bind (Ev.done (one_f p [34, 39] rfl)) ?_)
  by_cases h3 : oneB p [34, 39] = true
  ·rw [if_pos h3]; exact Ev.pos h3 (Ev.now _)
  rw [if_neg h3]
  refine Ev.neg h3 (Ev.bind (dig_ev p h0) ?_)
  by_cases h4 : (kd p).1 = 8
  ·rw [if_pos h4]; exact Ev.pos (beq_iff_eq.2 h4) (Ev.now _)
  rw [if_neg h4]
  refine Ev.neg (fun x => h4 (beq_iff_eq.1 x)) ?_
  by_cases h5 : (kd p).2 = 7
  ·rw [if_pos (.inl h5)]; exact Ev.pos h5 ((j4 true).to (if_pos rfl))
  refine Ev.neg h5 ?_
  by_cases h6 : (kd p).2 = 9
  ·rw [if_pos (.inr (.inl h6))]; exact Ev.pos h6 ((j4 true).to (if_pos rfl))
  refine Ev.neg h6 (Ev.bind (Ev.done (by unfold za3.f; rw [in_dec]; rfl)) ?_)
  by_cases h7 : 7680 ≤ p ∧ p ≤ 7743
  ·rw [if_pos (.inr (.inr h7)), decide_eq_true h7]; exact (j4 true).to (if_pos rfl)
  rw [if_neg (c := (kd p).2 = 7 ∨ (kd p).2 = 9 ∨ (7680 ≤ p ∧ p ≤ 7743)) (by omega), decide_eq_false h7]; exact (j4 false).to (if_neg (by decide))
 unfold zax.f
 refine Ev.bind (scr_ev p h0) ?_
 unfold lcl
 by_cases a1 : p = 10
 ·rw [if_pos (.inl a1)]; exact Ev.pos a1 (Ev.step (fun k => by rw [zax.j0]) (Ev.pos rfl (Ev.now _)))
 refine Ev.neg a1 (Ev.step (fun k => by rw [zax.j0]) ?_)
 by_cases a2 : p = 13
 ·rw [if_pos (.inr a2)]; exact Ev.pos (beq_iff_eq.2 a2) (Ev.now _)
 rw [if_neg (c := p = 10 ∨ p = 13) (by omega)]
 refine Ev.neg (fun x => a2 (beq_iff_eq.1 x)) ?_
 by_cases a3 : p = 32
 ·rw [if_pos (.inl a3)]; exact Ev.pos a3 (Ev.step (fun k => by rw [zax.j1]) (Ev.pos rfl (Ev.now _)))
 refine Ev.neg a3 (Ev.step (fun k => by rw [zax.j1]) ?_)
 by_cases a4 : p = 8064
 ·rw [if_pos (.inr a4)]; exact Ev.pos (beq_iff_eq.2 a4) (Ev.now _)
 rw [if_neg (c := p = 32 ∨ p = 8064) (by omega)]
 refine Ev.neg (fun x => a4 (beq_iff_eq.1 x)) ?_
 by_cases a5 : p = 160
 ·rw [if_pos (.inl a5)]; exact Ev.pos a5 (Ev.step (fun k => by rw [zax.j2]) (Ev.pos rfl (Ev.now _)))
 refine Ev.neg a5 (Ev.step (fun k => by rw [zax.j2]) ?_)
 by_cases a6 : p = 7953
 ·rw [if_pos (.inr a6)]; exact Ev.pos (beq_iff_eq.2 a6) (Ev.now _)
 rw [if_neg (c := p = 160 ∨ p = 7953) (by omega)]
 refine Ev.neg (fun x => a6 (beq_iff_eq.1 x)) ?_
 by_cases a7 : p = 7954
 ·rw [if_pos a7]; exact Ev.pos a7 (Ev.now _)
 rw [if_neg a7]
 refine Ev.neg a7 ?_
 by_cases a8 : p = 45
 ·rw [if_pos (.inl a8)]; exact Ev.pos a8 ((j3 true).to (if_pos rfl))
 refine Ev.neg a8 ?_
 by_cases a9 : p = 173
 ·rw [if_pos (.inr a9), show (p == 173) = true from beq_iff_eq.2 a9]; exact (j3 true).to (if_pos rfl)
 rw [if_neg (c := p = 45 ∨ p = 173) (by omega), show (p == 173) = false from beq_eq_false_iff_ne.2 a9]
 exact (j3 false).to (if_neg (by decide))
theorem kd_flag (p : Int) (h : 7680 ≤ p ∧ p ≤ 7785) : (kd p).2 = 0 := by
 rcases kd_cases p with e | ⟨a, b, r, hr, c, d, e⟩ | ⟨a, b, e | e⟩ | ⟨a, b, r, hr, c, d, e⟩
 ·rw [e]
 ·omega
 ·omega
 ·omega
 rw [e]
 have key : ∀ r ∈ kdLow ++ kdHi, r.f3 = 0 ∨ r.f1 < 7680 ∨ 7785 < r.f0 := by decide
 have := key r hr
 show r.f3 = 0
 omega
theorem sclass_ev (p : Int) (h0 : 0 ≤ p) (h1 : p < 1000000000) : Ev (fun k => zay.f k p) (lcl p) := by
 have hk := kd_flag p
 have j5 : ∀ b : Bool, Ev (fun k => zay.j5 k p b) (if b = true then 10 else if (kd p).2 = 8 then 11 else 0) := by
  intro b
  refine Ev.step (fun k => by rw [zay.j5]) ?_
  by_cases hb : b = true
  ·rw [if_pos hb]; exact Ev.pos hb (Ev.now _)
  rw [if_neg hb]
  refine Ev.neg hb (Ev.bind (sscr_ev p h0 h1) ?_)
  by_cases h8 : (kd p).2 = 8
  ·exact Ev.pos h8 ((Ev.now _).to (if_pos h8).symm)
  exact Ev.neg h8 ((Ev.now _).to (if_neg h8).symm)
 have j4 : ∀ b : Bool, Ev (fun k => zay.j4 k p b) (if b = true then 13 else if (kd p).2 = 7 ∨ (kd p).2 = 9 ∨ (7680 ≤ p ∧ p ≤ 7743) then 10 else if (kd p).2 = 8 then 11 else 0) := by
  intro b
  refine Ev.step (fun k => by rw [zay.j4]) ?_
  by_cases hb : b = true
  ·rw [if_pos hb]; exact Ev.pos hb (Ev.now _)
  rw [if_neg hb]
  refine Ev.neg hb (Ev.bind (sscr_ev p h0 h1) ?_)
  by_cases h5 : (kd p).2 = 7
  ·rw [if_pos (.inl h5)]; exact Ev.pos h5 ((j5 true).to (if_pos rfl))
  refine Ev.neg h5 (Ev.bind (sscr_ev p h0 h1) ?_)
  by_cases h6 : (kd p).2 = 9
  ·rw [if_pos (.inr (.inl h6))]; exact Ev.pos h6 ((j5 true).to (if_pos rfl))
  refine Ev.neg h6 (Ev.bind (Ev.done (picture_f p)) ?_)
  have hc := (cls_iff p).2.2.2.2.2.2.2.1
  by_cases h7 : 7680 ≤ p ∧ p ≤ 7743
  ·rw [if_pos (.inr (.inr h7)), decide_eq_true (hc.2 h7)]; exact (j5 true).to (if_pos rfl)
  rw [if_neg (c := (kd p).2 = 7 ∨ (kd p).2 = 9 ∨ (7680 ≤ p ∧ p ≤ 7743)) (by omega), decide_eq_false (fun x => h7 (hc.1 x))]; exact (j5 false).to (if_neg (by decide))
 have j3 : ∀ b : Bool, Ev (fun k => zay.j3 k p b) (if b = true then 5 else if oneB p [40, 91, 123, 60] = true then 6 else if oneB p [41, 93, 125, 62, 44, 46, 33, 63, 58, 59] = true then 7 else if oneB p [34, 39] = true then 8 else if (kd p).1 = 8 then 9 else if (kd p).2 = 7 ∨ (kd p).2 = 9 ∨ (7680 ≤ p ∧ p ≤ 7743) then 10 else if (kd p).2 = 8 then 11 else if 7760 ≤ p ∧ p ≤ 7785 then 12 else if 7744 ≤ p ∧ p ≤ 7748 then 13 else 0) := by
  intro b
  refine Ev.step (fun k => by rw [zay.j3]) ?_
  by_cases hb : b = true
  ·rw [if_pos hb]; exact Ev.pos hb (Ev.now _)
  rw [if_neg hb]
  refine Ev.neg hb (Ev.bind (in08_ev p _ (by decide)) ?_)
  by_cases h1' : oneB p [40, 91, 123, 60] = true
  ·rw [if_pos h1']; exact Ev.pos h1' (Ev.now _)
  rw [if_neg h1']
  refine Ev.neg h1' (Ev.bind (in08_ev p _ (by decide)) ?_)
  by_cases h2 : oneB p [41, 93, 125, 62, 44, 46, 33, 63, 58, 59] = true
  ·rw [if_pos h2]; exact Ev.pos h2 (Ev.now _)
  rw [if_neg h2]
  refine Ev.neg h2 (Ev.bind (in08_ev p _ (by decide)) ?_)
  by_cases h3 : oneB p [34, 39] = true
  ·rw [if_pos h3]; exact Ev.pos h3 (Ev.now _)
  rw [if_neg h3]
  refine Ev.neg h3 (Ev.bind (scat_ev p h0 h1) ?_)
  by_cases h4 : (kd p).1 = 8
  ·rw [if_pos h4]; exact Ev.pos h4 (Ev.now _)
  rw [if_neg h4]
  refine Ev.neg h4 (Ev.bind (Ev.done (flag_f p)) ?_)
  have hf := (cls_iff p).2.2.2.2.2.2.2.2
  by_cases h5 : 7760 ≤ p ∧ p ≤ 7785
  ·have h0' := hk (by omega)
   refine Ev.pos (decide_eq_true (hf.2 h5)) ((Ev.now _).to ?_)
   rw [if_neg (c := (kd p).2 = 7 ∨ (kd p).2 = 9 ∨ (7680 ≤ p ∧ p ≤ 7743)) (by omega), if_neg (c := (kd p).2 = 8) (by omega), if_pos h5]
  refine Ev.neg (fun x => h5 (hf.1 (of_decide_eq_true x))) ?_
  by_cases h6 : p ≥ 7744
  ·refine Ev.pos h6 ?_
   by_cases h7 : p ≤ 7748
   ·have h0' := hk (by omega)
    rw [decide_eq_true h7]
    refine (j4 true).to ?_
    rw [if_pos rfl, if_neg (c := (kd p).2 = 7 ∨ (kd p).2 = 9 ∨ (7680 ≤ p ∧ p ≤ 7743)) (by omega), if_neg (c := (kd p).2 = 8) (by omega), if_neg h5, if_pos (c := 7744 ≤ p ∧ p ≤ 7748) (by omega)]
   rw [decide_eq_false h7]
   refine (j4 false).to ?_
   rw [if_neg (by decide), if_neg (c := 7760 ≤ p ∧ p ≤ 7785) h5, if_neg (c := 7744 ≤ p ∧ p ≤ 7748) (by omega)]
  refine Ev.neg h6 ((j4 false).to ?_)
  rw [if_neg (by decide), if_neg (c := 7760 ≤ p ∧ p ≤ 7785) h5, if_neg (c := 7744 ≤ p ∧ p ≤ 7748) (by omega)]
 unfold zay.f lcl
 by_cases a1 : p = 10
 ·rw [if_pos (.inl a1)]; exact Ev.pos a1 (Ev.step (fun k => by rw [zay.j0]) (Ev.pos rfl (Ev.now _)))
 refine Ev.neg a1 (Ev.step (fun k => by rw [zay.j0]) ?_)
 by_cases a2 : p = 13
 ·rw [if_pos (.inr a2)]; exact Ev.pos (beq_iff_eq.2 a2) (Ev.now _)
 rw [if_neg (c := p = 10 ∨ p = 13) (by omega)]
 refine Ev.neg (fun x => a2 (beq_iff_eq.1 x)) ?_
 by_cases a3 : p = 32
 ·rw [if_pos (.inl a3)]; exact Ev.pos a3 (Ev.step (fun k => by rw [zay.j1]) (Ev.pos rfl (Ev.now _)))
 refine Ev.neg a3 (Ev.step (fun k => by rw [zay.j1]) ?_)
 by_cases a4 : p = 8064
 ·rw [if_pos (.inr a4)]; exact Ev.pos (beq_iff_eq.2 a4) (Ev.now _)
 rw [if_neg (c := p = 32 ∨ p = 8064) (by omega)]
 refine Ev.neg (fun x => a4 (beq_iff_eq.1 x)) ?_
 by_cases a5 : p = 160
 ·rw [if_pos (.inl a5)]; exact Ev.pos a5 (Ev.step (fun k => by rw [zay.j2]) (Ev.pos rfl (Ev.now _)))
 refine Ev.neg a5 (Ev.step (fun k => by rw [zay.j2]) ?_)
 by_cases a6 : p = 7953
 ·rw [if_pos (.inr a6)]; exact Ev.pos (beq_iff_eq.2 a6) (Ev.now _)
 rw [if_neg (c := p = 160 ∨ p = 7953) (by omega)]
 refine Ev.neg (fun x => a6 (beq_iff_eq.1 x)) ?_
 by_cases a7 : p = 7954
 ·rw [if_pos a7]; exact Ev.pos a7 (Ev.now _)
 rw [if_neg a7]
 refine Ev.neg a7 ?_
 by_cases a8 : p = 45
 ·rw [if_pos (.inl a8)]; exact Ev.pos a8 ((j3 true).to (if_pos rfl))
 refine Ev.neg a8 ?_
 by_cases a9 : p = 173
 ·rw [if_pos (.inr a9), show (p == 173) = true from beq_iff_eq.2 a9]; exact (j3 true).to (if_pos rfl)
 rw [if_neg (c := p = 45 ∨ p = 173) (by omega), show (p == 173) = false from beq_eq_false_iff_ne.2 a9]
 exact (j3 false).to (if_neg (by decide))
def mkP (p : Int) : Bool := ((kd p).1 == 3) || (p == 7936)
theorem isMark_ev (p : Int) (h0 : 0 ≤ p) : Ev (fun k => impl_isMark.f k p) ((kd p).1 == 3) := by
 unfold impl_isMark.f
 exact Ev.bind (cat_ev p h0) (Ev.now _)
def rw1 : List Int → Option Int → List (Int × Bool)
 | [], _ => []
 | p :: r, prev => lnC prev (lcl p) (mkP p) :: rw1 r (some (lnC prev (lcl p) (mkP p)).1)
theorem ln1_ev : ∀ (l : List Int), (∀ p ∈ l, 0 ≤ p) → ∀ prev, Ev (fun k => ln1 k l prev) (rw1 l prev)
 | [], _, prev => Ev.now _
 | p :: r, hp, prev => by
  unfold rw1
  show Ev (fun k => (zax.f k p).bind fun c => (impl_isMark.f k p).bind fun m => (ln1 k r (some (lnC prev c (m || (p == 7936))).1)).bind fun t => some (lnC prev c (m || (p == 7936)) :: t)) _
  exact Ev.bind (lineClass_ev p (hp p List.mem_cons_self)) (Ev.bind (isMark_ev p (hp p List.mem_cons_self)) (Ev.bind (ln1_ev r (fun q hq => hp q (List.mem_cons_of_mem _ hq)) _) (Ev.now _)))
theorem rw1_len : ∀ (l : List Int) prev, (rw1 l prev).length = l.length
 | [], _ => rfl
 | p :: r, prev => by rw [rw1, List.length_cons, List.length_cons, rw1_len r]
end Go.Proofs.YtbppeepihlajoaaDoor.P
namespace Go.Proofs.YtbppeepihlajoaaDoor.P
open Go.RowKit Go.Proofs.YtbppeepihlajoaaDoorW.PrintWords
set_option linter.unusedVariables false
structure RowOk (C : Nat → Int) (K : Nat → Bool) (n : Nat) : Prop where
 k0 : K 0 = false
 took : ∀ i, i + 1 < n → K (i + 1) = true → C (i + 1) = C i ∧ C i ≠ 1 ∧ C i ≠ 2 ∧ C i ≠ 4
theorem rw1_get : ∀ (l : List Int) (prev : Option Int) (i : Nat) (h : i < l.length), (rw1 l prev)[i]? = some (lnC (if i = 0 then prev else ((rw1 l prev)[i - 1]?).map (·.1)) (lcl l[i]) (mkP l[i]))
 | [], _, i, h => absurd h (by simp)
 | p :: r, prev, 0, h => by simp [rw1]
 | p :: r, prev, 1, h => by
  have ih := rw1_get r (some (lnC prev (lcl p) (mkP p)).1) 0 (by simpa using h)
  rw [rw1, List.getElem?_cons_succ, ih]
  simp
 | p :: r, prev, i + 2, h => by
  have ih := rw1_get r (some (lnC prev (lcl p) (mkP p)).1) (i + 1) (by simp at h; omega)
  rw [rw1, List.getElem?_cons_succ, ih]
  simp
theorem row_ok (l : List Int) : RowOk (fun i => rd ((rw1 l none).map (·.1)) (i : Int)) (fun i => rdOf false ((rw1 l none).map (·.2)) (i : Int)) l.length := by
 have hl := rw1_len l none
 refine ⟨?_, fun i hi hk => ?_⟩
 ·show rdOf false ((rw1 l none).map (·.2)) ((0 : Nat) : Int) = false
  cases l with
  | nil => rfl
  | cons p r =>
   rw [rw1]
   show (lnC none (lcl p) (mkP p)).2 = false
   unfold lnC
   split <;> rfl
 have h1 := rw1_get l none (i + 1) hi
 rw [if_neg (by omega), Nat.add_sub_cancel, List.getElem?_eq_getElem (l := rw1 l none) (i := i) (by omega), List.getElem?_eq_getElem (l := rw1 l none) (i := i + 1) (by omega)] at h1
 have h2 := Option.some.inj h1
 have ec : ∀ j (h : j < (rw1 l none).length), rd ((rw1 l none).map (·.1)) (j : Int) = (rw1 l none)[j].1 := fun j h => by simp [rd, h]
 have ek : ∀ j (h : j < (rw1 l none).length), rdOf false ((rw1 l none).map (·.2)) (j : Int) = (rw1 l none)[j].2 := fun j h => by simp [rdOf, h]
 have hk' : (rw1 l none)[i + 1].2 = true := by rw [← ek (i + 1) (by omega)]; exact hk
 show rd ((rw1 l none).map (·.1)) ((i + 1 : Nat) : Int) = rd ((rw1 l none).map (·.1)) (i : Int) ∧ rd ((rw1 l none).map (·.1)) (i : Int) ≠ 1 ∧ rd ((rw1 l none).map (·.1)) (i : Int) ≠ 2 ∧ rd ((rw1 l none).map (·.1)) (i : Int) ≠ 4
 rw [ec (i + 1) (by omega), ec i (by omega)]
 rw [h2] at hk' ⊢
 unfold lnC at hk' ⊢
 by_cases hm : mkP l[i + 1] = true
 ·rw [if_pos hm] at hk' ⊢
  simp only [Option.map_some] at hk' ⊢
  by_cases hd : (rw1 l none)[i].1 = 1 ∨ (rw1 l none)[i].1 = 2 ∨ (rw1 l none)[i].1 = 4
  ·rw [if_pos hd] at hk'
   cases hk'
  rw [if_neg hd]
  exact ⟨rfl, by omega, by omega, by omega⟩
 rw [if_neg hm] at hk'
 cases hk'
theorem row_end (l : List Int) (i : Nat) (h : i < l.length) (he : l[i] = 10 ∨ l[i] = 13) : rd ((rw1 l none).map (·.1)) (i : Int) = 1 := by
 have hl := rw1_len l none
 have h1 := rw1_get l none i h
 rw [List.getElem?_eq_getElem (l := rw1 l none) (i := i) (by omega)] at h1
 have h2 := Option.some.inj h1
 have ec : rd ((rw1 l none).map (·.1)) (i : Int) = (rw1 l none)[i].1 := by simp [rd, show i < (rw1 l none).length by omega]
 have hm : mkP l[i] = false := by rcases he with e | e <;> rw [e] <;> decide +kernel
 have hc : lcl l[i] = 1 := by unfold lcl; rw [if_pos he]
 rw [ec, h2, hm, hc]
 rfl
def baseS (K : Nat → Bool) : Nat → Nat
 | 0 => 0
 | j + 1 => if K (j + 1) = true then baseS K j else j + 1
def bsS (K : Nat → Bool) : Nat → List Int
 | 0 => []
 | i + 1 => if K i = true then bsS K i else bsS K i ++ [(i : Int)]
def behS (C : Nat → Int) (c : Int) : Nat → Bool
 | 0 => false
 | i + 1 => if C i = 2 then behS C c i else (C i == c)
def flS (C : Nat → Int) (K : Nat → Bool) : Nat → Int
 | 0 => 0
 | i + 1 => if C i = 12 then (if K i = true then flS C K i else flS C K i + 1) else 0
theorem baseS_le (K : Nat → Bool) : ∀ j, baseS K j ≤ j
 | 0 => Nat.le_refl _
 | j + 1 => by have := baseS_le K j; unfold baseS; split <;> omega
theorem bsS_eq (K : Nat → Bool) (k0 : K 0 = false) : ∀ j, bsS K (j + 1) = bsS K (baseS K j) ++ [(baseS K j : Int)]
 | 0 => by simp [bsS, baseS, k0]
 | j + 1 => by
  have ih := bsS_eq K k0 j
  rw [bsS, baseS]
  by_cases h : K (j + 1) = true
  ·rw [if_pos h, if_pos h, ih]
  rw [if_neg h, if_neg h]
theorem flS_bd (C : Nat → Int) (K : Nat → Bool) : ∀ i, 0 ≤ flS C K i ∧ flS C K i ≤ i
 | 0 => ⟨Int.le_refl _, Int.le_refl _⟩
 | i + 1 => by
  have := flS_bd C K i
  unfold flS
  split
  ·split <;> omega
  omega
theorem base_class {C : Nat → Int} {K : Nat → Bool} {n : Nat} (h : RowOk C K n) : ∀ j, j < n → C (baseS K j) = C j
 | 0, _ => rfl
 | j + 1, hj => by
  rw [baseS]
  by_cases hk : K (j + 1) = true
  ·rw [if_pos hk, base_class h j (by omega), (h.took j hj hk).1]
  rw [if_neg hk]
theorem flS_took {C : Nat → Int} {K : Nat → Bool} {n : Nat} (h : RowOk C K n) (i : Nat) (hi : i < n) (hk : K i = true) : flS C K (i + 1) = flS C K i := by
 cases i with
 | zero => rw [h.k0] at hk; cases hk
 | succ j =>
  have ht := h.took j hi hk
  rw [flS]
  by_cases hc : C (j + 1) = 12
  ·rw [if_pos hc, if_pos hk]
  rw [if_neg hc, flS, if_neg (by rw [← ht.1]; exact hc)]
theorem behS_took {C : Nat → Int} {K : Nat → Bool} {n : Nat} (h : RowOk C K n) (c : Int) (i : Nat) (hi : i < n) (hk : K i = true) : behS C c (i + 1) = behS C c i := by
 cases i with
 | zero => rw [h.k0] at hk; cases hk
 | succ j =>
  have ht := h.took j hi hk
  rw [behS, if_neg (by rw [ht.1]; exact ht.2.2.1), behS, if_neg ht.2.2.1, ht.1]
def dgB (l : List Int) (C : Nat → Int) (b : Nat) : Bool := oneB (rd l (b : Int)) [44, 46] && (decide (0 < b) && (C (b - 1) == 9))
theorem rd_snoc (l : List Int) (x : Int) : rd (l ++ [x]) (((l ++ [x]).length : Int) - 1) = x := by
 rw [List.length_append, List.length_singleton, show ((l.length + 1 : Nat) : Int) - 1 = (l.length : Int) by omega]
 simp [rd]
theorem rd_snoc2 (l : List Int) (x y : Int) : rd ((l ++ [x]) ++ [y]) ((((l ++ [x]) ++ [y]).length : Int) - 2) = x := by
 rw [List.length_append, List.length_append, List.length_singleton, List.length_singleton, show ((l.length + 1 + 1 : Nat) : Int) - 2 = (l.length : Int) by omega]
 simp [rd]
theorem digP_eq {l cl : List Int} {K : Nat → Bool} {n : Nat} (h : RowOk (fun i => rd cl (i : Int)) K n) (j : Nat) (hj : j < n) : digP l cl (bsS K (j + 1)) = dgB l (fun i => rd cl (i : Int)) (baseS K j) := by
 rw [bsS_eq K h.k0]
 have hle := baseS_le K j
 unfold digP dgB
 rw [rd_snoc]
 cases hb : baseS K j with
 | zero => simp [bsS]
 | succ b =>
  have hc := base_class h b (by omega)
  rw [bsS_eq K h.k0, rd_snoc2]
  have e1 : decide (1 < ((bsS K (baseS K b) ++ [(baseS K b : Int)]) ++ [((b + 1 : Nat) : Int)]).length) = true := decide_eq_true (by simp)
  have e2 : decide (0 < b + 1) = true := decide_eq_true (by omega)
  rw [e1, e2, Bool.true_and, Bool.true_and, Nat.add_sub_cancel]
  show (_ && (rd cl (baseS K b : Int) == 9)) = _
  have hc' : rd cl (baseS K b : Int) = rd cl (b : Int) := hc
  rw [hc']
theorem ln2_eq {l cl : List Int} {tk ch : List Bool} {n : Nat} (h : RowOk (fun i => rd cl (i : Int)) (fun i => rdOf false tk (i : Int)) n) (hn : n ≤ 1000000000) : ∀ m i, i + m = n →
  ln2 l cl tk ch m i (bsS (fun i => rdOf false tk (i : Int)) i) (flS (fun i => rd cl (i : Int)) (fun i => rdOf false tk (i : Int)) i) (behS (fun i => rd cl (i : Int)) 6 i) (behS (fun i => rd cl (i : Int)) 4 i) =
   (List.range' i m).map fun (i : Nat) => if i = 0 then (false, false) else lnB (rdOf false tk (i : Int)) (rdOf false ch (i : Int)) (rd l ((i : Int) - 1)) (rd l (i : Int)) (rd cl (i : Int)) (rd cl ((i : Int) - 1)) (behS (fun i => rd cl (i : Int)) 4 i) (behS (fun i => rd cl (i : Int)) 6 i) (digP l cl (bsS (fun i => rdOf false tk (i : Int)) i)) (flS (fun i => rd cl (i : Int)) (fun i => rdOf false tk (i : Int)) i)
 | 0, i, _ => rfl
 | m + 1, i, hi => by
  have ih := ln2_eq h hn (l := l) (ch := ch) m (i + 1) (by omega)
  rw [ln2, List.range'_succ, List.map_cons]
  congr 1
  by_cases hk : rdOf false tk (i : Int) = true
  ·rw [if_pos hk, ← ih, flS_took h i (by omega) hk, behS_took h 6 i (by omega) hk, behS_took h 4 i (by omega) hk, bsS, if_pos hk]
  have hb := flS_bd (fun i => rd cl (i : Int)) (fun i => rdOf false tk (i : Int)) i
  rw [if_neg hk, ← ih, bsS, if_neg hk, flS, behS, behS]
  congr 1
  by_cases hc : rd cl (i : Int) = 12
  ·rw [if_pos hc, if_pos hc, if_neg hk, w64 (by omega) (by omega)]
  rw [if_neg hc, if_neg hc]
theorem sbase_ev {p at_ cl : List Int} {tk : List Bool} (k0 : rdOf false tk ((0 : Nat) : Int) = false) (hn : tk.length ≤ 1000000000) : ∀ j : Nat, j < tk.length → Ev (fun k => zbh.l0 k (j : Int) p at_ cl tk) ((baseS (fun i => rdOf false tk (i : Int)) j : Nat) : Int)
 | 0, hj => by
  have e : ∀ k, zbh.l0 (k + 1) ((0 : Nat) : Int) p at_ cl tk = some ((0 : Nat) : Int) := fun k => by rw [zbh.l0, if_pos (by omega), if_pos (by omega), if_neg (by rw [k0]; decide)]
  exact Ev.step e (Ev.now _)
 | j + 1, hj => by
  have ih := sbase_ev k0 hn (p := p) (at_ := at_) (cl := cl) j (by omega)
  refine Ev.step (fun k => by rw [zbh.l0, w64 (x := ((j + 1 : Nat) : Int) - 1) (by omega) (by omega), show ((j + 1 : Nat) : Int) - 1 = (j : Int) by omega]) (Ev.pos (by omega) (Ev.pos (by omega) ?_))
  rw [baseS]
  by_cases hk : rdOf false tk ((j + 1 : Nat) : Int) = true
  ·rw [if_pos hk]; exact Ev.pos hk ih
  rw [if_neg hk]; exact Ev.neg hk (Ev.now _)
theorem sbeh_ev {p at_ cl : List Int} {tk : List Bool} (c : Int) (hn : cl.length ≤ 1000000000) : ∀ i : Nat, i ≤ cl.length → Ev (fun k => zaQ.l0 k c ((i : Int) - 1) p at_ cl tk) (behS (fun i => rd cl (i : Int)) c i)
 | 0, _ => by
  have e : ∀ k, zaQ.l0 (k + 1) c (((0 : Nat) : Int) - 1) p at_ cl tk = some false := fun k => by rw [zaQ.l0, if_neg (by omega)]
  exact Ev.step e (Ev.now _)
 | i + 1, hi => by
  have ih := sbeh_ev c hn (p := p) (at_ := at_) (tk := tk) i (by omega)
  rw [show ((i + 1 : Nat) : Int) - 1 = (i : Int) by omega]
  refine Ev.step (fun k => by rw [zaQ.l0, w64 (x := (i : Int) - 1) (by omega) (by omega)]) (Ev.pos (by omega) (Ev.pos (by omega) (Ev.pos (by omega) ?_)))
  rw [behS]
  by_cases h2 : rd cl (i : Int) = 2
  ·rw [if_pos h2]; exact Ev.pos h2 ih
  rw [if_neg h2]; exact Ev.neg h2 (Ev.now _)
theorem sfl_ev {p at_ cl : List Int} {tk : List Bool} (hn : cl.length ≤ 1000000000) (ht : tk.length = cl.length) : ∀ i : Nat, i ≤ cl.length → ∀ acc : Nat, acc + i ≤ 1000000000 → Ev (fun k => zaL.l0 k ((i : Int) - 1) (acc : Int) p at_ cl tk) ((acc : Int) + flS (fun i => rd cl (i : Int)) (fun i => rdOf false tk (i : Int)) i)
 | 0, _, acc, _ => by
  refine Ev.step (fun k => by rw [zaL.l0]) (Ev.neg (by omega) ?_)
  refine Ev.step (fun k => by rw [zaL.j1]) (Ev.neg (by decide) ((Ev.now _).to ?_))
  simp [flS]
 | i + 1, hi, acc, ha => by
  have ih := sfl_ev hn ht (p := p) (at_ := at_) i (by omega)
  rw [show ((i + 1 : Nat) : Int) - 1 = (i : Int) by omega]
  refine Ev.step (fun k => by rw [zaL.l0]) (Ev.pos (by omega) (Ev.pos (by omega) (Ev.pos (by omega) ?_)))
  refine Ev.step (fun k => by rw [zaL.j1, w64 (x := (i : Int) - 1) (by omega) (by omega), w_succ acc (by omega)]) ?_
  rw [flS]
  by_cases hc : rd cl (i : Int) = 12
  ·rw [if_pos hc]
   refine Ev.pos (beq_iff_eq.2 hc) (Ev.pos (by omega) (Ev.pos (by omega) ?_))
   by_cases hk : rdOf false tk (i : Int) = true
   ·rw [if_pos hk]; exact Ev.pos hk (ih acc (by omega))
   rw [if_neg hk]; exact Ev.neg hk ((ih (acc + 1) (by omega)).to (by omega))
  rw [if_neg hc]
  exact Ev.neg (fun x => hc (beq_iff_eq.1 x)) ((Ev.now _).to (by omega))
end Go.Proofs.YtbppeepihlajoaaDoor.P
namespace Go.Proofs.YtbppeepihlajoaaDoor.P
open Go.RowKit Go.Proofs.YtbppeepihlajoaaDoorW.PrintWords
set_option linter.unusedVariables false
theorem rd_lt (l : List Int) (i : Nat) (h : i < l.length) : rd l (i : Int) = l[i] := by simp [rd, h]
def bndS (l : List Int) : Nat → Bool
 | 0 => false
 | i + 1 => (rd l (i : Int) == 1584) || ((rd l (i : Int) == 1585) && bndS l i)
def picS (l : List Int) : Nat → Bool
 | 0 => false
 | i + 1 => if cls (rd l (i : Int)) = 2 then picS l i else (cls (rd l (i : Int)) == 8)
def flgS (l : List Int) : Nat → Int
 | 0 => 0
 | i + 1 => if cls (rd l (i : Int)) = 9 then flgS l i + 1 else 0
theorem flgS_le (l : List Int) : ∀ i, 0 ≤ flgS l i ∧ flgS l i ≤ i
 | 0 => ⟨Int.le_refl _, Int.le_refl _⟩
 | i + 1 => by
  have := flgS_le l i
  unfold flgS
  by_cases h : cls (rd l (i : Int)) = 9
  ·rw [if_pos h]; omega
  rw [if_neg h]; omega
theorem bound_ev (l : List Int) (hl : l.length ≤ 1000000000) : ∀ i : Nat, i < l.length → Ev (fun k => zbL.l0 k l (i : Int)) (bndS l (i + 1))
 | 0, hi => by
  refine Ev.step (fun k => by rw [zbL.l0]) (Ev.neg (by omega) (Ev.pos (by omega) (Ev.pos (by omega) ((Ev.now _).to ?_))))
  simp [bndS]
 | i + 1, hi => by
  have ih := bound_ev l hl i (by omega)
  refine Ev.step (fun k => by rw [zbL.l0, w64 (x := ((i + 1 : Nat) : Int) - 1) (by omega) (by omega), show ((i + 1 : Nat) : Int) - 1 = (i : Int) by omega]) (Ev.pos (by omega) (Ev.pos (by omega) (Ev.pos (by omega) ?_)))
  rw [bndS]
  by_cases h : rd l ((i + 1 : Nat) : Int) = 1585
  ·refine Ev.pos h (ih.to ?_)
   rw [h]; simp
  refine Ev.neg h ((Ev.now _).to ?_)
  rw [show (rd l ((i + 1 : Nat) : Int) == 1585) = false from by simpa using h]; simp
theorem flags_ev (l : List Int) (hl : l.length ≤ 1000000000) (t : Nat) (ht : t < l.length) : ∀ m n : Nat, m + n = t + 1 → Ev (fun k => zbq.l0 k l (t : Int) (n : Int)) ((n : Int) + flgS l m)
 | 0, n, h => by
  refine Ev.step (fun k => by rw [zbq.l0, w64 (x := (t : Int) - (n : Int)) (by omega) (by omega)]) (Ev.neg (by omega) ((Ev.now _).to ?_))
  simp [flgS]
 | m + 1, n, h => by
  have ih := flags_ev l hl t ht m (n + 1) (by omega)
  refine Ev.step (fun k => by rw [zbq.l0, w64 (x := (t : Int) - (n : Int)) (by omega) (by omega), show (t : Int) - (n : Int) = (m : Int) by omega, w_succ n (by omega)]) (Ev.pos (by omega) (Ev.pos (by omega) (Ev.pos (by omega) (Ev.bind (Ev.done (flag_f _)) ?_))))
  rw [flgS]
  by_cases h9 : cls (rd l (m : Int)) = 9
  ·rw [if_pos h9]
   exact Ev.pos (decide_eq_true h9) (ih.to (by omega))
  rw [if_neg h9]
  exact Ev.neg (fun x => h9 (of_decide_eq_true x)) ((Ev.now _).to (by omega))
theorem back_ev (l : List Int) (hl : l.length ≤ 1000000000) (hp : ∀ p ∈ l, 0 ≤ p ∧ p < 1000000000) : ∀ m : Nat, m ≤ l.length → Ev (fun k => zaA.l0 k l ((m : Int) - 1)) (!picS l m)
 | 0, _ => by
  have e : ∀ k, zaA.l0 (k + 1) l (((0 : Nat) : Int) - 1) = some true := fun k => by rw [zaA.l0, if_neg (by omega), if_pos (by omega)]
  exact Ev.step e (Ev.now true)
 | m + 1, hm => by
  have ih := back_ev l hl hp m (by omega)
  have hq := hp l[m] (List.getElem_mem (by omega))
  rw [← rd_lt l m (by omega)] at hq
  refine Ev.step (fun k => by rw [show ((m + 1 : Nat) : Int) - 1 = (m : Int) by omega, zaA.l0, w64 (x := (m : Int) - 1) (by omega) (by omega)]) (Ev.pos (by omega) (Ev.pos (by omega) (Ev.pos (by omega) (Ev.bind (mark_ev _ hq.1 hq.2) ?_))))
  rw [picS]
  by_cases h2 : cls (rd l (m : Int)) = 2
  ·rw [if_pos h2]
   exact Ev.pos (decide_eq_true h2) ih
  rw [if_neg h2]
  refine Ev.neg (fun x => h2 (of_decide_eq_true x)) (Ev.neg (by omega) (Ev.bind (Ev.done (picture_f _)) ((Ev.now _).to ?_)))
  congr 1
def cutAt (l : List Int) : Nat → Bool
 | 0 => false
 | j + 1 => ccB (rd l (j : Int)) (rd l ((j + 1 : Nat) : Int)) (cls (rd l ((j + 1 : Nat) : Int))) (cls (rd l (j : Int))) (bndS l (j + 1)) (picS l (j + 1)) (flgS l (j + 1))
theorem ccL_ev (l : List Int) (hl : l.length ≤ 1000000000) (hp : ∀ p ∈ l, 0 ≤ p) : ∀ (d i : Nat), i + d = l.length → Ev (fun k => ccL k (l.drop i) (prevOf l i) (picS l i) (bndS l i) (flgS l i)) ((List.range' i d).map (cutAt l))
 | 0, i, h => by
  rw [List.drop_eq_nil_of_le (by omega)]
  exact Ev.congr (fun k => by rw [ccL]) ((Ev.now ([] : List Bool)).to rfl)
 | d + 1, i, h => by
  have hlt : i < l.length := by omega
  have ih := ccL_ev l hl hp d (i + 1) (by omega)
  have hf := flgS_le l i
  have hq := hp l[i] (List.getElem_mem hlt)
  rw [List.drop_eq_getElem_cons hlt, List.range'_succ, List.map_cons]
  rw [picS, bndS, flgS, show prevOf l (i + 1) = some l[i] by simp [prevOf, hlt], rd_lt l i hlt] at ih
  refine Ev.congr (fun k => by rw [ccL, w64 (x := flgS l i + 1) (by omega) (by omega)]) (Ev.bind (charClass_ev _ hq) (Ev.bind (a := cutAt l i) ?_ (Ev.bind (f := fun _ t => some (cutAt l i :: t)) ih (Ev.now _))))
  cases i with
  | zero => exact Ev.now _
  | succ j =>
   have hj := hp l[j] (List.getElem_mem (by omega))
   rw [show prevOf l (j + 1) = some l[j] by simp [prevOf, show j < l.length by omega]]
   refine Ev.bind (charClass_ev _ hj) ((Ev.now _).to ?_)
   rw [cutAt, rd_lt l j (by omega), rd_lt l (j + 1) hlt]
end Go.Proofs.YtbppeepihlajoaaDoor.P
namespace Go.Proofs.YtbppeepihlajoaaDoor.P
open Go.RowKit Go.Proofs.YtbppeepihlajoaaDoorW.PrintWords
set_option linter.unusedVariables false
def sylB (d c : Int) : Bool := decide ((d = 3 ∧ (c = 3 ∨ c = 4 ∨ c = 6 ∨ c = 7)) ∨ ((d = 4 ∨ d = 6) ∧ (c = 4 ∨ c = 5)) ∨ ((d = 5 ∨ d = 7) ∧ c = 5))
theorem part_iff (c : Int) : (part c = 1 ↔ c = 3) ∧ (part c = 2 ↔ c = 4) ∧ (part c = 3 ↔ c = 5) ∧ (part c = 4 ↔ c = 6) ∧ (part c = 5 ↔ c = 7) := by
 unfold part
 repeat' split
 all_goals omega
theorem syl_ev (a b : Int) (ha : 0 ≤ a ∧ a < 1000000000) (hb : 0 ≤ b ∧ b < 1000000000) : Ev (fun k => zbd.f k a b) (sylB (cls a) (cls b)) := by
 unfold zbd.f
 refine Ev.bind (part_ev a ha.1 ha.2) (Ev.bind (part_ev b hb.1 hb.2) ⟨1, fun k hk => ?_⟩)
 obtain ⟨m, rfl⟩ : ∃ m, k = m + 1 := ⟨k - 1, by omega⟩
 obtain ⟨a1, a2, a3, a4, a5⟩ := part_iff (cls a)
 obtain ⟨b1, b2, b3, b4, b5⟩ := part_iff (cls b)
 unfold sylB
 simp only [zbd.j0, ← a1, ← a2, ← a3, ← a4, ← a5, ← b1, ← b2, ← b3, ← b4, ← b5]
 generalize part (cls a) = X
 generalize part (cls b) = Y
 by_cases x1 : X = 1
 ·subst x1; by_cases y1 : Y = 1 <;> by_cases y2 : Y = 2 <;> by_cases y4 : Y = 4 <;> by_cases y5 : Y = 5 <;> simp_all
 by_cases x2 : X = 2
 ·subst x2; by_cases y2 : Y = 2 <;> by_cases y3 : Y = 3 <;> simp_all
 by_cases x4 : X = 4
 ·subst x4; by_cases y2 : Y = 2 <;> by_cases y3 : Y = 3 <;> simp_all
 by_cases x3 : X = 3
 ·subst x3; by_cases y3 : Y = 3 <;> simp_all
 by_cases x5 : X = 5
 ·subst x5; by_cases y3 : Y = 3 <;> simp_all
 simp_all
theorem ccB_eq (q p c d : Int) (bind pic : Bool) (flags : Int) : ccB q p c d bind pic flags = if q = 13 ∧ p = 10 then false else if c = 1 ∨ d = 1 then true else if sylB d c = true then false else if c = 2 then false else if (1536 ≤ p ∧ p ≤ 1567) ∧ bind = true then false else if q = 7936 ∧ c = 8 ∧ pic = true then false else if c = 9 ∧ d = 9 ∧ Int.tmod flags 2 = 1 then false else true := by
 unfold ccB sylB
 simp only [decide_eq_true_eq]
 by_cases h1 : d = 3 ∧ (c = 3 ∨ c = 4 ∨ c = 6 ∨ c = 7)
 ·simp only [if_pos h1, if_pos (Or.inl h1 : _ ∨ _)]
 by_cases h2 : (d = 4 ∨ d = 6) ∧ (c = 4 ∨ c = 5)
 ·simp only [if_neg h1, if_pos h2, if_pos (Or.inr (Or.inl h2) : _ ∨ _ ∨ _)]
 by_cases h3 : (d = 5 ∨ d = 7) ∧ c = 5
 ·simp only [if_neg h1, if_neg h2, if_pos h3, if_pos (Or.inr (Or.inr h3) : _ ∨ _ ∨ _)]
 rw [if_neg h1, if_neg h2, if_neg h3, if_neg (c := _ ∨ _ ∨ _) (by rintro (h | h | h); exact h1 h; exact h2 h; exact h3 h)]
theorem char_ev (l : List Int) (hl : l.length ≤ 1000000000) (hp : ∀ p ∈ l, 0 ≤ p ∧ p < 1000000000) (j : Nat) (hj : j + 1 < l.length) : Ev (fun k => zaA.f k l ((j + 1 : Nat) : Int)) (cutAt l (j + 1)) := by
 have hq := hp l[j] (List.getElem_mem (by omega))
 have hr := hp l[j + 1] (List.getElem_mem hj)
 rw [← rd_lt l j (by omega)] at hq
 rw [← rd_lt l (j + 1) hj] at hr
 have hb := bound_ev l hl j (by omega)
 have hf := flags_ev l hl j (by omega) (j + 1) 0 (by omega)
 have hk := back_ev l hl hp j (by omega)
 have hF := (flgS_le l (j + 1)).1
 have hP : rd l (j : Int) = 7936 → picS l (j + 1) = picS l j := fun h => by rw [picS, if_pos ((cls_iff _).2.1.2 (.inr (.inl h)))]
 have w1 : wrap64 (((j + 1 : Nat) : Int) - 1) = (j : Int) := by rw [w64 (by omega) (by omega)]; omega
 have w2 : wrap64 (((j + 1 : Nat) : Int) - 2) = (j : Int) - 1 := by rw [w64 (by omega) (by omega)]; omega
 rw [cutAt, ccB_eq]
 unfold zaA.f
 rw [w1]
 generalize rd l (j : Int) = q at *
 generalize rd l ((j + 1 : Nat) : Int) = p at *
 generalize bndS l (j + 1) = B at *
 generalize picS l (j + 1) = P at *
 generalize flgS l (j + 1) = F at *
 refine Ev.pos (by omega) (Ev.pos (by omega) (Ev.pos (by omega) (Ev.pos (by omega) ?_)))
 have J4f : ¬ (q = 7936 ∧ cls p = 8) → Ev (fun k => zaA.j4 k l ((j + 1 : Nat) : Int) q p false) (if q = 7936 ∧ cls p = 8 ∧ P = true then false else if cls p = 9 ∧ cls q = 9 ∧ Int.tmod F 2 = 1 then false else true) := by
  intro h
  rw [if_neg (fun x => h ⟨x.1, x.2.1⟩)]
  refine Ev.step (fun k => by rw [zaA.j4, w1]) (Ev.neg (by decide) (Ev.bind (Ev.done (flag_f q)) ?_))
  by_cases h9 : cls q = 9
  ·refine Ev.pos (decide_eq_true h9) (Ev.bind (Ev.done (flag_f p)) ?_)
   by_cases h8 : cls p = 9
   ·refine Ev.pos (decide_eq_true h8) (Ev.bind hf ((Ev.now _).to ?_))
    rw [show ((0 : Nat) : Int) + F = F by omega, Int.tmod_eq_emod_of_nonneg hF]
    by_cases h2 : F % 2 = 1
    ·rw [if_pos ⟨h8, h9, h2⟩, h2]; rfl
    rw [if_neg (fun x => h2 x.2.2), show F % 2 = 0 by omega]; rfl
   rw [if_neg (fun x => h8 x.1)]
   exact Ev.neg (fun x => h8 (of_decide_eq_true x)) (Ev.now _)
  rw [if_neg (fun x => h9 x.2.1)]
  exact Ev.neg (fun x => h9 (of_decide_eq_true x)) (Ev.now _)
 have J3f : Ev (fun k => zaA.j3 k l ((j + 1 : Nat) : Int) q p false) (if q = 7936 ∧ cls p = 8 ∧ P = true then false else if cls p = 9 ∧ cls q = 9 ∧ Int.tmod F 2 = 1 then false else true) := by
  refine Ev.step (fun k => by rw [zaA.j3]) (Ev.neg (by decide) ?_)
  by_cases h7 : q = 7936
  ·refine Ev.pos h7 (Ev.bind (Ev.done (picture_f p)) ?_)
   by_cases h8 : cls p = 8
   ·rw [decide_eq_true h8]
    refine Ev.step (fun k => by rw [zaA.j4, w2]) (Ev.pos rfl (hk.to ?_))
    rw [← hP h7, if_neg (c := cls p = 9 ∧ cls q = 9 ∧ Int.tmod F 2 = 1) (by omega)]
    cases P <;> simp [h7, h8]
   rw [decide_eq_false h8]
   exact J4f (fun x => h8 x.2)
  exact Ev.neg h7 (J4f (fun x => h7 x.1))
 have J2f : Ev (fun k => zaA.j2 k l ((j + 1 : Nat) : Int) q p false) (if (1536 ≤ p ∧ p ≤ 1567) ∧ B = true then false else if q = 7936 ∧ cls p = 8 ∧ P = true then false else if cls p = 9 ∧ cls q = 9 ∧ Int.tmod F 2 = 1 then false else true) := by
  refine Ev.step (fun k => by rw [zaA.j2, w1]) (Ev.neg (by decide) ?_)
  by_cases h6 : 1536 ≤ p
  ·refine Ev.pos h6 ?_
   by_cases h7 : p ≤ 1567
   ·refine Ev.pos h7 (Ev.bind hb ?_)
    cases B with
    | true => rw [if_pos ⟨⟨h6, h7⟩, rfl⟩]; exact Ev.step (fun k => by rw [zaA.j3]) (Ev.pos rfl (Ev.now _))
    | false => rw [if_neg (fun x => by cases x.2)]; exact J3f
   rw [if_neg (fun x => h7 x.1.2)]; exact Ev.neg h7 J3f
  rw [if_neg (fun x => h6 x.1.1)]; exact Ev.neg h6 J3f
 have C0 : ¬ (q = 13 ∧ p = 10) → Ev (fun k => zaA.j0 k l ((j + 1 : Nat) : Int) q p false) (if q = 13 ∧ p = 10 then false else if cls p = 1 ∨ cls q = 1 then true else if sylB (cls q) (cls p) = true then false else if cls p = 2 then false else if (1536 ≤ p ∧ p ≤ 1567) ∧ B = true then false else if q = 7936 ∧ cls p = 8 ∧ P = true then false else if cls p = 9 ∧ cls q = 9 ∧ Int.tmod F 2 = 1 then false else true) := by
  intro h
  rw [if_neg h]
  refine Ev.step (fun k => by rw [zaA.j0]) (Ev.neg (by decide) (Ev.bind (control_ev q hq.1 hq.2) ?_))
  by_cases hd : cls q = 1
  ·rw [if_pos (.inr hd)]
   exact Ev.pos (decide_eq_true hd) (Ev.step (fun k => by rw [zaA.j1]) (Ev.pos rfl (Ev.now _)))
  refine Ev.neg (fun x => hd (of_decide_eq_true x)) (Ev.bind (control_ev p hr.1 hr.2) ?_)
  by_cases hc : cls p = 1
  ·rw [if_pos (.inl hc), decide_eq_true hc]
   exact Ev.step (fun k => by rw [zaA.j1]) (Ev.pos rfl (Ev.now _))
  rw [if_neg (by rintro (x | x); exact hc x; exact hd x), decide_eq_false hc]
  refine Ev.step (fun k => by rw [zaA.j1]) (Ev.neg (by decide) (Ev.bind (syl_ev q p hq hr) ?_))
  by_cases hs : sylB (cls q) (cls p) = true
  ·rw [if_pos hs]
   exact Ev.pos hs (Ev.step (fun k => by rw [zaA.j2]) (Ev.pos rfl (Ev.now _)))
  rw [if_neg hs]
  refine Ev.neg hs (Ev.bind (mark_ev p hr.1 hr.2) ?_)
  by_cases hm : cls p = 2
  ·rw [if_pos hm, decide_eq_true hm]
   exact Ev.step (fun k => by rw [zaA.j2]) (Ev.pos rfl (Ev.now _))
  rw [if_neg hm, decide_eq_false hm]
  exact J2f
 by_cases h1 : q = 13
 ·refine Ev.pos h1 ?_
  by_cases h2 : p = 10
  ·rw [if_pos ⟨h1, h2⟩, beq_iff_eq.2 h2]
   exact Ev.step (fun k => by rw [zaA.j0]) (Ev.pos rfl (Ev.now _))
  rw [show (p == 10) = false by simpa using h2]
  exact C0 (fun x => h2 x.2)
 exact Ev.neg h1 (C0 (fun x => h1 x.1))
theorem charCuts_ev (l : List Int) (hl : l.length ≤ 1000000000) (hp : ∀ p ∈ l, 0 ≤ p ∧ p < 1000000000) : Ev (fun k => impl_charCuts.f k l) ((List.range' 0 l.length).map (cutAt l)) := by
 unfold impl_charCuts.f
 have h := ccL_ev l hl (fun p h => (hp p h).1) l.length 0 (by omega)
 rw [List.drop_zero] at h
 exact Ev.pos (by omega) h
end Go.Proofs.YtbppeepihlajoaaDoor.P
namespace Go.Proofs.YtbppeepihlajoaaDoor.P
open Go.RowKit Go.Proofs.YtbppeepihlajoaaDoorW.PrintWords
set_option linter.unusedVariables false
def mayB (tk : Bool) (q c d : Int) (gap opn dg : Bool) (flags : Int) : Bool :=
 if tk = true then false else if c = 1 ∨ c = 2 ∨ c = 4 then false else if gap = true then true else if q = 7936 ∨ d = 3 then false else if c = 3 ∧ d ≠ 2 ∧ d ≠ 5 then false
 else if c = 7 ∨ c = 13 ∨ (c = 5 ∧ d ≠ 2) ∨ opn = true then false else if d = 2 then true else if d = 8 ∨ c = 8 then false else if d = 5 then (c != 9)
 else if ((d = 0 ∨ d = 9) ∧ (c = 0 ∨ c = 9)) ∨ (d = 11 ∧ c = 11) then false else if c = 9 ∧ dg = true then false else if d = 12 ∧ c = 12 then (Int.tmod flags 2 == 0) else true
theorem plain_f (a : Int) : zbJ.f a = some (decide (a = 0 ∨ a = 9)) := by
 unfold zbJ.f
 by_cases h : a = 0
 ·rw [if_pos h, decide_eq_true (Or.inl h)]
 rw [if_neg h]
 congr 1
 rw [Bool.eq_iff_iff, beq_iff_eq, decide_eq_true_eq]
 omega
theorem may_ev {l at_ cl : List Int} {tk : List Bool} (hl : cl.length = l.length) (ht : tk.length = l.length) (hn : l.length ≤ 1000000000) (h : RowOk (fun i => rd cl (i : Int)) (fun i => rdOf false tk (i : Int)) l.length) (j : Nat) (hj : j + 1 < l.length) :
  Ev (fun k => zaj.f k l at_ cl tk ((j + 1 : Nat) : Int)) (mayB (rdOf false tk ((j + 1 : Nat) : Int)) (rd l (j : Int)) (rd cl ((j + 1 : Nat) : Int)) (rd cl (j : Int)) (behS (fun i => rd cl (i : Int)) 4 (j + 1)) (behS (fun i => rd cl (i : Int)) 6 (j + 1)) (dgB l (fun i => rd cl (i : Int)) (baseS (fun i => rdOf false tk (i : Int)) j)) (flS (fun i => rd cl (i : Int)) (fun i => rdOf false tk (i : Int)) (j + 1))) := by
 have w1 : wrap64 (((j + 1 : Nat) : Int) - 1) = (j : Int) := by rw [w64 (by omega) (by omega)]; omega
 have hbase := sbase_ev (p := l) (at_ := at_) (cl := cl) h.k0 (by omega) j (by omega)
 have hgap := sbeh_ev (p := l) (at_ := at_) (tk := tk) 4 (by omega : cl.length ≤ 1000000000) (j + 1) (by omega)
 have hopn := sbeh_ev (p := l) (at_ := at_) (tk := tk) 6 (by omega : cl.length ≤ 1000000000) (j + 1) (by omega)
 have hfl := sfl_ev (p := l) (at_ := at_) (cl := cl) (tk := tk) (by omega) (by omega) (j + 1) (by omega) 0 (by omega)
 have hble := baseS_le (fun i => rdOf false tk (i : Int)) j
 unfold mayB dgB
 generalize baseS (fun i => rdOf false tk (i : Int)) j = b at *
 generalize behS (fun i => rd cl (i : Int)) 4 (j + 1) = gap at *
 generalize behS (fun i => rd cl (i : Int)) 6 (j + 1) = opn at *
 generalize flS (fun i => rd cl (i : Int)) (fun i => rdOf false tk (i : Int)) (j + 1) = F at *
 have hgap' : Ev (fun k => zaQ.f k l at_ cl tk 4 ((j + 1 : Nat) : Int)) gap := by
  unfold zaQ.f
  rw [w1]
  rw [show ((j + 1 : Nat) : Int) - 1 = (j : Int) by omega] at hgap
  exact hgap
 have hopn' : Ev (fun k => zaQ.f k l at_ cl tk 6 ((j + 1 : Nat) : Int)) opn := by
  unfold zaQ.f
  rw [w1]
  rw [show ((j + 1 : Nat) : Int) - 1 = (j : Int) by omega] at hopn
  exact hopn
 have hfl' : Ev (fun k => zaL.f k l at_ cl tk (j : Int)) F := by
  unfold zaL.f
  rw [show ((j + 1 : Nat) : Int) - 1 = (j : Int) by omega] at hfl
  exact hfl.to (by omega)
 obtain ⟨q, hq⟩ : ∃ q, rd l (j : Int) = q := ⟨_, rfl⟩
 obtain ⟨d, hd⟩ : ∃ d, rd cl (j : Int) = d := ⟨_, rfl⟩
 obtain ⟨c, hc⟩ : ∃ c, rd cl ((j + 1 : Nat) : Int) = c := ⟨_, rfl⟩
 rw [hq, hd, hc]
 have J7 : ∀ x : Bool, Ev (fun k => zaj.j7 k ((j + 1 : Nat) : Int) d c x l at_ cl tk) (if x = true then false else if d = 12 ∧ c = 12 then (Int.tmod F 2 == 0) else true) := by
  intro x
  refine Ev.step (fun k => by rw [zaj.j7, w1]) ?_
  by_cases hx : x = true
  ·exact Ev.pos hx ((Ev.now _).to (if_pos hx).symm)
  refine Ev.neg hx ?_
  rw [if_neg hx]
  by_cases h1 : d = 12
  ·refine Ev.pos h1 ?_
   by_cases h2 : c = 12
   ·refine Ev.pos h2 (Ev.bind hfl' ((Ev.now _).to (if_pos ⟨h1, h2⟩).symm))
   exact Ev.neg h2 ((Ev.now _).to (if_neg (fun x => h2 x.2)).symm)
  exact Ev.neg h1 ((Ev.now _).to (if_neg (fun x => h1 x.1)).symm)
 obtain ⟨X7, hX7⟩ : ∃ X, (if d = 12 ∧ c = 12 then (Int.tmod F 2 == 0) else true) = X := ⟨_, rfl⟩
 rw [hX7] at J7 ⊢
 have J6 : ∀ x : Bool, Ev (fun k => zaj.j6 k ((j + 1 : Nat) : Int) d c (b : Int) x l at_ cl tk) (if x = true then false else if c = 9 ∧ (oneB (rd l (b : Int)) [44, 46] && (decide (0 < b) && (rd cl ((b - 1 : Nat) : Int) == 9))) = true then false else X7) := by
  intro x
  refine Ev.step (fun k => by rw [zaj.j6]) ?_
  by_cases hx : x = true
  ·exact Ev.pos hx ((Ev.now _).to (if_pos hx).symm)
  refine Ev.neg hx ?_
  rw [if_neg hx]
  by_cases h9 : c = 9
  ·refine Ev.pos h9 (Ev.pos (by omega) (Ev.pos (by omega) (Ev.bind (in08_ev _ _ (by decide)) ?_)))
   by_cases h1 : oneB (rd l (b : Int)) [44, 46] = true
   ·refine Ev.pos h1 ?_
    rw [h1, Bool.true_and]
    by_cases h2 : (b : Int) > 0
    ·have w2 : wrap64 ((b : Int) - 1) = ((b - 1 : Nat) : Int) := by rw [w64 (by omega) (by omega)]; omega
     rw [decide_eq_true (show 0 < b by omega), Bool.true_and]
     refine Ev.pos h2 ?_
     rw [w2]
     refine Ev.pos (by omega) (Ev.pos (by omega) ((J7 _).to ?_))
     by_cases h3 : (rd cl ((b - 1 : Nat) : Int) == 9) = true
     ·rw [if_pos h3, if_pos ⟨h9, h3⟩]
     rw [if_neg h3, if_neg (fun x => h3 x.2)]
    rw [decide_eq_false (show ¬ 0 < b by omega), Bool.false_and]
    exact Ev.neg h2 ((J7 false).to (by rw [if_neg (by decide), if_neg (by simp)]))
   refine Ev.neg h1 ((J7 false).to ?_)
   rw [Bool.eq_false_iff.2 h1, Bool.false_and, if_neg (by decide), if_neg (by simp)]
  exact Ev.neg h9 ((J7 false).to (by rw [if_neg (by decide), if_neg (fun x => h9 x.1)]))
 obtain ⟨X6, hX6⟩ : ∃ X, (if c = 9 ∧ (oneB (rd l (b : Int)) [44, 46] && (decide (0 < b) && (rd cl ((b - 1 : Nat) : Int) == 9))) = true then false else X7) = X := ⟨_, rfl⟩
 rw [hX6] at J6 ⊢
 have J5 : ∀ x : Bool, Ev (fun k => zaj.j5 k ((j + 1 : Nat) : Int) d c (decide ((d = 0 ∨ d = 9) ∧ (c = 0 ∨ c = 9))) (b : Int) x l at_ cl tk) (if x = true then false else if d = 5 then (c != 9) else if ((d = 0 ∨ d = 9) ∧ (c = 0 ∨ c = 9)) ∨ (d = 11 ∧ c = 11) then false else X6) := by
  intro x
  refine Ev.step (fun k => by rw [zaj.j5]) ?_
  by_cases hx : x = true
  ·exact Ev.pos hx ((Ev.now _).to (if_pos hx).symm)
  refine Ev.neg hx ?_
  rw [if_neg hx]
  by_cases h5 : d = 5
  ·exact Ev.pos h5 ((Ev.now _).to (if_pos h5).symm)
  refine Ev.neg h5 ?_
  rw [if_neg h5]
  by_cases hw : (d = 0 ∨ d = 9) ∧ (c = 0 ∨ c = 9)
  ·exact Ev.pos (decide_eq_true hw) ((J6 true).to (by rw [if_pos rfl, if_pos (Or.inl hw)]))
  refine Ev.neg (fun x => hw (of_decide_eq_true x)) ?_
  by_cases h11 : d = 11
  ·refine Ev.pos h11 ((J6 _).to ?_)
   by_cases hc11 : c = 11
   ·rw [if_pos (beq_iff_eq.2 hc11), if_pos (Or.inr ⟨h11, hc11⟩)]
   rw [if_neg (fun x => hc11 (beq_iff_eq.1 x)), if_neg (by rintro (x | x); exact hw x; exact hc11 x.2)]
  exact Ev.neg h11 ((J6 false).to (by rw [if_neg (by decide), if_neg (by rintro (x | x); exact hw x; exact h11 x.1)]))
 obtain ⟨X5, hX5⟩ : ∃ X, (if d = 5 then (c != 9) else if ((d = 0 ∨ d = 9) ∧ (c = 0 ∨ c = 9)) ∨ (d = 11 ∧ c = 11) then false else X6) = X := ⟨_, rfl⟩
 rw [hX5] at J5 ⊢
 have J4 : ∀ x : Bool, Ev (fun k => zaj.j4 k ((j + 1 : Nat) : Int) d c (decide ((d = 0 ∨ d = 9) ∧ (c = 0 ∨ c = 9))) (b : Int) x l at_ cl tk) (if x = true then false else if d = 2 then true else if d = 8 ∨ c = 8 then false else X5) := by
  intro x
  refine Ev.step (fun k => by rw [zaj.j4]) ?_
  by_cases hx : x = true
  ·exact Ev.pos hx ((Ev.now _).to (if_pos hx).symm)
  refine Ev.neg hx ?_
  rw [if_neg hx]
  by_cases h2 : d = 2
  ·exact Ev.pos h2 ((Ev.now _).to (if_pos h2).symm)
  refine Ev.neg h2 ?_
  rw [if_neg h2]
  by_cases h8 : d = 8
  ·exact Ev.pos h8 ((J5 true).to (by rw [if_pos rfl, if_pos (Or.inl h8)]))
  refine Ev.neg h8 ((J5 _).to ?_)
  by_cases hc8 : c = 8
  ·rw [if_pos (beq_iff_eq.2 hc8), if_pos (Or.inr hc8)]
  rw [if_neg (fun x => hc8 (beq_iff_eq.1 x)), if_neg (by omega)]
 obtain ⟨X4, hX4⟩ : ∃ X, (if d = 2 then true else if d = 8 ∨ c = 8 then false else X5) = X := ⟨_, rfl⟩
 rw [hX4] at J4 ⊢
 have J3 : ∀ x : Bool, Ev (fun k => zaj.j3 k ((j + 1 : Nat) : Int) d c (decide ((d = 0 ∨ d = 9) ∧ (c = 0 ∨ c = 9))) (b : Int) x l at_ cl tk) (if x = true then false else if c = 7 ∨ c = 13 ∨ (c = 5 ∧ d ≠ 2) ∨ opn = true then false else X4) := by
  intro x
  refine Ev.step (fun k => by rw [zaj.j3]) ?_
  by_cases hx : x = true
  ·exact Ev.pos hx ((Ev.now _).to (if_pos hx).symm)
  refine Ev.neg hx ?_
  rw [if_neg hx]
  by_cases h7 : c = 7
  ·exact Ev.pos h7 ((J4 true).to (by rw [if_pos rfl, if_pos (Or.inl h7)]))
  refine Ev.neg h7 ?_
  by_cases h13 : c = 13
  ·exact Ev.pos h13 ((J4 true).to (by rw [if_pos rfl, if_pos (Or.inr (Or.inl h13))]))
  refine Ev.neg h13 ?_
  by_cases h5 : c = 5
  ·refine Ev.pos h5 ?_
   by_cases h2 : d = 2
   ·refine Ev.pos h2 (Ev.bind hopn' ((J4 _).to ?_))
    by_cases ho : opn = true
    ·rw [if_pos ho, if_pos (Or.inr (Or.inr (Or.inr ho)))]
    rw [if_neg ho, if_neg (by rintro (x | x | x | x); exact h7 x; exact h13 x; exact x.2 h2; exact ho x)]
   exact Ev.neg h2 ((J4 true).to (by rw [if_pos rfl, if_pos (Or.inr (Or.inr (Or.inl ⟨h5, h2⟩)))]))
  refine Ev.neg h5 (Ev.bind hopn' ((J4 _).to ?_))
  by_cases ho : opn = true
  ·rw [if_pos ho, if_pos (Or.inr (Or.inr (Or.inr ho)))]
  rw [if_neg ho, if_neg (by rintro (x | x | x | x); exact h7 x; exact h13 x; exact h5 x.1; exact ho x)]
 obtain ⟨X3, hX3⟩ : ∃ X, (if c = 7 ∨ c = 13 ∨ (c = 5 ∧ d ≠ 2) ∨ opn = true then false else X4) = X := ⟨_, rfl⟩
 rw [hX3] at J3 ⊢
 have J2 : ∀ x : Bool, Ev (fun k => zaj.j2 k ((j + 1 : Nat) : Int) d c (decide ((d = 0 ∨ d = 9) ∧ (c = 0 ∨ c = 9))) (b : Int) x l at_ cl tk) (if x = true then false else if c = 3 ∧ d ≠ 2 ∧ d ≠ 5 then false else X3) := by
  intro x
  refine Ev.step (fun k => by rw [zaj.j2]) ?_
  by_cases hx : x = true
  ·exact Ev.pos hx ((Ev.now _).to (if_pos hx).symm)
  refine Ev.neg hx ?_
  rw [if_neg hx]
  by_cases h3 : c = 3
  ·refine Ev.pos h3 ?_
   by_cases h2 : d = 2
   ·exact Ev.pos h2 ((J3 false).to (by rw [if_neg (by decide), if_neg (fun x => x.2.1 h2)]))
   refine Ev.neg h2 ((J3 _).to ?_)
   by_cases h5 : d = 5
   ·rw [if_neg (by rw [h5]; decide), if_neg (fun x => x.2.2 h5)]
   rw [if_pos (bne_iff_ne.2 h5), if_pos ⟨h3, h2, h5⟩]
  exact Ev.neg h3 ((J3 false).to (by rw [if_neg (by decide), if_neg (fun x => h3 x.1)]))
 obtain ⟨X2, hX2⟩ : ∃ X, (if c = 3 ∧ d ≠ 2 ∧ d ≠ 5 then false else X3) = X := ⟨_, rfl⟩
 rw [hX2] at J2 ⊢
 have J1 : ∀ x : Bool, Ev (fun k => zaj.j1 k ((j + 1 : Nat) : Int) d c (decide ((d = 0 ∨ d = 9) ∧ (c = 0 ∨ c = 9))) (b : Int) x l at_ cl tk) (if x = true then false else if gap = true then true else if q = 7936 ∨ d = 3 then false else X2) := by
  intro x
  refine Ev.step (fun k => by rw [zaj.j1, w1, hq]) ?_
  by_cases hx : x = true
  ·exact Ev.pos hx ((Ev.now _).to (if_pos hx).symm)
  refine Ev.neg hx (Ev.bind hgap' ?_)
  rw [if_neg hx]
  by_cases hg : gap = true
  ·exact Ev.pos hg ((Ev.now _).to (if_pos hg).symm)
  refine Ev.neg hg (Ev.pos (by omega) (Ev.pos (by omega) ?_))
  rw [if_neg hg]
  by_cases h7 : q = 7936
  ·exact Ev.pos h7 ((J2 true).to (by rw [if_pos rfl, if_pos (Or.inl h7)]))
  refine Ev.neg h7 ((J2 _).to ?_)
  by_cases h3 : d = 3
  ·rw [if_pos (beq_iff_eq.2 h3), if_pos (Or.inr h3)]
  rw [if_neg (fun x => h3 (beq_iff_eq.1 x)), if_neg (by omega)]
 obtain ⟨X1, hX1⟩ : ∃ X, (if gap = true then true else if q = 7936 ∨ d = 3 then false else X2) = X := ⟨_, rfl⟩
 rw [hX1] at J1 ⊢
 have J0 : Ev (fun k => zaj.j0 k ((j + 1 : Nat) : Int) d c (decide ((d = 0 ∨ d = 9) ∧ (c = 0 ∨ c = 9))) l at_ cl tk) (if rdOf false tk ((j + 1 : Nat) : Int) = true then false else if c = 1 ∨ c = 2 ∨ c = 4 then false else X1) := by
  have hbase' : Ev (fun k => zbh.f k l at_ cl tk (j : Int)) (b : Int) := by unfold zbh.f; exact hbase
  refine Ev.step (fun k => by rw [zaj.j0, w1]) ?_
  refine Ev.bind hbase' (Ev.pos (by omega) (Ev.pos (by omega) ?_))
  by_cases hk : rdOf false tk ((j + 1 : Nat) : Int) = true
  ·exact Ev.pos hk ((Ev.now _).to (if_pos hk).symm)
  refine Ev.neg hk ?_
  rw [if_neg hk]
  by_cases h1 : c = 1
  ·exact Ev.pos h1 ((J1 true).to (by rw [if_pos rfl, if_pos (Or.inl h1)]))
  refine Ev.neg h1 ?_
  by_cases h2 : c = 2
  ·exact Ev.pos h2 ((J1 true).to (by rw [if_pos rfl, if_pos (Or.inr (Or.inl h2))]))
  refine Ev.neg h2 ((J1 _).to ?_)
  by_cases h4 : c = 4
  ·rw [if_pos (beq_iff_eq.2 h4), if_pos (Or.inr (Or.inr h4))]
  rw [if_neg (fun x => h4 (beq_iff_eq.1 x)), if_neg (by omega)]
 unfold zaj.f
 rw [w1, hd, hc, plain_f, plain_f]
 refine Ev.pos (by omega) (Ev.pos (by omega) (Ev.pos (by omega) (Ev.pos (by omega) ?_)))
 simp only [Option.bind_some, decide_eq_true_eq]
 by_cases hp : d = 0 ∨ d = 9
 ·refine Ev.pos hp ?_
  rw [show decide (c = 0 ∨ c = 9) = decide ((d = 0 ∨ d = 9) ∧ (c = 0 ∨ c = 9)) from by rw [decide_eq_decide]; exact ⟨fun x => ⟨hp, x⟩, fun x => x.2⟩]
  exact J0
 refine Ev.neg hp ?_
 rw [show decide ((d = 0 ∨ d = 9) ∧ (c = 0 ∨ c = 9)) = false from decide_eq_false (fun x => hp x.1)] at J0
 exact J0
theorem must_f {l at_ cl : List Int} {tk : List Bool} (hn : l.length ≤ 1000000000) (j : Nat) (hj : j + 1 < l.length) : spec_l08Row_must.f l at_ cl tk ((j + 1 : Nat) : Int) = some (decide (rd l (j : Int) = 10 ∨ (rd l (j : Int) = 13 ∧ rd l ((j + 1 : Nat) : Int) ≠ 10))) := by
 unfold spec_l08Row_must.f
 rw [show wrap64 (((j + 1 : Nat) : Int) - 1) = (j : Int) by rw [w64 (by omega) (by omega)]; omega, if_pos (by omega), if_pos (by omega)]
 by_cases h1 : rd l (j : Int) = 10
 ·rw [if_pos h1, decide_eq_true (Or.inl h1)]
 rw [if_neg h1]
 by_cases h2 : rd l (j : Int) = 13
 ·rw [if_pos h2, if_pos (by omega), if_pos (by omega)]
  congr 1
  rw [Bool.eq_iff_iff, bne_iff_ne, decide_eq_true_eq]
  exact ⟨fun x => .inr ⟨h2, x⟩, fun x => x.elim (fun y => absurd y h1) (·.2)⟩
 rw [if_neg h2, decide_eq_false (by rintro (x | x); exact h1 x; exact h2 x.1)]
theorem lnB_eq (tk ch : Bool) (q p c d : Int) (gap opn dp : Bool) (flags : Int) (hF : 0 ≤ flags) (hm : (q = 10 ∨ (q = 13 ∧ p ≠ 10)) → tk = false ∧ ch = true) :
  lnB tk ch q p c d gap opn dp flags = if q = 10 ∨ (q = 13 ∧ p ≠ 10) then (true, true) else (ch && mayB tk q c d gap opn dp flags, false) := by
 unfold lnB
 by_cases h0 : tk = true ∨ ch = false
 ·rw [if_pos h0, if_neg (fun x => by have := hm x; rcases h0 with e | e; rw [this.1] at e; cases e; rw [this.2] at e; cases e)]
  rcases h0 with e | e
  ·unfold mayB; rw [if_pos e, Bool.and_false]
  rw [e, Bool.false_and]
 have htk : ¬ tk = true := fun e => h0 (.inl e)
 have hch : ch = true := by cases ch; exact absurd (Or.inr rfl) h0; rfl
 rw [if_neg h0]
 by_cases h1 : q = 10 ∨ (q = 13 ∧ p ≠ 10)
 ·rw [if_pos h1, if_pos h1]
 rw [if_neg h1, if_neg h1, hch, Bool.true_and]
 unfold mayB
 rw [if_neg htk]
 clear hm h0 h1 htk hch
 by_cases c1 : c = 1
 ·rw [if_pos c1, if_pos (Or.inl c1)]
 rw [if_neg c1]
 by_cases c2 : c = 2 ∨ c = 4
 ·rw [if_pos c2, if_pos (Or.inr c2)]
 rw [if_neg c2, if_neg (c := c = 1 ∨ c = 2 ∨ c = 4) (by omega)]
 by_cases hg : gap = true
 ·rw [if_pos hg, if_pos hg]
 rw [if_neg hg, if_neg hg]
 by_cases h7 : q = 7936
 ·rw [if_pos h7, if_pos (Or.inl h7)]
 rw [if_neg h7]
 by_cases d3 : d = 3
 ·rw [if_pos d3, if_pos (Or.inr d3)]
 rw [if_neg d3, if_neg (c := q = 7936 ∨ d = 3) (by omega)]
 by_cases e1 : (c = 3 ∧ d ≠ 2) ∧ d ≠ 5
 ·rw [if_pos e1, if_pos ⟨e1.1.1, e1.1.2, e1.2⟩]
 rw [if_neg e1, if_neg (c := c = 3 ∧ d ≠ 2 ∧ d ≠ 5) (fun x => e1 ⟨⟨x.1, x.2.1⟩, x.2.2⟩)]
 by_cases e2 : c = 7 ∨ c = 13
 ·rw [if_pos e2, if_pos (by rcases e2 with x | x; exact .inl x; exact .inr (.inl x))]
 rw [if_neg e2]
 by_cases e3 : c = 5 ∧ d ≠ 2
 ·rw [if_pos e3, if_pos (Or.inr (Or.inr (Or.inl e3)))]
 rw [if_neg e3]
 by_cases e4 : opn = true
 ·rw [if_pos e4, if_pos (Or.inr (Or.inr (Or.inr e4)))]
 rw [if_neg e4, if_neg (c := c = 7 ∨ c = 13 ∨ (c = 5 ∧ d ≠ 2) ∨ opn = true) (by rintro (x | x | x | x); exact e2 (.inl x); exact e2 (.inr x); exact e3 x; exact e4 x)]
 by_cases e5 : d = 2
 ·rw [if_pos e5, if_pos e5]
 rw [if_neg e5, if_neg e5]
 by_cases e6 : d = 8 ∨ c = 8
 ·rw [if_pos e6, if_pos e6]
 rw [if_neg e6, if_neg e6]
 by_cases e7 : d = 5
 ·rw [if_pos e7, if_pos e7]; rfl
 rw [if_neg e7, if_neg e7]
 by_cases e8 : (d = 0 ∨ d = 9) ∧ (c = 0 ∨ c = 9)
 ·rw [if_pos e8, if_pos (Or.inl e8)]
 rw [if_neg e8]
 by_cases e9 : d = 11 ∧ c = 11
 ·rw [if_pos e9, if_pos (Or.inr e9)]
 rw [if_neg e9, if_neg (c := ((d = 0 ∨ d = 9) ∧ (c = 0 ∨ c = 9)) ∨ (d = 11 ∧ c = 11)) (by rintro (x | x); exact e8 x; exact e9 x)]
 by_cases e10 : dp = true ∧ c = 9
 ·rw [if_pos e10, if_pos ⟨e10.2, e10.1⟩]
 rw [if_neg e10, if_neg (c := c = 9 ∧ dp = true) (fun x => e10 ⟨x.2, x.1⟩)]
 rw [Int.tmod_eq_emod_of_nonneg hF]
 by_cases e11 : d = 12 ∧ c = 12
 ·rw [if_pos (c := d = 12 ∧ c = 12) e11]
  by_cases e12 : flags % 2 = 1
  ·rw [if_pos ⟨e11, e12⟩, e12]; rfl
  rw [if_neg (fun x => e12 x.2), show flags % 2 = 0 by omega]; rfl
 rw [if_neg (c := d = 12 ∧ c = 12) e11, if_neg (fun x => e11 x.1)]
end Go.Proofs.YtbppeepihlajoaaDoor.P
namespace Go.Proofs.YtbppeepihlajoaaDoor.P
open Go.RowKit Go.Proofs.YtbppeepihlajoaaDoorW.PrintWords
set_option linter.unusedVariables false
theorem bt_get (s : ByteArray) (i : Nat) : bt s (i : Int) = ((s.get! i).toNat : Int) := by
 unfold bt
 rw [Int.toNat_natCast]
 by_cases h : i < s.size
 ·rw [dif_pos h, Utf8W.get!_of_lt s i h]
 rw [dif_neg h]
 cases s with
 | mk d =>
  have : d.size ≤ i := Nat.le_of_not_lt h
  show (0 : Int) = ((d[i]!).toNat : Int)
  rw [getElem!_neg d i (by omega)]
  rfl
def dec (s : ByteArray) (i : Nat) : Nat × Nat := Utf8.decode s i
theorem dec_eq (s : ByteArray) (i : Nat) : dec s i = Lib.decodeN (s.size - i) (s.get! i).toNat (s.get! (i + 1)).toNat (s.get! (i + 2)).toNat (s.get! (i + 3)).toNat := Lib.decode_at s i
theorem decodeN_bd (n b0 b1 b2 b3 : Nat) (hn : 1 ≤ n) : 1 ≤ (Lib.decodeN n b0 b1 b2 b3).2 ∧ (Lib.decodeN n b0 b1 b2 b3).2 ≤ 4 ∧ (Lib.decodeN n b0 b1 b2 b3).2 ≤ n ∧ (Lib.decodeN n b0 b1 b2 b3).1 ≤ 1114111 ∧ ((Lib.decodeN n b0 b1 b2 b3).1 < 55296 ∨ 57344 ≤ (Lib.decodeN n b0 b1 b2 b3).1) := by
 unfold Lib.decodeN
 repeat' split
 all_goals (simp only []; omega)
theorem dec_bd (s : ByteArray) (i : Nat) (h : i < s.size) : 1 ≤ (dec s i).2 ∧ (dec s i).2 ≤ 4 ∧ (dec s i).2 ≤ s.size - i ∧ (dec s i).1 ≤ 1114111 ∧ ((dec s i).1 < 55296 ∨ 57344 ≤ (dec s i).1) := by
 rw [dec_eq]
 exact decodeN_bd _ _ _ _ _ (by omega)
def badAt (s : ByteArray) (i : Nat) : Bool := (dec s i).1 == 65533 && (dec s i).2 == 1
def ptsFrom (s : ByteArray) (i : Nat) : List Int :=
 if h : i < s.size then ((dec s i).1 : Int) :: ptsFrom s (i + (dec s i).2) else []
termination_by s.size - i
decreasing_by have := dec_bd s i h; omega
def pts (s : ByteArray) : List Int := ptsFrom s 0
theorem ptsFrom_lt {s : ByteArray} {i : Nat} (h : i < s.size) : ptsFrom s i = ((dec s i).1 : Int) :: ptsFrom s (i + (dec s i).2) := by rw [ptsFrom, dif_pos h]
theorem ptsFrom_ge {s : ByteArray} {i : Nat} (h : ¬ i < s.size) : ptsFrom s i = [] := by rw [ptsFrom, dif_neg h]
def atsFrom (s : ByteArray) (i : Nat) : List S110 :=
 if h : i < s.size then ⟨((dec s i).1 : Int), (i : Int), ((i + (dec s i).2 : Nat) : Int), badAt s i⟩ :: atsFrom s (i + (dec s i).2) else []
termination_by s.size - i
decreasing_by have := dec_bd s i h; omega
def ats (s : ByteArray) : List S110 := atsFrom s 0
theorem atsFrom_lt {s : ByteArray} {i : Nat} (h : i < s.size) : atsFrom s i = ⟨((dec s i).1 : Int), (i : Int), ((i + (dec s i).2 : Nat) : Int), badAt s i⟩ :: atsFrom s (i + (dec s i).2) := by rw [atsFrom, dif_pos h]
theorem atsFrom_ge {s : ByteArray} {i : Nat} (h : ¬ i < s.size) : atsFrom s i = [] := by rw [atsFrom, dif_neg h]
theorem rec_places (s : ByteArray) {motive : Nat → Prop} (end_ : ∀ i, ¬ i < s.size → motive i) (step : ∀ i, i < s.size → motive (i + (dec s i).2) → motive i) : ∀ i, motive i := by
 have : ∀ d i, s.size - i ≤ d → motive i := by
  intro d
  induction d with
  | zero => intro i hi; exact end_ i (by omega)
  | succ d ih =>
   intro i hi
   by_cases h : i < s.size
   ·have := dec_bd s i h
    exact step i h (ih _ (by omega))
   exact end_ i h
 exact fun i => this _ i (Nat.le_refl _)
theorem ats_pts (s : ByteArray) : ∀ i, (atsFrom s i).map (·.f0) = ptsFrom s i := by
 refine rec_places s (motive := fun i => (atsFrom s i).map (·.f0) = ptsFrom s i) ?_ ?_
 ·intro i h; show _ = _; rw [atsFrom_ge h, ptsFrom_ge h]; rfl
 intro i h ih; show _ = _; rw [atsFrom_lt h, ptsFrom_lt h, List.map_cons, ih]
theorem pts_len (s : ByteArray) : ∀ i, (ptsFrom s i).length ≤ s.size - i := by
 refine rec_places s (motive := fun i => (ptsFrom s i).length ≤ s.size - i) ?_ ?_
 ·intro i h; show _ ≤ _; rw [ptsFrom_ge h]; simp
 intro i h ih
 have := dec_bd s i h
 show _ ≤ _
 rw [ptsFrom_lt h, List.length_cons]; omega
theorem ats_len (s : ByteArray) : ∀ i, (atsFrom s i).length ≤ s.size - i := by
 intro i
 have := pts_len s i
 rw [← ats_pts, List.length_map] at this
 exact this
theorem pts_range (s : ByteArray) : ∀ i, ∀ p ∈ ptsFrom s i, 0 ≤ p ∧ p ≤ 1114111 ∧ (p < 55296 ∨ 57344 ≤ p) := by
 refine rec_places s (motive := fun i => ∀ p ∈ ptsFrom s i, 0 ≤ p ∧ p ≤ 1114111 ∧ (p < 55296 ∨ 57344 ≤ p)) ?_ ?_
 ·intro i h p hp; rw [ptsFrom_ge h] at hp; cases hp
 intro i h ih p hp
 have := dec_bd s i h
 rw [ptsFrom_lt h] at hp
 rcases List.mem_cons.1 hp with rfl | h2
 ·omega
 exact ih p h2
theorem decodeGo_at (s : ByteArray) (i : Nat) (h : i < s.size) : Lib.decodeGo (s.extract i s.size) = dec s i := by
 unfold Lib.decodeGo
 rw [if_neg (by rw [Lib.tail_size]; omega), Lib.tail_decode, Nat.add_zero]
 rfl
theorem read_ev (s : ByteArray) (hs : s.size ≤ 1099511627776) : ∀ i, ∀ acc : List S110, acc.length + (s.size - i) ≤ 1099511627776 → Ev (fun k => zbM.l0 k s acc (i : Int)) (acc ++ atsFrom s i) := by
 refine rec_places s (motive := fun i => ∀ acc : List S110, acc.length + (s.size - i) ≤ 1099511627776 → Ev (fun k => zbM.l0 k s acc (i : Int)) (acc ++ atsFrom s i)) ?_ ?_
 ·intro i h acc ha
  refine Ev.step (fun k => by rw [zbM.l0]) ?_
  rw [atsFrom_ge h, List.append_nil]
  exact Ev.neg (by omega) (Ev.now _)
 intro i h ih acc ha
 have hb := dec_bd s i h
 refine Ev.step (fun k => by rw [zbM.l0]) ?_
 refine Ev.pos (by omega) (Ev.pos (by omega) (Ev.pos (by omega) ?_))
 rw [Int.toNat_natCast]
 refine Ev.bind (Ev.done (r := (((dec s i).1 : Int), ((dec s i).2 : Int))) (by unfold utf8_DecodeRuneInString.f; rw [decodeGo_at s i h])) ?_
 have e1 : wrap64 ((dec s i).1 : Int) = ((dec s i).1 : Int) := w64 (by omega) (by omega)
 have e2 : wrap64 ((i : Int) + ((dec s i).2 : Int)) = ((i + (dec s i).2 : Nat) : Int) := by rw [w64 (by omega) (by omega)]; omega
 simp only [e1, e2]
 rw [atsFrom_lt h]
 have key : ∀ b : Bool, b = badAt s i → Ev (fun k => if acc.length < 4398046511104 then zbM.l0 k s (acc ++ [(⟨((dec s i).1 : Int), (i : Int), ((i + (dec s i).2 : Nat) : Int), b⟩ : S110)]) ((i + (dec s i).2 : Nat) : Int) else none) (acc ++ (⟨((dec s i).1 : Int), (i : Int), ((i + (dec s i).2 : Nat) : Int), badAt s i⟩ :: atsFrom s (i + (dec s i).2))) := by
  rintro b rfl
  refine Ev.pos (by omega) ?_
  refine (ih _ ?_).to (by simp)
  rw [List.length_append, List.length_singleton]
  omega
 by_cases h3 : (dec s i).1 = 65533
 ·refine Ev.pos (by omega) (key _ ?_)
  unfold badAt
  rw [h3]
  by_cases h4 : (dec s i).2 = 1
  ·rw [h4]; rfl
  have : ¬ (((dec s i).2 : Int) = 1) := by omega
  rw [beq_eq_false_iff_ne.2 this, beq_eq_false_iff_ne.2 h4]
  rfl
 refine Ev.neg (by omega) (key _ ?_)
 unfold badAt
 rw [beq_eq_false_iff_ne.2 h3]
 rfl
theorem read_f (s : ByteArray) (hs : s.size ≤ 1099511627776) : Ev (fun k => zbM.f k s) (ats s) :=
 (read_ev s hs 0 [] (by simp; omega)).to (by simp [ats])
end Go.Proofs.YtbppeepihlajoaaDoor.P
namespace Go.Proofs.YtbppeepihlajoaaDoor.P
open Go.RowKit Go.Proofs.YtbppeepihlajoaaDoorW.PrintWords
set_option linter.unusedVariables false
def isPt (p : Int) : Bool := decide (0 ≤ p ∧ p ≤ 1114111 ∧ (p < 55296 ∨ 57343 < p))
theorem isPt_iff {p : Int} : isPt p = true ↔ 0 ≤ p ∧ p ≤ 1114111 ∧ (p < 55296 ∨ 57343 < p) := by unfold isPt; simp
def wrNums (p : Int) : List Int :=
 if p < 128 then [p % 256] else if p < 2048 then [(192 + p / 64) % 256, (128 + p % 64) % 256]
 else if p < 65536 then [(224 + p / 4096) % 256, (128 + p / 64 % 64) % 256, (128 + p % 64) % 256]
 else [(240 + p / 262144) % 256, (128 + p / 4096 % 64) % 256, (128 + p / 64 % 64) % 256, (128 + p % 64) % 256]
def wrP (p : Int) : ByteArray := strOfNums (wrNums (if isPt p then p else 65533))
end Go.Proofs.YtbppeepihlajoaaDoor.P
namespace Go.Proofs.YtbppeepihlajoaaDoor.P
open Go.RowKit Go.Proofs.YtbppeepihlajoaaDoorW.PrintWords
set_option linter.unusedVariables false
theorem dN1 {n b0 b1 b2 b3 : Nat} (h : b0 < 128) : Lib.decodeN n b0 b1 b2 b3 = (b0, 1) := by unfold Lib.decodeN; rw [if_pos h]
theorem dN0 {n b0 b1 b2 b3 : Nat} (h : (128 ≤ b0 ∧ b0 < 194) ∨ 245 ≤ b0) : Lib.decodeN n b0 b1 b2 b3 = (65533, 1) := by
 unfold Lib.decodeN
 repeat' split
 all_goals first | (exfalso; omega) | rfl
theorem dN2 {n b0 b1 b2 b3 : Nat} (h : 194 ≤ b0 ∧ b0 < 224) : Lib.decodeN n b0 b1 b2 b3 = if 1 < n ∧ b1 / 64 = 2 then (b0 % 32 * 64 + b1 % 64, 2) else (65533, 1) := by
 unfold Lib.decodeN
 repeat' split
 all_goals first | (exfalso; omega) | rfl
set_option maxRecDepth 100000 in
theorem dN3 {n b0 b1 b2 b3 : Nat} (h : 224 ≤ b0 ∧ b0 < 240) : Lib.decodeN n b0 b1 b2 b3 = if (1 < n ∧ b1 / 64 = 2) ∧ (2 < n ∧ b2 / 64 = 2) ∧ 2048 ≤ b0 % 16 * 4096 + b1 % 64 * 64 + b2 % 64 ∧ (b0 % 16 * 4096 + b1 % 64 * 64 + b2 % 64 < 55296 ∨ 57344 ≤ b0 % 16 * 4096 + b1 % 64 * 64 + b2 % 64) then (b0 % 16 * 4096 + b1 % 64 * 64 + b2 % 64, 3) else (65533, 1) := by
 unfold Lib.decodeN
 repeat' split
 all_goals first | (exfalso; omega) | rfl
set_option maxRecDepth 100000 in
theorem dN4 {n b0 b1 b2 b3 : Nat} (h : 240 ≤ b0 ∧ b0 < 245) : Lib.decodeN n b0 b1 b2 b3 = if (1 < n ∧ b1 / 64 = 2) ∧ (2 < n ∧ b2 / 64 = 2) ∧ (3 < n ∧ b3 / 64 = 2) ∧ 65536 ≤ b0 % 8 * 262144 + b1 % 64 * 4096 + b2 % 64 * 64 + b3 % 64 ∧ b0 % 8 * 262144 + b1 % 64 * 4096 + b2 % 64 * 64 + b3 % 64 ≤ 1114111 then (b0 % 8 * 262144 + b1 % 64 * 4096 + b2 % 64 * 64 + b3 % 64, 4) else (65533, 1) := by
 unfold Lib.decodeN
 repeat' split
 all_goals first | (exfalso; omega) | rfl
theorem isPoint_eq (p : Int) : spec_l01IsPoint.f p = some (isPt p) := by
 unfold spec_l01IsPoint.f
 by_cases h0 : 0 ≤ p
 ·rw [if_pos (by omega)]
  by_cases h1 : p ≤ 1114111
  ·rw [if_pos h1]
   by_cases h2 : p < 55296
   ·rw [if_pos h2, isPt_iff.2 ⟨h0, h1, .inl h2⟩]
   rw [if_neg h2]
   by_cases h3 : 57343 < p
   ·rw [isPt_iff.2 ⟨h0, h1, .inr h3⟩, decide_eq_true h3]
   rw [decide_eq_false h3, show isPt p = false from Bool.eq_false_iff.2 (fun h => by have := isPt_iff.1 h; omega)]
  rw [if_neg h1, show isPt p = false from Bool.eq_false_iff.2 (fun h => h1 (isPt_iff.1 h).2.1)]
 rw [if_neg (by omega), show isPt p = false from Bool.eq_false_iff.2 (fun h => h0 (isPt_iff.1 h).1)]
theorem wr_j (p : Int) (hp : isPt p) : Ev (fun k => zbr.j0 k p) (strOfNums (wrNums p)) := by
 obtain ⟨h0, h1, h2⟩ := isPt_iff.1 hp
 have e1 : Int.tdiv p 64 = p / 64 := Int.tdiv_eq_ediv_of_nonneg h0
 have e2 : Int.tdiv p 4096 = p / 4096 := Int.tdiv_eq_ediv_of_nonneg h0
 have e3 : Int.tdiv p 262144 = p / 262144 := Int.tdiv_eq_ediv_of_nonneg h0
 have e4 : Int.tmod p 64 = p % 64 := Int.tmod_eq_emod_of_nonneg h0
 refine Ev.step (fun k => by rw [zbr.j0]) ?_
 rw [e1, e2, e3, e4, w64 (x := p / 64) (by omega) (by omega), w64 (x := p / 4096) (by omega) (by omega), w64 (x := p / 262144) (by omega) (by omega), w64 (x := 192 + p / 64) (by omega) (by omega), w64 (x := 128 + p % 64) (by omega) (by omega), w64 (x := 224 + p / 4096) (by omega) (by omega), w64 (x := 240 + p / 262144) (by omega) (by omega)]
 have e5 : Int.tmod (p / 64) 64 = p / 64 % 64 := Int.tmod_eq_emod_of_nonneg (by omega)
 have e6 : Int.tmod (p / 4096) 64 = p / 4096 % 64 := Int.tmod_eq_emod_of_nonneg (by omega)
 rw [e5, e6, w64 (x := 128 + p / 64 % 64) (by omega) (by omega), w64 (x := 128 + p / 4096 % 64) (by omega) (by omega)]
 by_cases c1 : p < 128
 ·exact Ev.pos c1 ((Ev.now _).to (by unfold wrNums; rw [if_pos c1]))
 by_cases c2 : p < 2048
 ·exact Ev.neg c1 (Ev.pos c2 ((Ev.now _).to (by unfold wrNums; rw [if_neg c1, if_pos c2])))
 by_cases c3 : p < 65536
 ·exact Ev.neg c1 (Ev.neg c2 (Ev.pos c3 ((Ev.now _).to (by unfold wrNums; rw [if_neg c1, if_neg c2, if_pos c3]))))
 exact Ev.neg c1 (Ev.neg c2 (Ev.neg c3 ((Ev.now _).to (by unfold wrNums; rw [if_neg c1, if_neg c2, if_neg c3]))))
theorem wr_ev (p : Int) : Ev (fun k => zbr.f k p) (wrP p) := by
 unfold wrP
 refine Ev.bind (Ev.done (isPoint_eq p)) ?_
 by_cases h : isPt p
 ·rw [if_pos h]
  exact Ev.pos h (wr_j p h)
 rw [if_neg h]
 exact Ev.neg h (wr_j 65533 (by rw [isPt_iff]; omega))
theorem size_strOfNums (l : List Int) : (strOfNums l).size = l.length := by
 unfold strOfNums
 show ((l.map fun n => UInt8.ofNat n.toNat).toArray).size = _
 simp
theorem wrP_size {p : Int} (h : isPt p) : ((wrP p).size : Int) = if p < 128 then 1 else if p < 2048 then 2 else if p < 65536 then 3 else 4 := by
 unfold wrP
 rw [if_pos h, size_strOfNums]
 unfold wrNums
 repeat' split
 all_goals rfl
def nextR (r : Nat × Nat) : Int × Int × Bool := ((r.1 : Int), (r.2 : Int), !(r.1 == 65533 && r.2 == 1))
theorem nextR_bad : nextR (65533, 1) = (65533, 1, false) := rfl
theorem nextR_good {v n : Nat} (h : v ≠ 65533 ∨ n ≠ 1) : nextR (v, n) = ((v : Int), (n : Int), true) := by
 unfold nextR
 rcases h with h | h
 ·rw [beq_eq_false_iff_ne.2 h]; rfl
 rw [beq_eq_false_iff_ne.2 h]; simp
theorem next_end (s : ByteArray) (i n v : Nat) (hn : 1 ≤ n) (hn4 : n ≤ 3) (hv : v ≤ 4000000) : Ev (fun k => zaK.l0 k s (i : Int) (n : Int) (v : Int) ((n + 1 : Nat) : Int))
  (if isPt (v : Int) = true ∧ (if v < 128 then 1 else if v < 2048 then 2 else if v < 65536 then 3 else 4) = n + 1 then ((v : Int), ((n + 1 : Nat) : Int), true) else (65533, 1, false)) := by
 refine Ev.step (fun k => by rw [zaK.l0]) ?_
 refine Ev.neg (by omega) ?_
 refine Ev.bind (Ev.done (isPoint_eq _)) ?_
 by_cases h : isPt (v : Int) = true
 ·refine Ev.pos h (Ev.bind (wr_ev _) ?_)
  have hsz := wrP_size h
  have e1 := w_succ n (by omega)
  rw [e1]
  have hsz2 : ((wrP (v : Int)).size : Int) = ((if v < 128 then 1 else if v < 2048 then 2 else if v < 65536 then 3 else 4 : Nat) : Int) := by
   rw [hsz]
   by_cases c1 : v < 128
   ·rw [if_pos (by omega), if_pos c1]; rfl
   rw [if_neg (by omega), if_neg c1]
   by_cases c2 : v < 2048
   ·rw [if_pos (by omega), if_pos c2]; rfl
   rw [if_neg (by omega), if_neg c2]
   by_cases c3 : v < 65536
   ·rw [if_pos (by omega), if_pos c3]; rfl
   rw [if_neg (by omega), if_neg c3]; rfl
  generalize (if v < 128 then 1 else if v < 2048 then 2 else if v < 65536 then 3 else 4) = m at *
  by_cases h2 : m = n + 1
  ·exact Ev.pos (by omega) ((Ev.now _).to (by rw [if_pos ⟨h, h2⟩]))
  exact Ev.neg (by omega) ((Ev.now _).to (by rw [if_neg (fun h3 => h2 h3.2)]))
 exact Ev.neg h ((Ev.now _).to (by rw [if_neg (fun h3 => h h3.1)]))
theorem next_step (s : ByteArray) (i n v j : Nat) (hs : s.size ≤ 1099511627776) (hj : j ≤ n) (hn : n ≤ 3) (hi : i + j < s.size) (hv : v ≤ 70000) (r : Int × Int × Bool)
  (hbad : (s.get! (i + j)).toNat / 64 ≠ 2 → r = (65533, 1, false))
  (hgood : (s.get! (i + j)).toNat / 64 = 2 → Ev (fun k => zaK.l0 k s (i : Int) (n : Int) ((v * 64 + (s.get! (i + j)).toNat % 64 : Nat) : Int) ((j + 1 : Nat) : Int)) r) :
  Ev (fun k => zaK.l0 k s (i : Int) (n : Int) (v : Int) (j : Int)) r := by
 have hb : (s.get! (i + j)).toNat < 256 := (s.get! (i + j)).toNat_lt
 have hbt : bt s ((i + j : Nat) : Int) = ((s.get! (i + j)).toNat : Int) := bt_get s (i + j)
 generalize (s.get! (i + j)).toNat = b at *
 refine Ev.step (fun k => by rw [zaK.l0]) ?_
 have e0 : wrap64 ((i : Int) + (j : Int)) = ((i + j : Nat) : Int) := by rw [w64 (by omega) (by omega)]; omega
 rw [e0, hbt, w64 (x := (b : Int)) (by omega) (by omega)]
 refine Ev.pos (by omega) (Ev.pos (by omega) (Ev.pos (by omega) ?_))
 by_cases h1 : (b : Int) < 128
 ·rw [hbad (by omega)]; exact Ev.pos h1 (Ev.now _)
 refine Ev.neg h1 ?_
 by_cases h2 : (b : Int) > 191
 ·rw [hbad (by omega)]; exact Ev.pos h2 (Ev.now _)
 refine Ev.neg h2 ?_
 have hq : b / 64 = 2 := by clear hbad hgood hbt e0; omega
 have e1 : wrap64 ((v : Int) * 64) = (v : Int) * 64 := w64 (by omega) (by omega)
 have e2 : Int.tmod (b : Int) 64 = (b : Int) % 64 := Int.tmod_eq_emod_of_nonneg (by omega)
 have e3 : wrap64 ((v : Int) * 64 + (b : Int) % 64) = ((v * 64 + b % 64 : Nat) : Int) := by rw [w64 (by omega) (by omega)]; omega
 have e4 := w_succ j (by omega)
 rw [e1, e2, e3, e4]
 exact hgood hq
theorem next_j2 (s : ByteArray) (i n v : Nat) (hs : s.size ≤ 1099511627776) (hi : i < s.size) (hn : n ≤ 3) (r : Int × Int × Bool)
  (hbad : ¬ i + n < s.size → r = (65533, 1, false))
  (hgood : i + n < s.size → Ev (fun k => zaK.l0 k s (i : Int) (n : Int) (v : Int) ((1 : Nat) : Int)) r) :
  Ev (fun k => zaK.j2 k s (i : Int) (n : Int) (v : Int)) r := by
 refine Ev.step (fun k => by rw [zaK.j2]) ?_
 have e0 : wrap64 ((i : Int) + (n : Int)) = ((i + n : Nat) : Int) := by rw [w64 (by omega) (by omega)]; omega
 rw [e0]
 by_cases h : i + n < s.size
 ·exact Ev.neg (by omega) (hgood h)
 rw [hbad h]; exact Ev.pos (by omega) (Ev.now _)
theorem next_2 (s : ByteArray) (hs : s.size ≤ 1099511627776) (i : Nat) (hi : i < s.size) (b0 b1 b2 b3 : Nat) (hc1 : (s.get! (i + 1)).toNat = b1) (h0 : 194 ≤ b0 ∧ b0 < 224) :
  Ev (fun k => zaK.j2 k s (i : Int) ((1 : Nat) : Int) ((b0 % 32 : Nat) : Int)) (nextR (Lib.decodeN (s.size - i) b0 b1 b2 b3)) := by
 rw [dN2 h0]
 refine next_j2 s i 1 (b0 % 32) hs hi (by omega) _ (fun h => by rw [if_neg (by omega), nextR_bad]) (fun h => ?_)
 refine next_step s i 1 (b0 % 32) 1 hs (by omega) (by omega) (by omega) (by omega) _ (fun g => by rw [hc1] at g; rw [if_neg (by omega), nextR_bad]) (fun g => ?_)
 rw [hc1] at g ⊢
 refine (next_end s i 1 _ (by omega) (by omega) (by omega)).to ?_
 symm
 rw [if_pos (by omega), nextR_good (by omega)]
 rw [if_pos ⟨isPt_iff.2 (by omega), by rw [if_neg (by omega), if_pos (by omega)]⟩]
theorem next_3 (s : ByteArray) (hs : s.size ≤ 1099511627776) (i : Nat) (hi : i < s.size) (b0 b1 b2 b3 : Nat) (hc1 : (s.get! (i + 1)).toNat = b1) (hc2 : (s.get! (i + 2)).toNat = b2) (h0 : 224 ≤ b0 ∧ b0 < 240) :
  Ev (fun k => zaK.j2 k s (i : Int) ((2 : Nat) : Int) ((b0 % 16 : Nat) : Int)) (nextR (Lib.decodeN (s.size - i) b0 b1 b2 b3)) := by
 rw [dN3 h0]
 refine next_j2 s i 2 (b0 % 16) hs hi (by omega) _ (fun h => by rw [if_neg (by omega), nextR_bad]) (fun h => ?_)
 refine next_step s i 2 (b0 % 16) 1 hs (by omega) (by omega) (by omega) (by omega) _ (fun g => by rw [hc1] at g; rw [if_neg (by omega), nextR_bad]) (fun g1 => ?_)
 rw [hc1] at g1 ⊢
 refine next_step s i 2 _ 2 hs (by omega) (by omega) (by omega) (by omega) _ (fun g => by rw [hc2] at g; rw [if_neg (by omega), nextR_bad]) (fun g2 => ?_)
 rw [hc2] at g2 ⊢
 refine (next_end s i 2 _ (by omega) (by omega) (by omega)).to ?_
 have ev : (b0 % 16 * 64 + b1 % 64) * 64 + b2 % 64 = b0 % 16 * 4096 + b1 % 64 * 64 + b2 % 64 := by omega
 rw [ev]
 symm
 have hv0 : b0 % 16 * 4096 + b1 % 64 * 64 + b2 % 64 < 65536 := by omega
 clear ev
 generalize b0 % 16 * 4096 + b1 % 64 * 64 + b2 % 64 = v at *
 by_cases hv : 2048 ≤ v ∧ (v < 55296 ∨ 57344 ≤ v)
 ·rw [if_pos (by omega), nextR_good (by omega), if_pos ⟨isPt_iff.2 (by omega), by rw [if_neg (by omega), if_neg (by omega), if_pos hv0]⟩]
 rw [if_neg (by omega), nextR_bad, if_neg]
 rintro ⟨hp, hz⟩
 have := isPt_iff.1 hp
 by_cases c1 : v < 2048
 ·split at hz
  ·omega
  first | omega | (rw [if_pos c1] at hz; omega)
 omega
theorem next_4 (s : ByteArray) (hs : s.size ≤ 1099511627776) (i : Nat) (hi : i < s.size) (b0 b1 b2 b3 : Nat) (hc1 : (s.get! (i + 1)).toNat = b1) (hc2 : (s.get! (i + 2)).toNat = b2) (hc3 : (s.get! (i + 3)).toNat = b3) (h0 : 240 ≤ b0 ∧ b0 < 245) :
  Ev (fun k => zaK.j2 k s (i : Int) ((3 : Nat) : Int) ((b0 % 8 : Nat) : Int)) (nextR (Lib.decodeN (s.size - i) b0 b1 b2 b3)) := by
 rw [dN4 h0]
 refine next_j2 s i 3 (b0 % 8) hs hi (by omega) _ (fun h => by rw [if_neg (by omega), nextR_bad]) (fun h => ?_)
 refine next_step s i 3 (b0 % 8) 1 hs (by omega) (by omega) (by omega) (by omega) _ (fun g => by rw [hc1] at g; rw [if_neg (by omega), nextR_bad]) (fun g1 => ?_)
 rw [hc1] at g1 ⊢
 refine next_step s i 3 _ 2 hs (by omega) (by omega) (by omega) (by omega) _ (fun g => by rw [hc2] at g; rw [if_neg (by omega), nextR_bad]) (fun g2 => ?_)
 rw [hc2] at g2 ⊢
 refine next_step s i 3 _ 3 hs (by omega) (by omega) (by omega) (by omega) _ (fun g => by rw [hc3] at g; rw [if_neg (by omega), nextR_bad]) (fun g3 => ?_)
 rw [hc3] at g3 ⊢
 refine (next_end s i 3 _ (by omega) (by omega) (by omega)).to ?_
 have ev : ((b0 % 8 * 64 + b1 % 64) * 64 + b2 % 64) * 64 + b3 % 64 = b0 % 8 * 262144 + b1 % 64 * 4096 + b2 % 64 * 64 + b3 % 64 := by omega
 rw [ev]
 symm
 clear ev
 generalize b0 % 8 * 262144 + b1 % 64 * 4096 + b2 % 64 * 64 + b3 % 64 = v at *
 by_cases hv : 65536 ≤ v ∧ v ≤ 1114111
 ·rw [if_pos (by omega), nextR_good (by omega), if_pos ⟨isPt_iff.2 (by omega), by rw [if_neg (by omega), if_neg (by omega), if_neg (by omega)]⟩]
 rw [if_neg (by omega), nextR_bad, if_neg]
 rintro ⟨hp, hz⟩
 have := isPt_iff.1 hp
 by_cases c1 : v < 65536
 ·split at hz
  ·omega
  split at hz
  ·omega
  first | omega | (rw [if_pos c1] at hz; omega)
 omega
theorem next_g (s : ByteArray) (hs : s.size ≤ 1099511627776) (i : Nat) (hi : i < s.size) (b0 b1 b2 b3 : Nat) (hb : b0 < 256) (hc0 : (s.get! i).toNat = b0) (hc1 : (s.get! (i + 1)).toNat = b1) (hc2 : (s.get! (i + 2)).toNat = b2) (hc3 : (s.get! (i + 3)).toNat = b3) :
  Ev (fun k => zaK.f k s (i : Int)) (nextR (Lib.decodeN (s.size - i) b0 b1 b2 b3)) := by
 unfold zaK.f
 rw [bt_get, hc0, w64 (x := (b0 : Int)) (by omega) (by omega)]
 refine Ev.pos (by omega) (Ev.pos (by omega) ?_)
 by_cases h1 : b0 < 128
 ·rw [dN1 h1, nextR_good (by omega)]
  exact Ev.pos (by omega) (Ev.now _)
 refine Ev.neg (by omega) ?_
 by_cases h2 : b0 < 194
 ·rw [dN0 (by omega), nextR_bad]
  refine Ev.neg (by omega) ?_
  refine Ev.step (fun k => by rw [zaK.j0]) (Ev.neg (by simp) (Ev.neg (by omega) ?_))
  refine Ev.step (fun k => by rw [zaK.j1]) (Ev.neg (by simp) (Ev.neg (by omega) (Ev.now _)))
 refine Ev.pos (by omega) ?_
 by_cases h3 : b0 < 224
 ·rw [decide_eq_true (show (b0 : Int) < 224 by omega)]
  refine Ev.step (fun k => by rw [zaK.j0]) (Ev.pos rfl ?_)
  have e : Int.tmod (b0 : Int) 32 = ((b0 % 32 : Nat) : Int) := by rw [Int.tmod_eq_emod_of_nonneg (by omega)]; omega
  rw [e]
  exact next_2 s hs i hi b0 b1 b2 b3 hc1 (by omega)
 rw [decide_eq_false (show ¬ (b0 : Int) < 224 by omega)]
 refine Ev.step (fun k => by rw [zaK.j0]) (Ev.neg (by simp) (Ev.pos (by omega) ?_))
 by_cases h4 : b0 < 240
 ·rw [decide_eq_true (show (b0 : Int) < 240 by omega)]
  refine Ev.step (fun k => by rw [zaK.j1]) (Ev.pos rfl ?_)
  have e : Int.tmod (b0 : Int) 16 = ((b0 % 16 : Nat) : Int) := by rw [Int.tmod_eq_emod_of_nonneg (by omega)]; omega
  rw [e]
  exact next_3 s hs i hi b0 b1 b2 b3 hc1 hc2 (by omega)
 rw [decide_eq_false (show ¬ (b0 : Int) < 240 by omega)]
 refine Ev.step (fun k => by rw [zaK.j1]) (Ev.neg (by simp) (Ev.pos (by omega) ?_))
 by_cases h5 : b0 < 245
 ·refine Ev.pos (by omega) ?_
  have e : Int.tmod (b0 : Int) 8 = ((b0 % 8 : Nat) : Int) := by rw [Int.tmod_eq_emod_of_nonneg (by omega)]; omega
  rw [e]
  exact next_4 s hs i hi b0 b1 b2 b3 hc1 hc2 hc3 (by omega)
 rw [dN0 (by omega), nextR_bad]
 exact Ev.neg (by omega) (Ev.now _)
theorem next_f (s : ByteArray) (hs : s.size ≤ 1099511627776) (i : Nat) (hi : i < s.size) : Ev (fun k => zaK.f k s (i : Int)) (nextR (dec s i)) := by
 rw [dec_eq]
 exact next_g s hs i hi _ _ _ _ (s.get! i).toNat_lt rfl rfl rfl rfl
end Go.Proofs.YtbppeepihlajoaaDoor.P
namespace Go.Proofs.YtbppeepihlajoaaDoor.P
open Go.RowKit Go.Proofs.YtbppeepihlajoaaDoorW.PrintWords
set_option linter.unusedVariables false
def fromL (s : ByteArray) : List Int := (ats s).map (·.f1)
theorem row07_l (s : ByteArray) (hs : s.size ≤ 1099511627776) : ∀ i, ∀ a b : List Int, a.length + (s.size - i) ≤ 1099511627776 → b.length + (s.size - i) ≤ 1099511627776 → Ev (fun k => zbv.l0 k s (i : Int) a b) (a ++ ptsFrom s i, b ++ (atsFrom s i).map (·.f1) ++ [(s.size : Int)]) := by
 refine rec_places s (motive := fun i => ∀ a b : List Int, a.length + (s.size - i) ≤ 1099511627776 → b.length + (s.size - i) ≤ 1099511627776 → Ev (fun k => zbv.l0 k s (i : Int) a b) (a ++ ptsFrom s i, b ++ (atsFrom s i).map (·.f1) ++ [(s.size : Int)])) ?_ ?_
 ·intro i h a b ha hb
  rw [ptsFrom_ge h, atsFrom_ge h, List.append_nil, List.map_nil, List.append_nil]
  exact Ev.step (fun k => by rw [zbv.l0]) (Ev.neg (by omega) (Ev.pos (by omega) (Ev.now _)))
 intro i h ih a b ha hb
 have hd := dec_bd s i h
 refine Ev.step (fun k => by rw [zbv.l0]) (Ev.pos (by omega) (Ev.bind (next_f s hs i h) ?_))
 refine Ev.pos (by omega) (Ev.pos (by omega) ?_)
 have e2 : wrap64 ((i : Int) + (nextR (dec s i)).2.1) = ((i + (dec s i).2 : Nat) : Int) := by
  show wrap64 ((i : Int) + ((dec s i).2 : Int)) = _
  rw [w64 (by omega) (by omega)]; omega
 rw [e2]
 refine (ih _ _ (by rw [List.length_append, List.length_singleton]; omega) (by rw [List.length_append, List.length_singleton]; omega)).to ?_
 rw [ptsFrom_lt h, atsFrom_lt h]
 simp [nextR]
theorem row07_f (s : ByteArray) (hs : s.size ≤ 1099511627776) : Ev (fun k => zbv.f k s) (pts s, fromL s ++ [(s.size : Int)]) :=
 (row07_l s hs 0 [] [] (by simp; omega) (by simp; omega)).to (by simp [pts, fromL, ats])
theorem row08_l (l at_ : List Int) (hl : l.length ≤ 1000000000) (hp : ∀ p ∈ l, 0 ≤ p ∧ p < 1000000000) : ∀ (d i : Nat), i + d = l.length → ∀ (a : List Int) (b : List Bool), a.length = i → b.length = i →
  Ev (fun k => zaG.l0 k (i : Int) l at_ a b) (l, at_, a ++ (rw1 (l.drop i) (a.getLast?)).map (·.1), b ++ (rw1 (l.drop i) (a.getLast?)).map (·.2)) := by
 intro d
 induction d with
 | zero =>
  intro i hi a b ha hb
  rw [List.drop_eq_nil_of_le (by omega)]
  simp only [rw1, List.map_nil, List.append_nil]
  exact Ev.step (fun k => by rw [zaG.l0]) (Ev.neg (by omega) (Ev.now _))
 | succ d ih =>
  intro i hi a b ha hb
  have hlt : i < l.length := by omega
  have hq := hp l[i] (List.getElem_mem hlt)
  have er : rd l (i : Int) = l[i] := by simp [rd, hlt]
  have step : ∀ (c : Int) (t : Bool), lnC a.getLast? (lcl l[i]) (mkP l[i]) = (c, t) → Ev (fun k => zaG.l0 k ((i + 1 : Nat) : Int) l at_ (a ++ [c]) (b ++ [t])) (l, at_, a ++ (rw1 (l.drop i) (a.getLast?)).map (·.1), b ++ (rw1 (l.drop i) (a.getLast?)).map (·.2)) := by
   intro c t e
   refine (ih (i + 1) (by omega) (a ++ [c]) (b ++ [t]) (by simp [ha]) (by simp [hb])).to ?_
   rw [List.drop_eq_getElem_cons hlt, rw1, e]
   simp
  refine Ev.step (fun k => by rw [zaG.l0]) (Ev.pos (by omega) (Ev.pos (by omega) ?_))
  rw [er]
  refine Ev.bind (sclass_ev _ hq.1 hq.2) (Ev.bind (scat_ev _ hq.1 hq.2) ?_)
  have J1 : ∀ x : Bool, mkP l[i] = x → Ev (fun k => zaG.j1 k (i : Int) (lcl l[i]) false x l at_ a b) (l, at_, a ++ (rw1 (l.drop i) (a.getLast?)).map (·.1), b ++ (rw1 (l.drop i) (a.getLast?)).map (·.2)) := by
   intro x hx
   refine Ev.step (fun k => by rw [zaG.j1, w_succ i (by omega)]) ?_
   cases x with
   | false =>
    exact Ev.neg (by decide) (Ev.pos (by omega) (Ev.pos (by omega) (step _ _ (by rw [hx]; rfl))))
   | true =>
    refine Ev.pos rfl ?_
    by_cases h0 : (i : Int) > 0
    ·refine Ev.pos h0 ?_
     have w1 : wrap64 ((i : Int) - 1) = ((i - 1 : Nat) : Int) := by rw [w64 (by omega) (by omega)]; omega
     rw [w1]
     refine Ev.pos (by omega) (Ev.pos (by omega) ?_)
     have hla : a.getLast? = some (rd a ((i - 1 : Nat) : Int)) := by
      rw [List.getLast?_eq_getElem?, ha, List.getElem?_eq_getElem (by omega)]
      simp [rd, List.getElem?_eq_getElem (l := a) (i := i - 1) (by omega)]
     generalize rd a ((i - 1 : Nat) : Int) = d' at *
     rw [hla, hx] at step
     rw [hla]
     have hz : (d' = 1 ∨ d' = 2 ∨ d' = 4) → Ev (fun k => if a.length < 17592186044416 then (if b.length < 140737488355328 then (zaG.l0 k ((i + 1 : Nat) : Int) l at_ (a ++ [0]) (b ++ [false])) else none) else none) (l, at_, a ++ (rw1 (l.drop i) (some d')).map (·.1), b ++ (rw1 (l.drop i) (some d')).map (·.2)) := fun h =>
      Ev.pos (by omega) (Ev.pos (by omega) (step 0 false (by unfold lnC; rw [if_pos rfl]; exact if_pos h)))
     by_cases h1 : d' = 1
     ·exact Ev.pos h1 (hz (.inl h1))
     refine Ev.neg h1 ?_
     by_cases h2 : d' = 2
     ·exact Ev.pos h2 (hz (.inr (.inl h2)))
     refine Ev.neg h2 ?_
     by_cases h4 : d' = 4
     ·exact Ev.pos h4 (hz (.inr (.inr h4)))
     refine Ev.neg h4 (Ev.pos (by omega) (Ev.pos (by omega) (step d' true ?_)))
     unfold lnC
     rw [if_pos rfl]
     exact if_neg (by omega)
    refine Ev.neg h0 (Ev.pos (by omega) (Ev.pos (by omega) (step 0 false ?_)))
    have : a = [] := List.eq_nil_of_length_eq_zero (by omega)
    rw [this, hx]
    rfl
  by_cases h3 : (kd l[i]).1 = 3
  ·refine Ev.pos h3 (J1 true ?_)
   unfold mkP
   rw [beq_iff_eq.2 h3, Bool.true_or]
  refine Ev.neg h3 (J1 _ ?_)
  unfold mkP
  rw [beq_eq_false_iff_ne.2 h3, Bool.false_or]
theorem pts_bd (s : ByteArray) : ∀ p ∈ pts s, 0 ≤ p ∧ p < 1000000000 := fun p hp => by have := pts_range s 0 p hp; omega
theorem row08_f (s : ByteArray) (hs : s.size ≤ 1000000) : Ev (fun k => zaG.f k s) (pts s, fromL s ++ [(s.size : Int)], (rw1 (pts s) none).map (·.1), (rw1 (pts s) none).map (·.2)) := by
 have hl := pts_len s 0
 unfold zaG.f
 refine Ev.bind (row07_f s (by omega)) ?_
 refine (row08_l (pts s) (fromL s ++ [(s.size : Int)]) (by unfold pts; omega) (pts_bd s) (pts s).length 0 (by omega) [] [] rfl rfl).to ?_
 simp
theorem only_l (l : List S110) (hl : l.length ≤ 1000000000) : ∀ (d i : Nat), i + d = l.length → ∀ x : List Int, x.length = l.length → x.take i = (l.take i).map (·.f0) → Ev (fun k => zbf.l0 k x l (l.length : Int) (i : Int)) (l.map (·.f0)) := by
 intro d
 induction d with
 | zero =>
  intro i hi x hx ht
  refine Ev.step (fun k => by rw [zbf.l0]) (Ev.neg (by omega) ((Ev.now _).to ?_))
  rw [List.take_of_length_le (by omega), List.take_of_length_le (by omega)] at ht
  exact ht
 | succ d ih =>
  intro i hi x hx ht
  have hlt : i < l.length := by omega
  have er : zaR l (i : Int) = l[i] := by simp [zaR, hlt]
  refine Ev.step (fun k => by rw [zbf.l0, w_succ i (by omega), er, Int.toNat_natCast]) (Ev.pos (by omega) (Ev.pos (by omega) (Ev.pos (by omega) (Ev.pos (by omega) ?_))))
  refine ih (i + 1) (by omega) _ (by rw [List.length_set]; exact hx) ?_
  rw [List.take_succ_eq_append_getElem (by rw [List.length_set]; omega), List.take_succ_eq_append_getElem hlt, List.map_append, List.getElem_set_self, List.take_set_of_le (Nat.le_refl _), ht]
  rfl
theorem only_f (s : ByteArray) (hs : s.size ≤ 1000000) : Ev (fun k => zbf.f k (ats s)) (pts s) := by
 have hl := ats_len s 0
 have hl' : (ats s).length ≤ 1000000 := by unfold ats; omega
 unfold zbf.f
 refine Ev.pos (by omega) (Ev.pos (by omega) ?_)
 refine (only_l (ats s) (by omega) (ats s).length 0 (by omega) _ (by simp) (by simp)).to ?_
 rw [ats, ats_pts]
 rfl
def lnAt (l : List Int) (i : Nat) : Bool × Bool :=
 if i = 0 then (false, false)
 else if rd l ((i : Int) - 1) = 10 ∨ (rd l ((i : Int) - 1) = 13 ∧ rd l (i : Int) ≠ 10) then (true, true)
 else (cutAt l i && mayB (rdOf false ((rw1 l none).map (·.2)) (i : Int)) (rd l ((i : Int) - 1)) (rd ((rw1 l none).map (·.1)) (i : Int)) (rd ((rw1 l none).map (·.1)) ((i : Int) - 1)) (behS (fun i => rd ((rw1 l none).map (·.1)) (i : Int)) 4 i) (behS (fun i => rd ((rw1 l none).map (·.1)) (i : Int)) 6 i) (dgB l (fun i => rd ((rw1 l none).map (·.1)) (i : Int)) (baseS (fun i => rdOf false ((rw1 l none).map (·.2)) (i : Int)) (i - 1))) (flS (fun i => rd ((rw1 l none).map (·.1)) (i : Int)) (fun i => rdOf false ((rw1 l none).map (·.2)) (i : Int)) i), false)
theorem cut_end (l : List Int) (j : Nat) (h : rd l (j : Int) = 10 ∨ (rd l (j : Int) = 13 ∧ rd l ((j + 1 : Nat) : Int) ≠ 10)) : cutAt l (j + 1) = true := by
 have h10 : cls 10 = 1 := by decide +kernel
 have h13 : cls 13 = 1 := by decide +kernel
 rw [cutAt]
 unfold ccB
 rw [if_neg (by rintro ⟨a, b⟩; rcases h with h | h; rw [a] at h; cases h; exact h.2 b)]
 rw [if_pos]
 rcases h with h | h
 ·rw [h]; exact .inr h10
 rw [h.1]; exact .inr h13
theorem lines_f (l : List Int) (hl : l.length ≤ 1000000) (hp : ∀ p ∈ l, 0 ≤ p ∧ p < 1000000000) : Ev (fun k => impl_lines.f k l) (((List.range' 0 l.length).map (lnAt l)).map (·.1), ((List.range' 0 l.length).map (lnAt l)).map (·.2), (rw1 l none).map (·.1), (rw1 l none).map (·.2)) := by
 have hrl := rw1_len l none
 unfold impl_lines.f
 refine Ev.pos (by omega) (Ev.bind (ln1_ev l (fun p h => (hp p h).1) none) (Ev.bind (charCuts_ev l (by omega) hp) (Ev.pos (by simp) ((Ev.now _).to ?_))))
 have h2 := ln2_eq (l := l) (ch := (List.range' 0 l.length).map (cutAt l)) (row_ok l) (by omega) l.length 0 (by omega)
 have e : ln2 l ((rw1 l none).map (·.1)) ((rw1 l none).map (·.2)) ((List.range' 0 l.length).map (cutAt l)) l.length 0 [] 0 false false = (List.range' 0 l.length).map (lnAt l) := by
  refine h2.trans (List.map_congr_left fun i hi => ?_)
  have hi' := (List.mem_range'_1.1 hi).2
  unfold lnAt
  by_cases h0 : i = 0
  ·rw [if_pos h0, if_pos h0]
  rw [if_neg h0, if_neg h0]
  obtain ⟨j, rfl⟩ : ∃ j, i = j + 1 := ⟨i - 1, by omega⟩
  have hj : j + 1 < l.length := by omega
  have ec : rdOf false ((List.range' 0 l.length).map (cutAt l)) ((j + 1 : Nat) : Int) = cutAt l (j + 1) := by simp [rdOf, hj]
  have e1 : ((j + 1 : Nat) : Int) - 1 = (j : Int) := by omega
  have hfl := flS_bd (fun i => rd ((rw1 l none).map (·.1)) (i : Int)) (fun i => rdOf false ((rw1 l none).map (·.2)) (i : Int)) (j + 1)
  rw [ec, e1, digP_eq (row_ok l) j (by omega), Nat.add_sub_cancel]
  refine lnB_eq _ _ _ _ _ _ _ _ _ _ hfl.1 (fun hm => ⟨?_, cut_end l j hm⟩)
  have hend : rd ((rw1 l none).map (·.1)) (j : Int) = 1 := row_end l j (by omega) (by
   rw [← rd_lt l j (by omega)]
   rcases hm with h | h
   ·exact .inl h
   exact .inr h.1)
  cases hk : rdOf false ((rw1 l none).map (·.2)) ((j + 1 : Nat) : Int) with
  | false => rfl
  | true => exact absurd hend ((row_ok l).took j hj hk).2.1
 rw [e]
def cutsFrom (s : ByteArray) (l : List Int) (i m : Nat) : List S61 := ((List.range' i m).filter fun i => (lnAt l i).1).map fun (i : Nat) => (⟨rd (fromL s) (i : Int), (lnAt l i).2⟩ : S61)
theorem cutsFrom_succ (s : ByteArray) (l : List Int) (i m : Nat) : cutsFrom s l i (m + 1) = (if (lnAt l i).1 = true then [(⟨rd (fromL s) (i : Int), (lnAt l i).2⟩ : S61)] else []) ++ cutsFrom s l (i + 1) m := by
 unfold cutsFrom
 rw [List.range'_succ, List.filter_cons]
 by_cases h : (lnAt l i).1 = true
 ·rw [if_pos h, if_pos h, List.map_cons]; rfl
 rw [if_neg h, if_neg h]; rfl
theorem icuts_l (s : ByteArray) (hs : s.size ≤ 1000000) : ∀ (m i : Nat), i + m = (ats s).length → ∀ acc : List S61, acc.length + m ≤ 2000000 →
  Ev (fun k => zaU.l0 k s (((List.range' 0 (pts s).length).map (lnAt (pts s))).map (·.1)) (((List.range' 0 (pts s).length).map (lnAt (pts s))).map (·.2)) acc (ats s) ((ats s).length : Int) (i : Int)) (acc ++ cutsFrom s (pts s) i m ++ [⟨(s.size : Int), true⟩]) := by
 have hl := ats_len s 0
 have hal : (ats s).length ≤ 1000000 := by unfold ats; omega
 have hpl : (pts s).length = (ats s).length := by unfold pts ats; rw [← ats_pts, List.length_map]
 intro m
 induction m with
 | zero =>
  intro i hi acc ha
  refine Ev.step (fun k => by rw [zaU.l0]) (Ev.neg (by omega) (Ev.pos (by omega) ((Ev.now _).to ?_)))
  simp [cutsFrom]
 | succ m ih =>
  intro i hi acc ha
  have hlt : i < (ats s).length := by omega
  have e1 : rdOf false (((List.range' 0 (pts s).length).map (lnAt (pts s))).map (·.1)) (i : Int) = (lnAt (pts s) i).1 := by simp [rdOf, show i < (pts s).length by omega]
  have e2 : rdOf false (((List.range' 0 (pts s).length).map (lnAt (pts s))).map (·.2)) (i : Int) = (lnAt (pts s) i).2 := by simp [rdOf, show i < (pts s).length by omega]
  have e3 : (zaR (ats s) (i : Int)).f1 = rd (fromL s) (i : Int) := by simp [zaR, rd, fromL, hlt]
  rw [cutsFrom_succ]
  refine Ev.step (fun k => by rw [zaU.l0, w_succ i (by omega), e1, e2, e3]) (Ev.pos (by omega) (Ev.pos (by omega) (Ev.pos (by omega) ?_)))
  by_cases h0 : (i : Int) > 0
  ·refine Ev.pos h0 (Ev.pos (by simp; omega) ?_)
   by_cases hc : (lnAt (pts s) i).1 = true
   ·rw [if_pos hc]
    refine Ev.pos hc (Ev.pos (by simp; omega) (Ev.pos (by omega) ((ih (i + 1) (by omega) _ (by simp; omega)).to ?_)))
    simp
   rw [if_neg hc]
   exact Ev.neg hc ((ih (i + 1) (by omega) _ (by omega)).to (by simp))
  have : i = 0 := by omega
  subst this
  rw [show (lnAt (pts s) 0).1 = false from rfl]
  exact Ev.neg h0 ((ih 1 (by omega) _ (by omega)).to (by simp))
theorem slines_l (s : ByteArray) (hs : s.size ≤ 1000000) : ∀ (m i : Nat), 1 ≤ i → i + m = (pts s).length → ∀ acc : List S61, acc.length + m ≤ 2000000 →
  Ev (fun k => zaP.l0 k s acc (i : Int) (pts s) (fromL s ++ [(s.size : Int)]) ((rw1 (pts s) none).map (·.1)) ((rw1 (pts s) none).map (·.2))) (acc ++ cutsFrom s (pts s) i m ++ [⟨(s.size : Int), true⟩]) := by
 have hl := ats_len s 0
 have hal : (ats s).length ≤ 1000000 := by unfold ats; omega
 have hpl : (pts s).length = (ats s).length := by unfold pts ats; rw [← ats_pts, List.length_map]
 have hfl : (fromL s).length = (ats s).length := by simp [fromL]
 have hrl := rw1_len (pts s) none
 intro m
 induction m with
 | zero =>
  intro i h1 hi acc ha
  refine Ev.step (fun k => by rw [zaP.l0]) (Ev.neg (by omega) (Ev.pos (by omega) ((Ev.now _).to ?_)))
  simp [cutsFrom]
 | succ m ih =>
  intro i h1 hi acc ha
  obtain ⟨j, rfl⟩ : ∃ j, i = j + 1 := ⟨i - 1, by omega⟩
  have hj : j + 1 < (pts s).length := by omega
  have e3 : rd (fromL s ++ [(s.size : Int)]) ((j + 1 : Nat) : Int) = rd (fromL s) ((j + 1 : Nat) : Int) := by
   simp only [rd, Int.toNat_natCast]
   rw [List.getD_eq_getElem?_getD, List.getD_eq_getElem?_getD, List.getElem?_append_left (by omega)]
  rw [cutsFrom_succ]
  refine Ev.step (fun k => by rw [zaP.l0, w_succ (j + 1) (by omega), e3]) (Ev.pos (by omega) (Ev.bind (Ev.done (must_f (by omega) j hj)) ?_))
  have hlen : (fromL s ++ [(s.size : Int)]).length = (ats s).length + 1 := by simp [hfl]
  have e1 : ((j + 1 : Nat) : Int) - 1 = (j : Int) := by omega
  by_cases hm : rd (pts s) (j : Int) = 10 ∨ (rd (pts s) (j : Int) = 13 ∧ rd (pts s) ((j + 1 : Nat) : Int) ≠ 10)
  ·have ea : lnAt (pts s) (j + 1) = (true, true) := by unfold lnAt; rw [if_neg (by omega), e1, if_pos hm]
   refine Ev.pos (decide_eq_true hm) (Ev.pos (by omega) (Ev.pos (by omega) (Ev.pos (by omega) ((ih (j + 1 + 1) (by omega) (by omega) _ (by simp; omega)).to ?_))))
   rw [ea]
   simp
  refine Ev.neg (fun x => hm (of_decide_eq_true x)) (Ev.bind (char_ev (pts s) (by omega) (pts_bd s) j hj) ?_)
  have ea : lnAt (pts s) (j + 1) = (cutAt (pts s) (j + 1) && mayB (rdOf false ((rw1 (pts s) none).map (·.2)) ((j + 1 : Nat) : Int)) (rd (pts s) (j : Int)) (rd ((rw1 (pts s) none).map (·.1)) ((j + 1 : Nat) : Int)) (rd ((rw1 (pts s) none).map (·.1)) (j : Int)) (behS (fun i => rd ((rw1 (pts s) none).map (·.1)) (i : Int)) 4 (j + 1)) (behS (fun i => rd ((rw1 (pts s) none).map (·.1)) (i : Int)) 6 (j + 1)) (dgB (pts s) (fun i => rd ((rw1 (pts s) none).map (·.1)) (i : Int)) (baseS (fun i => rdOf false ((rw1 (pts s) none).map (·.2)) (i : Int)) j)) (flS (fun i => rd ((rw1 (pts s) none).map (·.1)) (i : Int)) (fun i => rdOf false ((rw1 (pts s) none).map (·.2)) (i : Int)) (j + 1)), false) := by
   unfold lnAt
   rw [if_neg (by omega), e1, if_neg hm, Nat.add_sub_cancel]
  have hmay := may_ev (l := pts s) (at_ := fromL s ++ [(s.size : Int)]) (cl := (rw1 (pts s) none).map (·.1)) (tk := (rw1 (pts s) none).map (·.2)) (by simp [hrl]) (by simp [hrl]) (by omega) (row_ok (pts s)) j hj
  generalize mayB (rdOf false ((rw1 (pts s) none).map (·.2)) ((j + 1 : Nat) : Int)) (rd (pts s) (j : Int)) (rd ((rw1 (pts s) none).map (·.1)) ((j + 1 : Nat) : Int)) (rd ((rw1 (pts s) none).map (·.1)) (j : Int)) (behS (fun i => rd ((rw1 (pts s) none).map (·.1)) (i : Int)) 4 (j + 1)) (behS (fun i => rd ((rw1 (pts s) none).map (·.1)) (i : Int)) 6 (j + 1)) (dgB (pts s) (fun i => rd ((rw1 (pts s) none).map (·.1)) (i : Int)) (baseS (fun i => rdOf false ((rw1 (pts s) none).map (·.2)) (i : Int)) j)) (flS (fun i => rd ((rw1 (pts s) none).map (·.1)) (i : Int)) (fun i => rdOf false ((rw1 (pts s) none).map (·.2)) (i : Int)) (j + 1)) = may at *
  rw [ea]
  by_cases hc : cutAt (pts s) (j + 1) = true
  ·refine Ev.pos hc (Ev.bind hmay ?_)
   by_cases hy : may = true
   ·refine Ev.pos hy (Ev.pos (by omega) (Ev.pos (by omega) (Ev.pos (by omega) ((ih (j + 1 + 1) (by omega) (by omega) _ (by simp; omega)).to ?_))))
    simp [hc, hy]
   refine Ev.neg hy ((ih (j + 1 + 1) (by omega) (by omega) _ (by omega)).to ?_)
   simp [hy]
  refine Ev.neg hc ((ih (j + 1 + 1) (by omega) (by omega) _ (by omega)).to ?_)
  simp [hc]
def lcuts (s : ByteArray) : List S61 := if s.size = 0 then [] else [⟨0, false⟩] ++ cutsFrom s (pts s) 1 ((pts s).length - 1) ++ [⟨(s.size : Int), true⟩]
theorem pts_pos (s : ByteArray) (h : 0 < s.size) : 0 < (pts s).length := by unfold pts; rw [ptsFrom_lt h]; simp
theorem iLines_f (s : ByteArray) (hs : s.size ≤ 65536) : Ev (fun k => zbc.f k s) (lcuts s) := by
 have hl := ats_len s 0
 have hal : (ats s).length ≤ s.size := by unfold ats; omega
 have hpl : (pts s).length = (ats s).length := by unfold pts ats; rw [← ats_pts, List.length_map]
 unfold zbc.f
 refine Ev.bind (Ev.done rfl) (Ev.neg (by simp; omega) (Ev.bind (read_f s (by omega)) (Ev.bind (only_f s (by omega)) (Ev.bind (lines_f (pts s) (by omega) (pts_bd s)) (Ev.bind ?_ (Ev.now _))))))
 unfold zaU.f lcuts
 by_cases h0 : s.size = 0
 ·rw [if_pos h0]; exact Ev.pos (by omega) (Ev.now _)
 rw [if_neg h0]
 have hp := pts_pos s (by omega)
 refine Ev.neg (by omega) ((icuts_l s (by omega) (ats s).length 0 (by omega) [⟨0, false⟩] (by simp; omega)).to ?_)
 obtain ⟨m, hm⟩ : ∃ m, (ats s).length = m + 1 := ⟨(ats s).length - 1, by omega⟩
 rw [hm, cutsFrom_succ, show (lnAt (pts s) 0).1 = false from rfl, hpl, hm]
 simp
theorem sLines_f (s : ByteArray) (hs : s.size ≤ 65536) : Ev (fun k => zbK.f k s) (lcuts s) := by
 have hl := ats_len s 0
 have hpl : (pts s).length = (ats s).length := by unfold pts ats; rw [← ats_pts, List.length_map]
 have hal : (ats s).length ≤ s.size := by unfold ats; omega
 unfold zbK.f
 refine Ev.neg (by omega) (Ev.bind ?_ (Ev.now _))
 unfold zaP.f lcuts
 refine Ev.bind (Ev.done rfl) ?_
 by_cases h0 : s.size = 0
 ·rw [if_pos h0]
  exact Ev.pos (by cases s with | mk d => have : d = #[] := Array.eq_empty_of_size_eq_zero h0; subst this; simp [ByteArray.toList_eq]) (Ev.now _)
 rw [if_neg h0]
 have hp := pts_pos s (by omega)
 refine Ev.neg (fun e => h0 ?_) (Ev.bind (row08_f s (by omega)) (Ev.pos (by simp) ?_))
 ·cases s with
  | mk d =>
   have h1 : d.toList = [] := by simpa [ByteArray.toList_eq] using e
   show d.size = 0
   rw [← Array.length_toList, h1]; rfl
 refine (slines_l s (by omega) ((pts s).length - 1) 1 (by omega) (by omega) _ (by simp; omega)).to ?_
 simp
end Go.Proofs.YtbppeepihlajoaaDoor.P
namespace Go.Proofs.YtbppeepihlajoaaDoor.P
open Go.RowKit Go.Proofs.YtbppeepihlajoaaDoorW.PrintWords
set_option linter.unusedVariables false
theorem eqLC_f (a : Int) (b : Bool) : laws_eqLineCut.f a b a b = some true := by
 unfold laws_eqLineCut.f
 rw [if_pos rfl, if_neg (by simp)]
theorem eqLC_ev (l : List S61) (hl : l.length ≤ 1000000000) : Ev (fun k => zaF.f k l l) true := by
 unfold zaF.f
 refine Ev.pos rfl ?_
 suffices H : ∀ (j i : Nat), l.length - i = j → i ≤ l.length → Ev (fun k => zaF.l0 k l l (i : Int)) true from H _ 0 rfl (by omega)
 intro j
 induction j with
 | zero =>
  intro i hj hi
  exact Ev.step (fun k => by rw [zaF.l0]) (Ev.neg (by omega) (Ev.now _))
 | succ j ih =>
  intro i hj hi
  exact Ev.step (fun k => by rw [zaF.l0, w_succ i (by omega)]) (Ev.pos (by omega) (Ev.pos (by omega) (Ev.pos (by omega) (Ev.bind (Ev.done (eqLC_f _ _)) (Ev.pos rfl (ih (i + 1) (by omega) (by omega)))))))
def mkAt (x : Int) : S61 := ⟨x, (Int.tmod (x + 1) 3 == 0)⟩
def mkFrom : Nat → Int → List S61
 | 0, _ => []
 | n + 1, x => mkAt x :: mkFrom n (x + 2)
theorem mkFrom_len : ∀ (n : Nat) (x : Int), (mkFrom n x).length = n
 | 0, _ => rfl
 | n + 1, x => by simp [mkFrom, mkFrom_len n]
theorem mkFrom_get : ∀ (n : Nat) (x : Int) (i : Nat) (h : i < (mkFrom n x).length), (mkFrom n x)[i] = mkAt (x + 2 * i)
 | 0, _, i, h => by simp [mkFrom] at h
 | n + 1, x, 0, h => by simp [mkFrom]
 | n + 1, x, i + 1, h => by
  simp only [mkFrom, List.getElem_cons_succ]
  rw [mkFrom_get n (x + 2) i]
  congr 1
  omega
theorem markLC_l : ∀ (j : Nat) (l : List S61) (i : Nat) (x : Int), l.length - i = j → i ≤ l.length → l.length ≤ 1000000000 → 0 ≤ x → x + 2 * j ≤ 4000000000 → Ev (fun k => zaT.l0 k l x (i : Int)) (x + 2 * j, l.take i ++ mkFrom j x)
 | 0, l, i, x, hj, hi, hl, hx, hx2 => by
  obtain rfl : i = l.length := by omega
  refine Ev.step (fun k => by rw [zaT.l0]) (Ev.neg (by omega) (Ev.to (Ev.now _) ?_))
  simp [mkFrom]
 | j + 1, l, i, x, hj, hi, hl, hx, hx2 => by
  have hlt : i < l.length := by omega
  refine Ev.step (fun k => by rw [zaT.l0, w_succ i (by omega), w64 (x := x + 1) (by omega) (by omega), w64 (x := x + 1 + 1) (by omega) (by omega), Int.toNat_natCast]) (Ev.pos (by omega) (Ev.pos (by omega) (Ev.bind (Ev.done rfl) ?_)))
  have e0 : (zbz (l.set i ⟨x, (zbz l (i : Int)).f1⟩) (i : Int)).f0 = x := by simp [zbz, hlt]
  rw [e0, List.set_set]
  refine Ev.to (markLC_l j (l.set i (mkAt x)) (i + 1) (x + 1 + 1) (by rw [List.length_set]; omega) (by rw [List.length_set]; omega) (by rw [List.length_set]; omega) (by omega) (by omega)) ?_
  have e1 : (l.set i (mkAt x)).take (i + 1) = l.take i ++ [mkAt x] := by
   rw [List.take_succ_eq_append_getElem (by rw [List.length_set]; exact hlt), List.getElem_set_self, List.take_set_of_le (Nat.le_refl _)]
  rw [e1, List.append_assoc, List.singleton_append]
  simp only [mkFrom, Prod.mk.injEq]
  refine ⟨by omega, ?_⟩
  rw [show x + 1 + 1 = x + 2 by omega]
theorem heldLC_l (l : List S61) (n : Nat) (hl : l.length = n) (hn : n ≤ 1000000000) (hg : ∀ i, (h : i < l.length) → l[i] = mkAt (1 + 2 * (i : Int))) : ∀ (j i : Nat), n - i = j → i ≤ n → Ev (fun k => zaI.l0 k l (1 + 2 * (i : Int)) (i : Int)) (1 + 2 * (n : Int)) := by
 intro j
 induction j with
 | zero =>
  intro i hj hi
  obtain rfl : i = n := by omega
  exact Ev.step (fun k => by rw [zaI.l0]) (Ev.neg (by omega) (Ev.now _))
 | succ j ih =>
  intro i hj hi
  have hlt : i < l.length := by omega
  have er : zbz l (i : Int) = mkAt (1 + 2 * (i : Int)) := by rw [← hg i hlt]; simp [zbz, hlt]
  refine Ev.step (fun k => by rw [zaI.l0, er, w_succ i (by omega), w64 (x := 1 + 2 * (i : Int) + 1) (by omega) (by omega), w64 (x := 1 + 2 * (i : Int) + 1 + 1) (by omega) (by omega)]) ?_
  refine Ev.pos (by omega) (Ev.pos (by omega) (Ev.pos rfl (Ev.neg (by simp [mkAt]) ?_)))
  have := ih (i + 1) (by omega) (by omega)
  rw [show (1 : Int) + 2 * ((i + 1 : Nat) : Int) = 1 + 2 * (i : Int) + 1 + 1 by omega] at this
  exact this
theorem marksLC_ev (l : List S61) (hl : l.length ≤ 1000000000) : ∃ y : List S61, Ev (fun k => zaT.f k l 1) (1 + 2 * (l.length : Int), y) ∧ Ev (fun k => zaI.f k y 1) (1 + 2 * (l.length : Int)) := by
 refine ⟨mkFrom l.length 1, ?_, ?_⟩
 ·have := markLC_l l.length l 0 1 (by omega) (by omega) hl (by omega) (by omega)
  rw [List.take_zero, List.nil_append] at this
  exact this
 exact heldLC_l (mkFrom l.length 1) l.length (mkFrom_len _ _) hl (fun i h => mkFrom_get _ _ i h) _ 0 rfl (by omega)
theorem lcuts_len (s : ByteArray) : (lcuts s).length ≤ s.size + 2 := by
 have h := pts_len s 0
 unfold lcuts
 by_cases h0 : s.size = 0
 ·rw [if_pos h0]; simp
 rw [if_neg h0]
 have hf : (cutsFrom s (pts s) 1 ((pts s).length - 1)).length ≤ (pts s).length - 1 := by
  unfold cutsFrom
  rw [List.length_map]
  refine Nat.le_trans (List.length_filter_le _ _) ?_
  simp
 have : (pts s).length ≤ s.size := by unfold pts; omega
 simp
 omega
theorem law_LineCuts (s : ByteArray) : ∃ k, laws_FnExactLineCuts.f k s = some true := by
 apply Ev.rounds
 unfold laws_FnExactLineCuts.f
 by_cases h : (s.size : Int) > 1048576
 ·exact Ev.pos h (Ev.now _)
 refine Ev.neg h ?_
 suffices H : ∃ L : List S61, L.length ≤ 1000000000 ∧ Ev (fun k => zbK.f k s) L ∧ Ev (fun k => zbc.f k s) L by
  obtain ⟨L, hl, h1, h2⟩ := H
  obtain ⟨y, m1, m2⟩ := marksLC_ev L hl
  refine Ev.bind h1 (Ev.bind h2 (Ev.bind (eqLC_ev _ hl) (Ev.pos rfl (Ev.bind m1 (Ev.bind m2 (Ev.neg (by omega) (Ev.pos rfl ?_)))))))
  exact Ev.bind h2 (Ev.bind (eqLC_ev _ hl) (Ev.pos rfl (Ev.bind m2 (Ev.neg (by omega) (Ev.pos rfl (Ev.now _))))))
 by_cases hs : s.size ≤ 65536
 ·have := lcuts_len s
  exact ⟨lcuts s, by omega, sLines_f s hs, iLines_f s hs⟩
 refine ⟨[], by simp, ?_, ?_⟩
 ·unfold zbK.f
  exact Ev.pos (by omega) (Ev.now _)
 unfold zbc.f
 exact Ev.bind (Ev.done rfl) (Ev.pos (by simp; omega) (Ev.now _))
end Go.Proofs.YtbppeepihlajoaaDoor.P
