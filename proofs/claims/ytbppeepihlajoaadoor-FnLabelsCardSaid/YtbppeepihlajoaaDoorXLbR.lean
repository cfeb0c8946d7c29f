/- EncodeLabel, the loops over the points: the program's and the reference's go alike. -/
import Derived.Test.YtbppeepihlajoaaDoorXLbP
import Derived.Test.YtbppeepihlajoaaDoorB12
import Derived.Test.YtbppeepihlajoaaDoorB16
namespace Go.Proofs.YtbppeepihlajoaaDoor.P
open Go.RowKit Go.Proofs.YtbppeepihlajoaaDoorW.PrintWords Go.Proofs.YtbppeepihlajoaaDoorW.PrintMore
set_option linter.unusedVariables false
theorem rdI (l : List Int) (i : Nat) (h : i < l.length) : rd l (i : Int) = l[i] := by simp [rd, h]
theorem in_ev (l : List Int) (basic n : Int) (hl : l.length ≤ 1000) : ∀ (m i : Nat), l.length - i = m → i ≤ l.length → ∀ (y : List Int) (d h b : Int),
  0 ≤ b → b ≤ 1000000000000 → 0 ≤ d → d + (l.length - i : Nat) ≤ 1500000000 → 0 ≤ h → h + (l.drop i).count n ≤ l.length → y.length ≤ 1001 + 2000000000 * h →
  ∃ z : List Int × Int × Int × Int, Ev (fun k => encIn k basic n (l.drop i) y d h b) z ∧
   (∀ r, Ev (fun k => zao.l1 k l z.1 z.2.2.1 basic (wrap64 (n + 1)) (wrap64 (z.2.1 + 1)) z.2.2.2) r → Ev (fun k => zao.l3 k l y h basic n d b (i : Int)) r) ∧
   0 ≤ z.2.2.2 ∧ z.2.2.2 ≤ 1000000000000 ∧ 0 ≤ z.2.1 ∧ (z.2.1 ≤ (l.length - i : Nat) ∨ ((l.drop i).count n = 0 ∧ z.2.1 ≤ d + (l.length - i : Nat))) ∧ z.2.2.1 = h + (l.drop i).count n ∧ z.1.length ≤ 1001 + 2000000000 * z.2.2.1 := by
 intro m
 induction m with
 | zero =>
  intro i hm hi y d h b hb0 hb hd0 hd hh0 hh hy
  rw [List.drop_eq_nil_of_le (by omega)]
  refine ⟨(y, d, h, b), Ev.congr (fun k => by rw [encIn]) (Ev.now _), fun r hr => ?_, hb0, hb, hd0, .inr ⟨by simp, by show d ≤ _; omega⟩, by simp, hy⟩
  exact Ev.step (fun k => by rw [zao.l3]) (Ev.neg (by omega) hr)
 | succ m ih =>
  intro i hm hi y d h b hb0 hb hd0 hd hh0 hh hy
  have hlt : i < l.length := by omega
  have hr := rdI l i hlt
  rw [List.drop_eq_getElem_cons hlt] at hh ⊢
  generalize l[i] = c at *
  have HS : zac (wrap64 ((i : Int) + 1) = ((i + 1 : Nat) : Int)) := ⟨w_succ i (by omega)⟩
  by_cases h1 : c < n
  ·have hcn : (c :: l.drop (i + 1)).count n = (l.drop (i + 1)).count n := List.count_cons_of_ne (by omega)
   rw [hcn] at hh ⊢
   have e1 : wrap64 (d + 1) = d + 1 := w64 (by omega) (by omega)
   obtain ⟨z, z1, z2, z3, z4, z5, z6, z7, z8⟩ := ih (i + 1) (by omega) (by omega) y (d + 1) h b hb0 hb (by omega) (by omega) hh0 hh hy
   refine ⟨z, Ev.congr (fun k => by rw [encIn, if_pos h1, e1]) z1, fun r hr' => ?_, z3, z4, z5, ?_, z7, z8⟩
   ·refine Ev.step (fun k => by rw [zao.l3]) (Ev.pos (by omega) (Ev.pos (by omega) ?_))
    rw [hr]
    refine Ev.pos h1 (Ev.step (fun k => by rw [zao.j5, hr, HS.out, e1]) (Ev.pos (by omega) (Ev.pos (by omega) (Ev.neg (by omega) (z2 r hr')))))
   rcases z6 with z6 | ⟨z6, z6'⟩
   ·exact .inl (by omega)
   exact .inr ⟨z6, by omega⟩
  by_cases h2 : c = n
  ·have hcn : (c :: l.drop (i + 1)).count n = (l.drop (i + 1)).count n + 1 := by rw [h2]; exact List.count_cons_self
   rw [hcn] at hh ⊢
   have e1 : wrap64 (h + 1) = h + 1 := w64 (by omega) (by omega)
   obtain ⟨ds, hds, hev⟩ := dig_ev b hb0 hb d.toNat d 36 hd0 (by omega) (by omega) (by omega)
   obtain ⟨v1, _⟩ := hev y (by omega)
   obtain ⟨_, v2⟩ := hev [] (by simp; omega)
   rw [List.nil_append] at v2
   obtain ⟨b2, b20, b21, hb2⟩ := bias_ev d (h + 1) (h == basic) hd0 (by omega) (by omega)
   obtain ⟨z, z1, z2, z3, z4, z5, z6, z7, z8⟩ := ih (i + 1) (by omega) (by omega) (y ++ ds) 0 (h + 1) b2 b20 b21 (by omega) (by omega) (by omega) (by omega) (by rw [List.length_append]; omega)
   refine ⟨z, ?_, fun r hr' => ?_, z3, z4, z5, ?_, by omega, z8⟩
   ·refine Ev.congr (fun k => by rw [encIn, if_neg h1, if_pos h2, e1]) (Ev.bind v1 (Ev.bind hb2 z1))
   ·refine Ev.step (fun k => by rw [zao.l3]) (Ev.pos (by omega) (Ev.pos (by omega) ?_))
    rw [hr]
    refine Ev.neg h1 (Ev.step (fun k => by rw [zao.j5, hr, HS.out, e1]) (Ev.pos (by omega) (Ev.pos (by omega) (Ev.pos h2 ?_))))
    have v3 : Ev (fun k => zaR.f k d b) ds := v2
    refine Ev.bind v3 ?_
    refine Ev.pos (by omega) ?_
    exact Ev.bind hb2 (z2 r hr')
   rcases z6 with z6 | ⟨z6, z6'⟩
   ·exact .inl (by omega)
   exact .inl (by omega)
  have hcn : (c :: l.drop (i + 1)).count n = (l.drop (i + 1)).count n := List.count_cons_of_ne h2
  rw [hcn] at hh ⊢
  obtain ⟨z, z1, z2, z3, z4, z5, z6, z7, z8⟩ := ih (i + 1) (by omega) (by omega) y d h b hb0 hb (by omega) (by omega) hh0 hh hy
  refine ⟨z, Ev.congr (fun k => by rw [encIn, if_neg h1, if_neg h2]) z1, fun r hr' => ?_, z3, z4, z5, ?_, z7, z8⟩
  ·refine Ev.step (fun k => by rw [zao.l3]) (Ev.pos (by omega) (Ev.pos (by omega) ?_))
   rw [hr]
   refine Ev.neg h1 (Ev.step (fun k => by rw [zao.j5, hr, HS.out]) (Ev.pos (by omega) (Ev.pos (by omega) (Ev.neg h2 (z2 r hr')))))
  rcases z6 with z6 | ⟨z6, z6'⟩
  ·exact .inl (by omega)
  exact .inr ⟨z6, by omega⟩
theorem min_ev (l : List Int) (hl : l.length ≤ 1000) (y : List Int) (h basic n d b : Int) (r : ByteArray) : ∀ (j i : Nat), l.length - i = j → i ≤ l.length → ∀ m : Int,
  Ev (fun k => zao.l3 k l y h basic (encMin n (l.drop i) m) (wrap64 (d + (wrap64 ((wrap64 (encMin n (l.drop i) m - n)) * (wrap64 (h + 1)))))) b 0) r →
  Ev (fun k => zao.l2 k l y h basic n d b m (i : Int)) r := by
 intro j
 induction j with
 | zero =>
  intro i hj hi m hr
  rw [List.drop_eq_nil_of_le (by omega)] at hr
  unfold encMin at hr
  exact Ev.step (fun k => by rw [zao.l2]) (Ev.neg (by omega) hr)
 | succ j ih =>
  intro i hj hi m hr
  have hlt : i < l.length := by omega
  have hrd := rdI l i hlt
  rw [List.drop_eq_getElem_cons hlt] at hr
  have HS : zac (wrap64 ((i : Int) + 1) = ((i + 1 : Nat) : Int)) := ⟨w_succ i (by omega)⟩
  refine Ev.step (fun k => by rw [zao.l2, hrd, HS.out]) (Ev.pos (by omega) (Ev.pos (by omega) ?_))
  unfold encMin at hr
  by_cases h1 : l[i] ≥ n
  ·refine Ev.pos h1 ?_
   rw [if_pos h1] at hr
   by_cases h2 : l[i] < m
   ·have e : mn m l[i] = l[i] := if_pos h2
    rw [e] at hr
    exact Ev.pos h2 (ih (i + 1) (by omega) (by omega) _ hr)
   have e : mn m l[i] = m := if_neg h2
   rw [e] at hr
   exact Ev.neg h2 (ih (i + 1) (by omega) (by omega) _ hr)
  rw [if_neg h1] at hr
  exact Ev.neg h1 (ih (i + 1) (by omega) (by omega) _ hr)
theorem count_lt (n M : Int) (hnM : n ≤ M) : ∀ l : List Int, (∀ p ∈ l, n ≤ p → M ≤ p) → l.countP (fun p => decide (p < M + 1)) = l.countP (fun p => decide (p < n)) + l.count M
 | [], _ => by simp
 | p :: r, h => by
  have ih := count_lt n M hnM r (fun q hq => h q (List.mem_cons_of_mem _ hq))
  have hp := h p (by simp)
  rw [List.countP_cons, List.countP_cons, List.count_cons, ih]
  by_cases h1 : p < n
  ·rw [if_pos (by simp; omega), if_pos (by simp; omega), if_neg (by simp; omega)]; omega
  by_cases h2 : p = M
  ·rw [if_pos (by simp; omega), if_neg (by simp; omega), if_pos (by simp; omega)]; omega
  rw [if_neg (by simp; omega), if_neg (by simp; omega), if_neg (by simp; omega)]; omega
theorem exists_ge (n : Int) (l : List Int) (h : l.countP (fun p => decide (p < n)) < l.length) : ∃ p ∈ l, n ≤ p := by
 apply Classical.byContradiction
 intro hn
 have : l.countP (fun p => decide (p < n)) = l.length := by
  rw [List.countP_eq_length]
  intro a ha
  apply decide_eq_true
  apply Classical.byContradiction
  intro h2
  exact hn ⟨a, ha, by omega⟩
 omega
theorem out_ev (l : List Int) (hl : l.length ≤ 1000) (hp : ∀ p ∈ l, 0 ≤ p ∧ p ≤ 1114111) (basic : Int) : ∀ (j : Nat) (y : List Int) (h n d b : Int),
  l.length - h ≤ j → h = l.countP (fun p => decide (p < n)) → 0 ≤ n → n ≤ 1114112 → 0 ≤ b → b ≤ 1000000000000 → 0 ≤ d → d ≤ 1001 → y.length ≤ 1001 + 2000000000 * h →
  ∃ yf : List Int, Ev (fun k => encOut basic l k y h n d b) yf ∧ Ev (fun k => zao.l1 k l y h basic n d b) (strOfNums yf) := by
 intro j
 induction j with
 | zero =>
  intro y h n d b hj hh hn0 hn hb0 hb hd0 hd hy
  exact ⟨y, Ev.step (fun k => by rw [encOut]) (Ev.neg (by omega) (Ev.now _)), Ev.step (fun k => by rw [zao.l1]) (Ev.neg (by omega) (Ev.now _))⟩
 | succ j ih =>
  intro y h n d b hj hh hn0 hn hb0 hb hd0 hd hy
  by_cases hlt : h < l.length
  ·obtain ⟨p, hpl, hpn⟩ := exists_ge n l (by omega)
   obtain ⟨e, m1, m2, m3⟩ := encMin_eq n l ⟨p, hpl, hpn, (hp p hpl).2⟩
   have m4 := (encMin_fact n l 1114111).2.2
   have hcl : l.countP (fun p => decide (p < n)) ≤ l.length := List.countP_le_length
   have hcnt := count_lt n _ m2 l m4
   have hcl2 : l.countP (fun p => decide (p < encMin n l 1114111 + 1)) ≤ l.length := List.countP_le_length
   have hpos : 0 < l.count (encMin n l 1114111) := List.count_pos_iff.2 m1
   have hspec := min_ev l hl y h basic n d b
   generalize hM : encMin n l 1114111 = M at *
   have k1 : (M - n) * (h + 1) ≤ 1114111 * 1001 := Int.mul_le_mul (by omega) (by omega) (by omega) (by omega)
   have k0 : 0 ≤ (M - n) * (h + 1) := Int.mul_nonneg (by omega) (by omega)
   have e1 : wrap64 (M - n) = M - n := w64 (by omega) (by omega)
   have e2 : wrap64 (h + 1) = h + 1 := w64 (by omega) (by omega)
   have e3 : wrap64 ((M - n) * (h + 1)) = (M - n) * (h + 1) := w64 (by omega) (by omega)
   have e4 : wrap64 (d + (M - n) * (h + 1)) = d + (M - n) * (h + 1) := w64 (by omega) (by omega)
   have e5 : wrap64 (M + 1) = M + 1 := w64 (by omega) (by omega)
   have d0 : ((l.drop 0).count M) = l.count M := by rw [List.drop_zero]
   obtain ⟨z, z1, z2, z3, z4, z5, z6, z7, z8⟩ := in_ev l basic M hl _ 0 rfl (by omega) y (d + (M - n) * (h + 1)) h b hb0 hb (by omega) (by omega) (by omega) (by rw [d0]; omega) hy
   rw [d0] at z6 z7
   have z9 : z.2.1 ≤ 1000 := by rcases z6 with z6 | ⟨z6, _⟩ <;> omega
   have e6 : wrap64 (z.2.1 + 1) = z.2.1 + 1 := w64 (by omega) (by omega)
   obtain ⟨yf, f1, f2⟩ := ih z.1 z.2.2.1 (M + 1) (z.2.1 + 1) z.2.2.2 (by omega) (by omega) (by omega) (by omega) z3 z4 (by omega) (by omega) z8
   refine ⟨yf, ?_, ?_⟩
   ·refine Ev.step (fun k => by rw [encOut, e, e1, e2, e3, e4, e5]) (Ev.pos hlt (Ev.bind (by rw [List.drop_zero] at z1; exact z1) ?_))
    rw [e6]
    exact f1
   refine Ev.step (fun k => by rw [zao.l1]) (Ev.pos hlt ?_)
   refine hspec _ _ 0 rfl (by omega) 1114111 ?_
   rw [List.drop_zero, hM, e1, e2, e3, e4]
   refine z2 _ ?_
   rw [e5, e6]
   exact f2
  exact ⟨y, Ev.step (fun k => by rw [encOut]) (Ev.neg hlt (Ev.now _)), Ev.step (fun k => by rw [zao.l1]) (Ev.neg hlt (Ev.now _))⟩
theorem encLow_count : ∀ (l y : List Int), (encLow l y).length = y.length + l.countP (fun p => decide (p < 128))
 | [], y => by simp [encLow]
 | p :: r, y => by
  unfold encLow
  rw [encLow_count r, List.countP_cons]
  by_cases h : p < 128
  ·rw [if_pos h, if_pos (by simpa using h)]; simp; omega
  rw [if_neg h, if_neg (by simpa using h)]; simp
theorem low_ev (l : List Int) (hl : l.length ≤ 1000) (r : ByteArray) : ∀ (j i : Nat), l.length - i = j → i ≤ l.length → ∀ y : List Int, y.length ≤ i →
  Ev (fun k => zao.j1 k l (if 0 < (encLow (l.drop i) y).length then encLow (l.drop i) y ++ [45] else encLow (l.drop i) y) (encLow (l.drop i) y).length (encLow (l.drop i) y).length) r →
  Ev (fun k => zao.l0 k l y (i : Int)) r := by
 intro j
 induction j with
 | zero =>
  intro i hj hi y hy hr
  rw [List.drop_eq_nil_of_le (by omega)] at hr
  unfold encLow at hr
  refine Ev.step (fun k => by rw [zao.l0]) (Ev.neg (by omega) ?_)
  by_cases h0 : 0 < y.length
  ·rw [if_pos h0] at hr
   exact Ev.pos (by omega) (Ev.pos (by omega) hr)
  rw [if_neg h0] at hr
  exact Ev.neg (by omega) hr
 | succ j ih =>
  intro i hj hi y hy hr
  have hlt : i < l.length := by omega
  have hrd := rdI l i hlt
  rw [List.drop_eq_getElem_cons hlt] at hr
  have HS : zac (wrap64 ((i : Int) + 1) = ((i + 1 : Nat) : Int)) := ⟨w_succ i (by omega)⟩
  refine Ev.step (fun k => by rw [zao.l0, hrd, HS.out]) (Ev.pos (by omega) (Ev.pos (by omega) ?_))
  unfold encLow at hr
  by_cases h1 : l[i] < 128
  ·rw [if_pos h1] at hr
   exact Ev.pos h1 (Ev.pos (by omega) (ih (i + 1) (by omega) (by omega) _ (by simp; omega) hr))
  rw [if_neg h1] at hr
  exact Ev.neg h1 (ih (i + 1) (by omega) (by omega) _ (by omega) hr)
theorem label_ev (l : List Int) (hl : l.length ≤ 1000) (hp : ∀ p ∈ l, 0 ≤ p ∧ p ≤ 1114111) : ∃ r, Ev (fun k => zaX.f k l) r ∧ Ev (fun k => zao.f k l) r := by
 have hc := encLow_count l []
 have hcl : l.countP (fun p => decide (p < 128)) ≤ l.length := List.countP_le_length
 simp only [List.length_nil, Nat.zero_add] at hc
 have hy : (if 0 < (encLow l []).length then encLow l [] ++ [45] else encLow l []).length ≤ 1001 := by
  by_cases h : 0 < (encLow l []).length
  ·rw [if_pos h]; simp; omega
  rw [if_neg h]; omega
 obtain ⟨yf, f1, f2⟩ := out_ev l hl hp ((encLow l []).length : Int) l.length (if 0 < (encLow l []).length then encLow l [] ++ [45] else encLow l []) ((encLow l []).length : Int) 128 0 72 (by omega) (by omega) (by omega) (by omega) (by omega) (by omega) (by omega) (by omega) (by omega)
 refine ⟨strOfNums yf, ?_, ?_⟩
 ·unfold zaX.f
  exact Ev.pos (by omega) (Ev.bind f1 (Ev.now _))
 refine low_ev l hl _ _ 0 rfl (by omega) [] (by simp) ?_
 rw [List.drop_zero]
 exact Ev.step (fun k => by rw [zao.j1]) f2
theorem enc_both (s : ByteArray) (hs : s.size ≤ 1048576) : ∃ r, Ev (fun k => zar.f k s) r ∧ Ev (fun k => zaE.f k s) r := by
 have ij (x : List Int) : Ev (fun k => zar.j0 k x true) ⟨#[]⟩ := Ev.step (fun k => by rw [zar.j0]) (Ev.pos rfl (Ev.now _))
 have sj (x : List Int) : Ev (fun k => zaE.j0 k x true) ⟨#[]⟩ := Ev.step (fun k => by rw [zaE.j0]) (Ev.pos rfl (Ev.now _))
 unfold zar.f zaE.f spec_l09Few.f
 have hpt := points_f s (by omega)
 by_cases h1 : (s.size : Int) > 65536
 ·refine ⟨⟨#[]⟩, ?_, ?_⟩
  ·refine Ev.bind hpt (Ev.bind (Ev.done (show zaV.f s = some true by unfold zaV.f; rw [decide_eq_true h1])) (Ev.pos rfl (ij _)))
  exact Ev.bind (a := (([] : List Int), false)) (Ev.pos h1 (Ev.now _)) (Ev.neg (by simp) (sj _))
 have il : zaV.f s = some false := by unfold zaV.f; rw [decide_eq_false h1]
 have hpl : (pts s).length ≤ s.size - 0 := pts_len s 0
 have few : Ev (fun k => if (s.size : Int) > 65536 then some (([] : List Int), false) else (zaP.f k s).bind fun t220 => some (t220, decide ((t220.length : Int) ≤ 1000))) (pts s, decide (((pts s).length : Int) ≤ 1000)) := Ev.neg h1 (Ev.bind (spoints_f s (by omega)) (Ev.now _))
 have iw : impl_well.f s = some (goodFrom s 0) := by
  unfold impl_well.f utf8_ValidString.f
  rw [if_pos (by omega), valid_eq]
  rfl
 by_cases h2 : (pts s).length ≤ 1000
 ·have e2 : decide (((pts s).length : Int) ≤ 1000) = true := decide_eq_true (by omega)
  have e3 : decide (((pts s).length : Int) > 1000) = false := decide_eq_false (by omega)
  rw [e2] at few
  have ht : Ev (fun k => zaS.f k (pts s)) (txt (pts s)) := text_f (pts s) (by omega)
  by_cases hg : goodFrom s 0 = true
  ·have hb := (txt_back s).2 hg
   obtain ⟨r, r1, r2⟩ := label_ev (pts s) h2 (fun p hp => ⟨(pts_range s 0 p hp).1, (pts_range s 0 p hp).2.1⟩)
   obtain ⟨q, q1, q2⟩ : ∃ q, impl_short.f r = some q ∧ spec_l01Small.f r = some q := by
    unfold impl_short.f spec_l01Small.f zaV.f
    by_cases h : (r.size : Int) > 65536
    ·exact ⟨⟨#[]⟩, by rw [decide_eq_true h]; rfl, if_pos h⟩
    exact ⟨r, by rw [decide_eq_false h]; rfl, if_neg h⟩
   refine ⟨q, ?_, ?_⟩
   ·refine Ev.bind hpt (Ev.bind (Ev.done il) (Ev.neg (by simp) (Ev.bind (Ev.done iw) (Ev.pos hg ?_))))
    rw [e3]
    exact Ev.step (fun k => by rw [zar.j0]) (Ev.neg (by simp) (Ev.bind r1 (Ev.bind (Ev.done q1) (Ev.now _))))
   refine Ev.bind few (Ev.pos rfl (Ev.bind ht ?_))
   rw [hb, show (s.toList != s.toList) = false by simp]
   exact Ev.step (fun k => by rw [zaE.j0]) (Ev.neg (by simp) (Ev.bind r2 (Ev.bind (Ev.done q2) (Ev.now _))))
  have hb : (txt (pts s)).toList ≠ s.toList := by
   intro h
   apply hg
   rw [← txt_back]
   rw [Lib.toList_data, Lib.toList_data] at h
   cases h1 : txt (pts s) with
   | mk x =>
    cases h2 : s with
    | mk y =>
     rw [h1, h2] at h
     congr
     exact Array.toList_inj.1 h
  refine ⟨⟨#[]⟩, ?_, ?_⟩
  ·exact Ev.bind hpt (Ev.bind (Ev.done il) (Ev.neg (by simp) (Ev.bind (Ev.done iw) (Ev.neg hg (ij _)))))
  refine Ev.bind few (Ev.pos rfl (Ev.bind ht ?_))
  rw [show ((txt (pts s)).toList != s.toList) = true from bne_iff_ne.2 hb]
  exact sj _
 have e2 : decide (((pts s).length : Int) ≤ 1000) = false := decide_eq_false (by omega)
 have e3 : decide (((pts s).length : Int) > 1000) = true := decide_eq_true (by omega)
 rw [e2] at few
 refine ⟨⟨#[]⟩, ?_, Ev.bind few (Ev.neg (by simp) (sj _))⟩
 refine Ev.bind hpt (Ev.bind (Ev.done il) (Ev.neg (by simp) (Ev.bind (Ev.done iw) ?_)))
 by_cases hg : goodFrom s 0 = true
 ·refine Ev.pos hg ?_
  rw [e3]
  exact ij _
 exact Ev.neg hg (ij _)
end Go.Proofs.YtbppeepihlajoaaDoor.P
