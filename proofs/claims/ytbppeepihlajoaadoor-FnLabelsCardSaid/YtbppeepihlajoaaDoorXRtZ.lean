/- Parts of a proof: words of the print tool that this claim uses, or plain lists. -/
import Derived.Test.YtbppeepihlajoaaDoorXRt
import Derived.Test.YtbppeepihlajoaaDoorXTy
namespace Go.Proofs.YtbppeepihlajoaaDoor.P
open Go.RowKit Go.Proofs.YtbppeepihlajoaaDoorW.PrintWords Go.Proofs.YtbppeepihlajoaaDoorW.PrintMore
set_option linter.unusedVariables false
def Heads (a0 : ByteArray) (y : List Int) : Prop := y.length ≤ a0.size ∧ ∀ i, (h : i < y.length) → bt a0 (i : Int) = y[i]
theorem Heads.left {a0 : ByteArray} {y z : List Int} (h : Heads a0 (y ++ z)) : Heads a0 y := by
 refine ⟨by have := h.1; rw [List.length_append] at this; omega, fun i hi => ?_⟩
 have := h.2 i (by rw [List.length_append]; omega)
 rw [this, List.getElem_append_left hi]
theorem Heads.right {a0 : ByteArray} {y z : List Int} (h : Heads a0 (y ++ z)) (i : Nat) (hi : i < z.length) : bt a0 ((y.length + i : Nat) : Int) = z[i] := by
 have := h.2 (y.length + i) (by rw [List.length_append]; omega)
 rw [this, List.getElem_append_right (by omega)]
 simp
def Plain (y : List Int) : Prop := ∀ x ∈ y, 0 ≤ x ∧ x < 128 ∧ x ≠ 45
theorem Plain.app {y z : List Int} (h : Plain y) (k : Plain z) : Plain (y ++ z) := fun x hx => (List.mem_append.1 hx).elim (h x) (k x)
theorem in_back (a0 : ByteArray) (l : List Int) (hl : l.length ≤ 1000) (k0 : Nat) (basic n : Int) (hn : isPt n = true) : ∀ (rest pre y : List Int) (d h b : Int) (z : List Int × Int × Int × Int),
  encIn k0 basic n rest y d h b = some z → pre ++ rest = l →
  ∀ n0 at0 : Int, h = ((putS n pre rest).length : Int) → basic ≤ h → 0 ≤ n0 → n0 ≤ n → 0 ≤ at0 → at0 ≤ h → 0 ≤ d → at0 + d = putP n pre + (h + 1) * (n - n0) →
  ∃ ext : List Int, z.1 = y ++ ext ∧ Plain ext ∧ z.2.2.1 = ((putS n l []).length : Int) ∧ basic ≤ z.2.2.1 ∧ ∃ n1 at1 : Int, 0 ≤ n1 ∧ n1 ≤ n ∧ 0 ≤ at1 ∧ at1 ≤ z.2.2.1 ∧ 0 ≤ z.2.1 ∧ at1 + z.2.1 = z.2.2.1 + (z.2.2.1 + 1) * (n - n1) ∧
   (Heads a0 z.1 → ∀ R, Ev (fun k => decOut a0 k (a0.extract z.1.length a0.size) (putS n l []) n1 at1 z.2.2.2 (z.2.2.1 == basic)) R → Ev (fun k => decOut a0 k (a0.extract y.length a0.size) (putS n pre rest) n0 at0 b (h == basic)) R)
 | [], pre, y, d, h, b, z, he, hpre, n0, at0, hh, hba, h1, h2, h3, h4, h5, hinv => by
  simp only [encIn, Option.some.injEq] at he
  subst he
  rw [List.append_nil] at hpre
  subst hpre
  have hp : putP n pre = h := by rw [hh]; unfold putP putS; simp
  exact ⟨[], by simp, by simp [Plain], hh, hba, n0, at0, h1, h2, h3, h4, h5, by rw [← hp]; rw [hp]; rw [hp] at hinv; exact hinv, fun _ R hR => hR⟩
 | c :: r, pre, y, d, h, b, z, he, hpre, n0, at0, hh, hba, h1, h2, h3, h4, h5, hinv => by
  have hn' := isPt_iff.1 hn
  have hlen : pre.length + (r.length + 1) = l.length := by rw [← hpre, List.length_append, List.length_cons]
  have hpre' : (pre ++ [c]) ++ r = l := by rw [← hpre, List.append_assoc]; rfl
  have hSl := putS_len n pre (c :: r)
  rw [List.length_cons] at hSl
  have hP0 := putP_nonneg n pre
  have hPle := putP_le n pre (c :: r)
  have k1 : (h + 1) * (n - n0) ≤ 1001 * 1114111 := Int.mul_le_mul (by omega) (by omega) (by omega) (by omega)
  have k0' : 0 ≤ (h + 1) * (n - n0) := Int.mul_nonneg (by omega) (by omega)
  unfold encIn at he
  by_cases c1 : c < n
  ·rw [if_pos c1, w64 (x := d + 1) (by omega) (by omega)] at he
   have := in_back a0 l hl k0 basic n hn r (pre ++ [c]) y (d + 1) h b z he hpre' n0 at0 (by rw [putS_snoc_lt n c pre r c1]; exact hh) hba h1 h2 h3 h4 (by omega) (by rw [putP_snoc_le n c pre (by omega)]; omega)
   rw [putS_snoc_lt n c pre r c1] at this
   exact this
  rw [if_neg c1] at he
  by_cases c2 : c = n
  ·subst c2
   rw [if_pos rfl] at he
   obtain ⟨y', hd, he⟩ := Option.bind_eq_some_iff.mp he
   obtain ⟨b', hb, he⟩ := Option.bind_eq_some_iff.mp he
   obtain ⟨ds, hy', hdl, hdp, hdr⟩ := dig_back b a0 k0 y d 36 y' hd h5 (by omega)
   have hone := putS_one c pre r
   have ew : wrap64 (h + 1) = h + 1 := w64 (by omega) (by omega)
   rw [ew] at he hb
   have hins := putS_ins c pre r
   have hilen : (insAt (putS c pre (c :: r)) (putP c pre).toNat c).length = (putS c pre (c :: r)).length + 1 := insAt_len _ _ _ (by omega)
   rw [hins] at hilen
   obtain ⟨ext, e1, e2, e3, e4, n1, at1, e5, e6, e7, e8, e9, e10, e11⟩ := in_back a0 l hl k0 basic c hn r (pre ++ [c]) y' 0 (h + 1) b' z he hpre' c (putP c pre + 1) (by rw [hilen]; omega) (by omega) (by omega) (Int.le_refl _) (by omega) (by omega) (Int.le_refl _) (by rw [putP_snoc_le c c pre (Int.le_refl _), Int.sub_self, Int.mul_zero])
   refine ⟨ds ++ ext, by rw [e1, hy', List.append_assoc], Plain.app hdp e2, e3, e4, n1, at1, e5, e6, e7, e8, e9, e10, fun hH R hR => ?_⟩
   have hR' := e11 hH R hR
   have hH' : Heads a0 (y ++ ds) := by rw [← hy']; rw [e1] at hH; exact hH.left
   have hsz := hH'.1
   rw [List.length_append] at hsz
   have hfirst : ((h + 1) == basic) = false := beq_eq_false_iff_ne.2 (by omega)
   rw [hfirst, ← hins, hy', List.length_append] at hR'
   have hin := hdr y.length hsz (fun i hi => hH'.right i hi) at0 1 (by omega) h3 (by omega) (by omega) (by omega)
   rw [Int.mul_one] at hin
   refine decOut_step a0 y.length (y.length + ds.length) (by omega) (putS c pre (c :: r)) (by omega) n0 at0 b d c (putP c pre) b' (h == basic) hin ?_ h5 (by omega) h3 (by omega) h1 h2 hn hP0 hPle (by rw [← hh]; exact hinv) hR'
   rw [← hh]
   exact Ev.of (fun k => impl_bias_adapt.mono _ _ _ _ k) hb
  rw [if_neg c2] at he
  have := in_back a0 l hl k0 basic n hn r (pre ++ [c]) y d h b z he hpre' n0 at0 (by rw [putS_snoc_gt n c pre r (by omega)]; exact hh) hba h1 h2 h3 h4 h5 (by rw [putP_snoc_gt n c pre (by omega)]; exact hinv)
  rw [putS_snoc_gt n c pre r (by omega)] at this
  exact this
end Go.Proofs.YtbppeepihlajoaaDoor.P
namespace Go.Proofs.YtbppeepihlajoaaDoor.P
open Go.RowKit Go.Proofs.YtbppeepihlajoaaDoorW.PrintWords Go.Proofs.YtbppeepihlajoaaDoorW.PrintMore
set_option linter.unusedVariables false
theorem putS_start (n M : Int) (l : List Int) (h1 : n ≤ M) (h : ∀ p ∈ l, n ≤ p → M ≤ p) : putS n [] l = putS M [] l := by
 unfold putS
 rw [List.filter_nil, List.filter_nil, List.nil_append, List.nil_append]
 refine List.filter_congr fun p hp => ?_
 by_cases c : p < n
 ·rw [decide_eq_true c, decide_eq_true (by omega)]
 have := h p hp (by omega)
 rw [decide_eq_false c, decide_eq_false (by omega)]
theorem putS_end (M : Int) (l : List Int) : putS M l [] = putS (M + 1) [] l := by
 unfold putS
 rw [List.filter_nil, List.filter_nil, List.nil_append, List.append_nil]
 refine List.filter_congr fun p hp => ?_
 by_cases c : p ≤ M
 ·rw [decide_eq_true c, decide_eq_true (by omega)]
 rw [decide_eq_false c, decide_eq_false (by omega)]
theorem putS_all (n : Int) (l : List Int) (h : l.length ≤ (putS n [] l).length) : putS n [] l = l := by
 unfold putS at h ⊢
 rw [List.filter_nil, List.nil_append] at h ⊢
 exact (List.filter_sublist).eq_of_length (Nat.le_antisymm (List.length_filter_le _ _) h)
theorem out_back (a0 : ByteArray) (l : List Int) (hl : l.length ≤ 1000) (hp : ∀ p ∈ l, isPt p = true) (basic : Int) : ∀ (f : Nat) (y : List Int) (h n d b : Int) (Y : List Int), encOut basic l f y h n d b = some Y →
  ∀ n0 at0 : Int, h = ((putS n [] l).length : Int) → basic ≤ h → 0 ≤ n0 → n0 ≤ n → n ≤ 1114112 → 0 ≤ at0 → at0 ≤ h → 0 ≤ d → at0 + d = (h + 1) * (n - n0) →
  ∃ ext : List Int, Y = y ++ ext ∧ Plain ext ∧ (a0.size = Y.length → Heads a0 Y → ∀ R, Ev (fun k => (impl_write.f k l).bind fun t => (zar.f k t).bind fun e => some (t, e.toList == a0.toList)) R →
   Ev (fun k => decOut a0 k (a0.extract y.length a0.size) (putS n [] l) n0 at0 b (h == basic)) R)
 | 0, _, _, _, _, _, _, he => by simp [encOut] at he
 | f + 1, y, h, n, d, b, Y, he => by
  intro n0 at0 hh hba h1 h2 h2' h3 h4 h5 hinv
  unfold encOut at he
  have hSl := putS_len n [] l
  rw [List.length_nil, Nat.zero_add] at hSl
  by_cases c1 : h < (l.length : Int)
  ·rw [if_pos c1] at he
   have hcount : l.countP (fun p => decide (p < n)) < l.length := by
    rw [List.countP_eq_length_filter]
    unfold putS at hh
    rw [List.filter_nil, List.nil_append] at hh
    omega
   obtain ⟨p, hpl, hpn⟩ := exists_ge n l hcount
   have hpp := isPt_iff.1 (hp p hpl)
   obtain ⟨e, m1, m2, m3⟩ := encMin_eq n l ⟨p, hpl, hpn, hpp.2.1⟩
   have m4 := (encMin_fact n l 1114111).2.2
   rw [e] at he
   generalize encMin n l 1114111 = M at he m1 m2 m3 m4
   have hM := hp M m1
   have k1 : (M - n) * (h + 1) ≤ 1114111 * 1001 := Int.mul_le_mul (by omega) (by omega) (by omega) (by omega)
   have k0 : 0 ≤ (M - n) * (h + 1) := Int.mul_nonneg (by omega) (by omega)
   have k2 : (h + 1) * (n - n0) ≤ 1001 * 1114112 := Int.mul_le_mul (by omega) (by omega) (by omega) (by omega)
   rw [w64 (x := M - n) (by omega) (by omega), w64 (x := h + 1) (by omega) (by omega), w64 (x := (M - n) * (h + 1)) (by omega) (by omega), w64 (x := d + (M - n) * (h + 1)) (by omega) (by omega), w64 (x := M + 1) (by omega) (by omega)] at he
   obtain ⟨z, hz, he⟩ := Option.bind_eq_some_iff.mp he
   have hst := putS_start n M l m2 m4
   obtain ⟨ext, e1, e2, e3, e4, n1, at1, e5, e6, e7, e8, e9, e10, e11⟩ := in_back a0 l hl f basic M hM l [] y _ h b z hz rfl n0 at0 (by rw [← hst]; exact hh) hba h1 (by omega) h3 h4 (by omega) (by
    have : putP M [] = 0 := rfl
    have hx : (h + 1) * (M - n0) = (h + 1) * (n - n0) + (M - n) * (h + 1) := by rw [show M - n0 = (n - n0) + (M - n) by omega, Int.mul_comm (M - n) (h + 1)]; exact Int.mul_add _ _ _
    rw [this, Int.zero_add, hx, ← hinv]
    omega)
   have hz2 := putS_len M l []
   rw [List.length_nil, Nat.add_zero] at hz2
   have k3 : (z.2.2.1 + 1) * (M - n1) ≤ 1001 * 1114111 := Int.mul_le_mul (by omega) (by omega) (by omega) (by omega)
   rw [w64 (x := z.2.1 + 1) (by omega) (by omega)] at he
   obtain ⟨ext2, g1, g2, g3⟩ := out_back a0 l hl hp basic f z.1 z.2.2.1 (M + 1) (z.2.1 + 1) z.2.2.2 Y he n1 at1 (by rw [← putS_end]; exact e3) e4 e5 (by omega) (by omega) e7 e8 (by omega) (by
    rw [show M + 1 - n1 = (M - n1) + 1 by omega, Int.mul_add, Int.mul_one]
    omega)
   refine ⟨ext ++ ext2, by rw [g1, e1, List.append_assoc], Plain.app e2 g2, fun hs hY R hR => ?_⟩
   have := g3 hs hY R hR
   rw [← putS_end] at this
   rw [hst]
   exact e11 (by rw [g1] at hY; exact hY.left) R this
  rw [if_neg c1] at he
  obtain rfl := Option.some.inj he
  refine ⟨[], by simp, by simp [Plain], fun hs hY R hR => ?_⟩
  rw [putS_all n l (by omega)]
  exact Ev.step (fun k => by rw [decOut]) (Ev.pos (by omega) (Ev.pos (by rw [cutB_size]; omega) hR))
end Go.Proofs.YtbppeepihlajoaaDoor.P
namespace Go.Proofs.YtbppeepihlajoaaDoor.P
open Go.RowKit Go.Proofs.YtbppeepihlajoaaDoorW.PrintWords Go.Proofs.YtbppeepihlajoaaDoorW.PrintMore
set_option linter.unusedVariables false
set_option linter.unusedSimpArgs false
theorem bt_str (Y : List Int) (hY : ∀ x ∈ Y, 0 ≤ x ∧ x < 256) (i : Nat) (h : i < Y.length) : bt (strOfNums Y) (i : Int) = Y[i] := by
 have hb := hY _ (List.getElem_mem h)
 unfold bt
 rw [dif_pos (by rw [size_strOfNums]; simpa using h)]
 show ((((Y.map fun n => UInt8.ofNat n.toNat).toArray)[i]'(by simpa using h)).toNat : Int) = _
 simp only [List.getElem_toArray, List.getElem_map, UInt8.toNat_ofNat']
 omega
theorem heads_str (Y : List Int) (hY : ∀ x ∈ Y, 0 ≤ x ∧ x < 256) : Heads (strOfNums Y) Y := ⟨by rw [size_strOfNums]; omega, fun i h => bt_str Y hY i h⟩
theorem encLow_eq : ∀ (l y : List Int), (∀ p ∈ l, 0 ≤ p) → encLow l y = y ++ putS 128 [] l
 | [], y, _ => by simp [encLow, putS]
 | p :: r, y, h => by
  have hp := h p (by simp)
  have ih := encLow_eq r
  unfold encLow
  rw [ih _ (fun q hq => h q (List.mem_cons_of_mem _ hq))]
  unfold putS
  rw [List.filter_nil, List.nil_append, List.nil_append, List.filter_cons]
  by_cases c : p < 128
  ·rw [if_pos c, if_pos (decide_eq_true c), show p % 256 = p by omega, List.append_assoc]; rfl
  rw [if_neg c, if_neg (by simpa using c)]
theorem cutR_all (s : ByteArray) : s.extract 0 s.size = s := by
 apply ByteArray.ext
 simp [ByteArray.data_extract]
theorem numsOf_cut (Y Z : List Int) (hY : ∀ x ∈ Y ++ Z, 0 ≤ x ∧ x < 256) : numsOf ((strOfNums (Y ++ Z)).extract 0 Y.length) = Y := by
 have hsz := size_strOfNums (Y ++ Z)
 rw [List.length_append] at hsz
 refine List.ext_getElem (by rw [numsOf_len]; simp [ByteArray.size_extract]; omega) fun i h1 h2 => ?_
 have hb := hY _ (List.mem_append_left Z (List.getElem_mem h2))
 unfold numsOf
 simp only [List.getElem_map, ByteArray.data_extract]
 unfold strOfNums
 simp only [Array.getElem_toList, Array.getElem_extract, Nat.zero_add, List.getElem_toArray, List.getElem_map, List.getElem_append_left h2, UInt8.toNat_ofNat']
 omega
theorem lab_back (l : List Int) (hl : l.length ≤ 1000) (hp : ∀ p ∈ l, isPt p = true) (K : Nat) (r : ByteArray) (hr : zaX.f K l = some r) (hsz : r.size ≤ 1000000) :
  (∀ i : Nat, i < r.size → bt r (i : Int) < 128) ∧ (Ev (fun k => zar.f k (txt l)) r → Ev (fun k => impl_decodeLabel.f k r) (txt l, true)) := by
 have hp0 : ∀ p ∈ l, 0 ≤ p := fun p h => (isPt_iff.1 (hp p h)).1
 unfold zaX.f at hr
 rw [if_pos (by omega), encLow_eq l [] hp0, List.nil_append] at hr
 obtain ⟨Y, hY, hr⟩ := Option.bind_eq_some_iff.mp hr
 obtain rfl := Option.some.inj hr
 have hlow : ∀ x ∈ putS 128 [] l, 0 ≤ x ∧ x < 128 := by
  intro x hx
  unfold putS at hx
  rw [List.filter_nil, List.nil_append, List.mem_filter] at hx
  exact ⟨hp0 x hx.1, of_decide_eq_true hx.2⟩
 obtain ⟨ext, e1, e2, e3⟩ := out_back (strOfNums Y) l hl hp _ K _ _ _ _ _ Y hY 128 0 rfl (Int.le_refl _) (by omega) (Int.le_refl _) (by omega) (Int.le_refl _) (by omega) (Int.le_refl _) (by rw [Int.sub_self, Int.mul_zero]; rfl)
 have hlo : ∀ x ∈ Y, 0 ≤ x ∧ x < 128 := by
  intro x hx
  rw [e1] at hx
  rcases List.mem_append.1 hx with hx | hx
  ·by_cases h0 : 0 < (putS 128 [] l).length
   ·rw [if_pos h0] at hx
    rcases List.mem_append.1 hx with hx | hx
    ·exact hlow x hx
    rw [List.mem_singleton] at hx; omega
   rw [if_neg h0] at hx
   exact hlow x hx
  exact ⟨(e2 x hx).1, (e2 x hx).2.1⟩
 have hby : ∀ x ∈ Y, 0 ≤ x ∧ x < 256 := fun x h => ⟨(hlo x h).1, by have := (hlo x h).2; omega⟩
 have hH := heads_str Y hby
 have hszY := size_strOfNums Y
 refine ⟨fun i hi => ?_, fun hE => ?_⟩
 ·rw [hH.2 i (by omega)]
  exact (hlo _ (List.getElem_mem _)).2
 have hfin : Ev (fun k => (impl_write.f k l).bind fun t => (zar.f k t).bind fun e => some (t, e.toList == (strOfNums Y).toList)) (txt l, true) :=
  Ev.bind (Ev.done (show impl_write.f 0 l = some (txt l) from if_pos (by omega))) (Ev.bind hE ((Ev.now _).to (by simp)))
 have hdec := e3 hszY hH _ hfin
 rw [beq_self_eq_true] at hdec
 have hhead : decHead (strOfNums Y) = (putS 128 [] l, (strOfNums Y).extract (if 0 < (putS 128 [] l).length then putS 128 [] l ++ [45] else putS 128 [] l).length (strOfNums Y).size) := by
  have hsp := Lib.lastIndexByte_spec (strOfNums Y) 45
  have eb : ∀ j : Nat, (((strOfNums Y).data[j]!).toNat : Int) = bt (strOfNums Y) (j : Int) := fun j => (bt_get (strOfNums Y) j).symm
  unfold decHead
  by_cases h0 : 0 < (putS 128 [] l).length
  ·rw [if_pos h0] at e1 ⊢
   have hidx : Lib.lastIndexByte (strOfNums Y) 45 = ((putS 128 [] l).length : Int) := by
    have at45 : bt (strOfNums Y) ((putS 128 [] l).length : Int) = 45 := by
     rw [hH.2 (putS 128 [] l).length (by rw [e1]; simp)]
     simp [e1]
    have beh : ∀ j : Nat, (putS 128 [] l).length < j → j < (strOfNums Y).size → bt (strOfNums Y) (j : Int) ≠ 45 := by
     intro j h1 h2
     rw [hH.2 j (by omega)]
     have hj : j < ((putS 128 [] l ++ [45]) ++ ext).length := by rw [← e1]; omega
     have : Y[j]'(by omega) = ext[j - ((putS 128 [] l).length + 1)]'(by rw [List.length_append, List.length_append, List.length_singleton] at hj; omega) := by
      simp only [e1]
      rw [List.getElem_append_right (by rw [List.length_append, List.length_singleton]; omega)]
      simp
     rw [this]
     exact (e2 _ (List.getElem_mem _)).2.2
    have hlt : (putS 128 [] l).length < (strOfNums Y).size := by rw [hszY, e1]; simp
    rcases hsp with ⟨h1, h2⟩ | ⟨i, h1, h2, h3, h4⟩
    ·exact absurd (by rw [eb]; exact at45) (h2 _ hlt)
    rw [h2]
    rcases Nat.lt_trichotomy i (putS 128 [] l).length with h5 | h5 | h5
    ·exact absurd (by rw [eb]; exact at45) (h4 _ h5 hlt)
    ·rw [h5]
    exact absurd (by rw [← eb]; exact h3) (beh i h5 h1)
   rw [hidx, if_neg (by omega), Int.toNat_natCast, List.length_append, List.length_singleton]
   rw [e1, List.append_assoc] at hby ⊢
   rw [numsOf_cut _ _ hby]
  rw [if_neg h0] at e1 ⊢
  have hn : putS 128 [] l = [] := List.eq_nil_of_length_eq_zero (by omega)
  rw [hn, List.nil_append] at e1
  rw [hn, List.length_nil, cutR_all]
  rcases hsp with ⟨h1, h2⟩ | ⟨i, h1, h2, h3, h4⟩
  ·rw [h1, if_pos (by decide)]
  rw [eb, hH.2 i (by omega)] at h3
  simp only [e1] at h3
  exact absurd h3 (e2 _ (List.getElem_mem _)).2.2
 unfold impl_decodeLabel.f
 rw [hhead]
 exact Ev.pos (by omega) hdec
end Go.Proofs.YtbppeepihlajoaaDoor.P
