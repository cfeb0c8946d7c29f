/- Labels come back, 1: the digits of a number are read as the number. -/
import Derived.Test.YtbppeepihlajoaaDoorXDec
import Derived.Test.YtbppeepihlajoaaDoorXEv
namespace Go.Proofs.YtbppeepihlajoaaDoor.P
open Go.RowKit Go.Proofs.YtbppeepihlajoaaDoorW.PrintWords Go.Proofs.YtbppeepihlajoaaDoorW.PrintMore
set_option linter.unusedVariables false
def valB (c : Int) : Int := Lib.indexByte (⟨(97 :: 98 :: 99 :: 100 :: 101 :: 102 :: 103 :: 104 :: 105 :: 106 :: 107 :: 108 :: 109 :: 110 :: 111 :: 112 :: 113 :: 114 :: 115 :: 116 :: 117 :: 118 :: 119 :: 120 :: 121 :: 122 :: 48 :: 49 :: 50 :: 51 :: 52 :: 53 :: 54 :: 55 :: 56 :: 57 :: ([] : List UInt8)).toArray⟩ : ByteArray).data.toList c.toNat.toUInt8
def digB (x : Int) : Int := bt (⟨#[97, 98, 99, 100, 101, 102, 103, 104, 105, 106, 107, 108, 109, 110, 111, 112, 113, 114, 115, 116, 117, 118, 119, 120, 121, 122, 48, 49, 50, 51, 52, 53, 54, 55, 56, 57]⟩ : ByteArray) x
theorem digB_all : ∀ c : Fin 36, valB (digB (c.val : Int)) = (c.val : Int) ∧ 0 ≤ digB (c.val : Int) ∧ digB (c.val : Int) < 128 ∧ digB (c.val : Int) ≠ 45 := by decide +kernel
theorem digB_of (x : Int) (h0 : 0 ≤ x) (h1 : x < 36) : valB (digB x) = x ∧ 0 ≤ digB x ∧ digB x < 128 ∧ digB x ≠ 45 := by
 have h := digB_all ⟨x.toNat, by omega⟩
 have e : ((x.toNat : Nat) : Int) = x := by omega
 simp only [e] at h
 exact h
theorem cutB_size (s : ByteArray) (j : Nat) : (s.extract j s.size).size = s.size - j := by simp [ByteArray.size_extract]
theorem cutB_bt (s : ByteArray) (j : Nat) (h : j < s.size) : bt (s.extract j s.size) 0 = bt s (j : Int) := by
 unfold bt
 rw [dif_pos (by rw [cutB_size]; show (0 : Nat) < s.size - j; omega), dif_pos (by simpa using h)]
 simp [ByteArray.getElem_extract]
theorem cutB_cut (s : ByteArray) (j : Nat) : (s.extract j s.size).extract 1 (s.extract j s.size).size = s.extract (j + 1) s.size := by
 rw [cutB_size]
 cases s with
 | mk d =>
  apply ByteArray.ext
  show ((ByteArray.mk d).extract j d.size |>.extract 1 (d.size - j)).data = ((ByteArray.mk d).extract (j + 1) d.size).data
  simp only [ByteArray.data_extract, Array.extract_extract]
  congr 1
  omega
theorem clampB (x : Int) : 1 ≤ mn (mx x 1) 26 ∧ mn (mx x 1) 26 ≤ 26 := by
 unfold mn mx
 split <;> split <;> omega
theorem decIn_step (b : Int) (a0 : ByteArray) (j : Nat) (hj : j < a0.size) (p w kk v t : Int) (hv : bt a0 (j : Int) = digB v) (v0 : 0 ≤ v) (v1 : v < 36) (ht : mn (mx (wrap64 (kk - b)) 1) 26 = t)
  (w1 : 1 ≤ w) (w2 : w ≤ 70000000000) (w3 : ¬ v < t → w ≤ 2000000000) (p0 : 0 ≤ p) (hp : p + v * w ≤ 1099511627776) (hvw : v * w ≤ 1099511627776) {R : Option (ByteArray × Int)}
  (hfin : v < t → R = some (a0.extract (j + 1) a0.size, p + v * w))
  (hgo : ¬ v < t → Ev (fun k => decIn b k (a0.extract (j + 1) a0.size) (p + v * w) (w * (36 - t)) (wrap64 (kk + 36))) R) : Ev (fun k => decIn b k (a0.extract j a0.size) p w kk) R := by
 have hd := digB_of v v0 v1
 have htb := clampB (wrap64 (kk - b))
 rw [ht] at htb
 have e0 : bt (a0.extract j a0.size) 0 = digB v := by rw [cutB_bt a0 j hj, hv]
 have e1 : Lib.indexByte (⟨(97 :: 98 :: 99 :: 100 :: 101 :: 102 :: 103 :: 104 :: 105 :: 106 :: 107 :: 108 :: 109 :: 110 :: 111 :: 112 :: 113 :: 114 :: 115 :: 116 :: 117 :: 118 :: 119 :: 120 :: 121 :: 122 :: 48 :: 49 :: 50 :: 51 :: 52 :: 53 :: 54 :: 55 :: 56 :: 57 :: ([] : List UInt8)).toArray⟩ : ByteArray).data.toList (bt (a0.extract j a0.size) 0).toNat.toUInt8 = v := by rw [e0]; exact hd.1
 have vw0 : 0 ≤ v * w := Int.mul_nonneg v0 (by omega)
 have e2 : wrap64 (v * w) = v * w := w64 (by omega) (by omega)
 have e3 : wrap64 (p + v * w) = p + v * w := w64 (by omega) (by omega)
 have e4 : wrap64 (36 - t) = 36 - t := w64 (by omega) (by omega)
 have wt : w * (36 - t) ≤ w * 35 ∧ 0 ≤ w * (36 - t) := ⟨Int.mul_le_mul_of_nonneg_left (by omega) (by omega), Int.mul_nonneg (by omega) (by omega)⟩
 have e5 : wrap64 (w * (36 - t)) = w * (36 - t) := w64 (by omega) (by omega)
 refine Ev.step (fun k => by rw [decIn, e1, ht, e2, e3, e4, e5, cutB_cut]) (Ev.neg (by rw [cutB_size]; omega) (Ev.neg (by omega) (Ev.neg (by omega) ?_)))
 by_cases h : v < t
 ·exact Ev.pos h ((Ev.now _).to (hfin h).symm)
 have := w3 h
 exact Ev.neg h (Ev.neg (by omega) (hgo h))
theorem dig_back (b : Int) (a0 : ByteArray) : ∀ (f : Nat) (y : List Int) (q kk : Int) (z : List Int), encDig b f y q kk = some z → 0 ≤ q → q ≤ 2000000000 →
  ∃ ds : List Int, z = y ++ ds ∧ 0 < ds.length ∧ (∀ x ∈ ds, 0 ≤ x ∧ x < 128 ∧ x ≠ 45) ∧ ∀ (j : Nat), j + ds.length ≤ a0.size → (∀ i, (h : i < ds.length) → bt a0 ((j + i : Nat) : Int) = ds[i]) →
   ∀ p w : Int, 1 ≤ w → 0 ≤ p → w ≤ 70000000000 → q * w ≤ 2000000000 → p + q * w ≤ 4000000000 → Ev (fun k => decIn b k (a0.extract j a0.size) p w kk) (some (a0.extract (j + ds.length) a0.size, p + q * w))
 | 0, _, _, _, _, h, _, _ => by simp [encDig] at h
 | f + 1, y, q, kk, z, h, q0, q1 => by
  unfold encDig at h
  have htb := clampB (wrap64 (kk - b))
  obtain ⟨t, ht⟩ : ∃ t, mn (mx (wrap64 (kk - b)) 1) 26 = t := ⟨_, rfl⟩
  rw [ht] at h htb
  by_cases h1 : ¬ y.length < 140737488355328
  ·rw [if_neg h1] at h; exact absurd h (by simp)
  rw [if_pos (Decidable.not_not.1 h1)] at h
  by_cases h2 : q < t
  ·rw [if_pos h2] at h
   by_cases h3 : ¬ (0 ≤ q ∧ q < 36)
   ·rw [if_neg h3] at h; exact absurd h (by simp)
   replace h3 := Decidable.not_not.1 h3
   rw [if_pos h3] at h
   have hd := digB_of q h3.1 h3.2
   refine ⟨[digB q], (Option.some.inj h).symm, by simp, by simpa using hd.2, ?_⟩
   intro j hj hb p w w1 p0 w2 hq p1
   have hb0 := hb 0 (by simp)
   simp only [List.length_singleton] at hj
   exact decIn_step b a0 j (by omega) p w kk q t (by simpa using hb0) h3.1 h3.2 ht w1 w2 (fun hn => absurd h2 hn) p0 (by omega) (by omega) (fun _ => rfl) (fun hn => absurd h2 hn)
  rw [if_neg h2] at h
  have e4 : wrap64 (36 - t) = 36 - t := w64 (by omega) (by omega)
  have e6 : wrap64 (q - t) = q - t := w64 (by omega) (by omega)
  rw [e4, e6] at h
  rw [if_neg (by omega)] at h
  have e7 : Int.tmod (q - t) (36 - t) = (q - t) % (36 - t) := Int.tmod_eq_emod_of_nonneg (by omega)
  have e8 : Int.tdiv (q - t) (36 - t) = (q - t) / (36 - t) := Int.tdiv_eq_ediv_of_nonneg (by omega)
  rw [e7, e8] at h
  have m0 := Int.emod_nonneg (q - t) (b := 36 - t) (by omega)
  have m1 := Int.emod_lt_of_pos (q - t) (b := 36 - t) (by omega)
  have dm := Int.mul_ediv_add_emod (q - t) (36 - t)
  have d0 : 0 ≤ (q - t) / (36 - t) := Int.ediv_nonneg (by omega) (by omega)
  have d1 : (q - t) / (36 - t) ≤ q - t := Int.ediv_le_self _ (by omega)
  generalize (q - t) % (36 - t) = m at h m0 m1 dm
  generalize (q - t) / (36 - t) = q' at h dm d0 d1
  have e9 : wrap64 (t + m) = t + m := w64 (by omega) (by omega)
  have e10 : wrap64 q' = q' := w64 (by omega) (by omega)
  rw [e9, e10] at h
  by_cases h3 : ¬ (0 ≤ t + m ∧ t + m < 36)
  ·rw [if_neg h3] at h; exact absurd h (by simp)
  replace h3 := Decidable.not_not.1 h3
  rw [if_pos h3] at h
  obtain ⟨ds, hz, hl, hr, ih⟩ := dig_back b a0 f _ q' _ z h d0 (by omega)
  have hd := digB_of (t + m) h3.1 h3.2
  refine ⟨digB (t + m) :: ds, by rw [hz, List.append_assoc]; rfl, by simp, ?_, ?_⟩
  ·intro x hx
   rcases List.mem_cons.1 hx with rfl | hx
   ·exact hd.2
   exact hr x hx
  intro j hj hb p w w1 p0 w2 hq p1
  simp only [List.length_cons] at hj
  have hb0 := hb 0 (by simp)
  have eq1 : q * w = (t + m) * w + q' * (w * (36 - t)) := by
   have : q = (t + m) + q' * (36 - t) := by rw [Int.mul_comm q' (36 - t)]; omega
   rw [this, Int.add_mul, Int.mul_assoc, Int.mul_comm (36 - t) w]
  have n1 : 0 ≤ q' * (w * (36 - t)) := Int.mul_nonneg d0 (Int.mul_nonneg (by omega) (by omega))
  have n2 : 0 ≤ (t + m) * w := Int.mul_nonneg h3.1 (by omega)
  have n3 : w ≤ q * w := by
   have : 1 * w ≤ q * w := Int.mul_le_mul_of_nonneg_right (by omega) (by omega)
   omega
  have n4 := Int.mul_le_mul_of_nonneg_left (a := 36 - t) (b := 35) (c := w) (by omega) (by omega)
  have n5 : 0 < w * (36 - t) := Int.mul_pos (by omega) (by omega)
  refine decIn_step b a0 j (by omega) p w kk (t + m) t (by simpa using hb0) h3.1 h3.2 ht w1 w2 (fun _ => by omega) p0 (by omega) (by omega) (fun hn => absurd hn (by omega)) (fun _ => ?_)
  refine (ih (j + 1) (by omega) (fun i hi => ?_) (p + (t + m) * w) (w * (36 - t)) (by omega) (by omega) (by omega) (by omega) (by rw [Int.add_assoc, ← eq1]; exact p1)).to ?_
  ·have := hb (i + 1) (by simpa using hi)
   rw [show j + 1 + i = j + (i + 1) by omega, this]
   rfl
  rw [show j + 1 + ds.length = j + (ds.length + 1) by omega, Int.add_assoc, ← eq1]
  rfl
end Go.Proofs.YtbppeepihlajoaaDoor.P
