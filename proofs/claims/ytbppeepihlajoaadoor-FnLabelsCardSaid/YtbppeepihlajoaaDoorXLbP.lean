/- EncodeLabel: the program's answer is the reference's, at every text. -/
import Derived.Test.YtbppeepihlajoaaDoorB15
import Derived.Test.YtbppeepihlajoaaDoorB14
import Derived.Test.YtbppeepihlajoaaDoorXEnc
import Derived.Test.YtbppeepihlajoaaDoorXTx
namespace Go.Proofs.YtbppeepihlajoaaDoor.P
open Go.RowKit Go.Proofs.YtbppeepihlajoaaDoorW.PrintWords Go.Proofs.YtbppeepihlajoaaDoorW.PrintMore
set_option linter.unusedVariables false
theorem clamp_bd (b kk : Int) : 1 ≤ mn (mx (wrap64 (kk - b)) 1) 26 ∧ mn (mx (wrap64 (kk - b)) 1) 26 ≤ 26 := by
 generalize wrap64 (kk - b) = x
 unfold mn mx
 constructor <;> (repeat' split) <;> omega
theorem least_f (b kk : Int) (hb0 : 0 ≤ b) (hb : b ≤ 1000000000000) (hk0 : 0 ≤ kk) (hk : kk ≤ 1152921504606846976) : spec_l19Least.f kk b = some (mn (mx (wrap64 (kk - b)) 1) 26) := by
 unfold spec_l19Least.f
 rw [w64 (x := kk - b) (by omega) (by omega), w64 (x := b + 26) (by omega) (by omega)]
 unfold mn mx
 by_cases h1 : kk ≤ b
 ·rw [if_pos h1]
  have e : (if kk - b < 1 then (1 : Int) else kk - b) = 1 := if_pos (by omega)
  rw [e, if_neg (by omega)]
 rw [if_neg h1]
 have e : (if kk - b < 1 then (1 : Int) else kk - b) = kk - b := if_neg (by omega)
 rw [e]
 by_cases h2 : kk ≥ b + 26
 ·rw [if_pos h2]
  by_cases h3 : 26 < kk - b
  ·rw [if_pos h3]
  rw [if_neg h3]; congr 1; omega
 rw [if_neg h2, if_neg (by omega)]
theorem digit_f (x : Int) (h0 : 0 ≤ x) (h1 : x < 36) : spec_l19Digit.f x = some (bt (⟨#[97, 98, 99, 100, 101, 102, 103, 104, 105, 106, 107, 108, 109, 110, 111, 112, 113, 114, 115, 116, 117, 118, 119, 120, 121, 122, 48, 49, 50, 51, 52, 53, 54, 55, 56, 57]⟩ : ByteArray) x) := by
 unfold spec_l19Digit.f
 rw [if_pos h0, if_pos h1]
theorem dig_ev (b : Int) (hb0 : 0 ≤ b) (hb : b ≤ 1000000000000) : ∀ (n : Nat) (q kk : Int), 0 ≤ q → q ≤ n → 0 ≤ kk → kk + 36 * q ≤ 1152921504606846976 →
  ∃ ds : List Int, ds.length ≤ n + 1 ∧ ∀ y : List Int, y.length + n ≤ 100000000000000 → Ev (fun k => encDig b k y q kk) (y ++ ds) ∧ Ev (fun k => zaR.l0 k b y q kk) (y ++ ds) := by
 intro n
 induction n with
 | zero =>
  intro q kk hq hqn hk hkk
  obtain rfl : q = 0 := by omega
  obtain ⟨t1, t2⟩ := clamp_bd b kk
  refine ⟨[bt (⟨#[97, 98, 99, 100, 101, 102, 103, 104, 105, 106, 107, 108, 109, 110, 111, 112, 113, 114, 115, 116, 117, 118, 119, 120, 121, 122, 48, 49, 50, 51, 52, 53, 54, 55, 56, 57]⟩ : ByteArray) 0], by simp, fun y hy => ⟨?_, ?_⟩⟩
  ·exact Ev.step (fun k => by rw [encDig]) (Ev.pos (by omega) (Ev.pos (by omega) (Ev.pos (by omega) (Ev.now _))))
  refine Ev.step (fun k => by rw [zaR.l0]) (Ev.bind (Ev.done (least_f b kk hb0 hb hk (by omega))) ?_)
  refine Ev.pos (by omega) ?_
  refine Ev.bind (Ev.done (digit_f 0 (by omega) (by omega))) ?_
  exact Ev.pos (by omega) (Ev.now _)
 | succ n ih =>
  intro q kk hq hqn hk hkk
  obtain ⟨t1, t2⟩ := clamp_bd b kk
  have hl := least_f b kk hb0 hb hk (by omega)
  generalize ht : mn (mx (wrap64 (kk - b)) 1) 26 = t at *
  by_cases hqt : q < t
  ·refine ⟨[bt (⟨#[97, 98, 99, 100, 101, 102, 103, 104, 105, 106, 107, 108, 109, 110, 111, 112, 113, 114, 115, 116, 117, 118, 119, 120, 121, 122, 48, 49, 50, 51, 52, 53, 54, 55, 56, 57]⟩ : ByteArray) q], by simp, fun y hy => ⟨?_, ?_⟩⟩
   ·exact Ev.step (fun k => by rw [encDig, ht]) (Ev.pos (by omega) (Ev.pos hqt (Ev.pos (by omega) (Ev.now _))))
   refine Ev.step (fun k => by rw [zaR.l0]) (Ev.bind (Ev.done hl) ?_)
   refine Ev.pos hqt ?_
   refine Ev.bind (Ev.done (digit_f q (by omega) (by omega))) ?_
   exact Ev.pos (by omega) (Ev.now _)
  have e1 : wrap64 (q - t) = q - t := w64 (by omega) (by omega)
  have e2 : wrap64 (36 - t) = 36 - t := w64 (by omega) (by omega)
  have e3 : Int.tmod (q - t) (36 - t) = (q - t) % (36 - t) := Int.tmod_eq_emod_of_nonneg (by omega)
  have e4 : Int.tdiv (q - t) (36 - t) = (q - t) / (36 - t) := Int.tdiv_eq_ediv_of_nonneg (by omega)
  have m0 : 0 ≤ (q - t) % (36 - t) := Int.emod_nonneg _ (by omega)
  have m1 : (q - t) % (36 - t) < 36 - t := Int.emod_lt_of_pos _ (by omega)
  have d0 : 0 ≤ (q - t) / (36 - t) := Int.ediv_nonneg (by omega) (by omega)
  have d1 : (q - t) / (36 - t) ≤ q - t := Int.ediv_le_self _ (by omega)
  have e5 : wrap64 (t + (q - t) % (36 - t)) = t + (q - t) % (36 - t) := w64 (by omega) (by omega)
  have e6 : wrap64 ((q - t) / (36 - t)) = (q - t) / (36 - t) := w64 (by omega) (by omega)
  have e7 : wrap64 (kk + 36) = kk + 36 := w64 (by omega) (by omega)
  obtain ⟨ds, hds, hev⟩ := ih ((q - t) / (36 - t)) (kk + 36) d0 (by omega) (by omega) (by omega)
  refine ⟨bt (⟨#[97, 98, 99, 100, 101, 102, 103, 104, 105, 106, 107, 108, 109, 110, 111, 112, 113, 114, 115, 116, 117, 118, 119, 120, 121, 122, 48, 49, 50, 51, 52, 53, 54, 55, 56, 57]⟩ : ByteArray) (t + (q - t) % (36 - t)) :: ds, by simp; omega, fun y hy => ?_⟩
  obtain ⟨v1, v2⟩ := hev (y ++ [bt (⟨#[97, 98, 99, 100, 101, 102, 103, 104, 105, 106, 107, 108, 109, 110, 111, 112, 113, 114, 115, 116, 117, 118, 119, 120, 121, 122, 48, 49, 50, 51, 52, 53, 54, 55, 56, 57]⟩ : ByteArray) (t + (q - t) % (36 - t))]) (by simp; omega)
  rw [List.append_assoc] at v1 v2
  refine ⟨?_, ?_⟩
  ·refine Ev.step (fun k => by rw [encDig, ht, e1, e2, e3, e4, e5, e6, e7]) (Ev.pos (by omega) (Ev.neg hqt (Ev.neg (by omega) (Ev.pos (by omega) v1))))
  refine Ev.step (fun k => by rw [zaR.l0]) (Ev.bind (Ev.done hl) ?_)
  rw [e1, e2, e3, e4, e5, e6, e7]
  refine Ev.neg hqt (Ev.neg (by omega) ?_)
  refine Ev.bind (Ev.done (digit_f _ (by omega) (by omega))) ?_
  exact Ev.pos (by omega) v2
theorem bias_small (x kk : Int) (h0 : 0 ≤ x) (hx : ¬ x > 455) (h2 : 0 ≤ kk) (h3 : kk + 36 * x ≤ 500000000000) : ∃ r, 0 ≤ r ∧ r ≤ 1000000000000 ∧ Ev (fun k => zas.l0 k x kk) r := by
 have e4 : Int.tdiv (36 * x) (x + 38) = 36 * x / (x + 38) := Int.tdiv_eq_ediv_of_nonneg (by omega)
 have d0 : 0 ≤ 36 * x / (x + 38) := Int.ediv_nonneg (by omega) (by omega)
 have d1 : 36 * x / (x + 38) ≤ 36 * x := Int.ediv_le_self _ (by omega)
 exact ⟨kk + 36 * x / (x + 38), by omega, by omega, Ev.step (fun k => by rw [zas.l0, w64 (x := 36 * x) (by omega) (by omega), w64 (x := x + 38) (by omega) (by omega), e4, w64 (x := 36 * x / (x + 38)) (by omega) (by omega), w64 (x := kk + 36 * x / (x + 38)) (by omega) (by omega)]) (Ev.neg hx (Ev.neg (by omega) (Ev.now _)))⟩
theorem bias_l : ∀ (n : Nat) (x kk : Int), 0 ≤ x → x ≤ n → 0 ≤ kk → kk + 36 * x ≤ 500000000000 → ∃ r, 0 ≤ r ∧ r ≤ 1000000000000 ∧ Ev (fun k => zas.l0 k x kk) r := by
 intro n
 induction n with
 | zero => exact fun x kk h0 h1 h2 h3 => bias_small x kk h0 (by omega) h2 h3
 | succ n ih =>
  intro x kk h0 h1 h2 h3
  by_cases hx : x > 455
  ·have e4 : Int.tdiv x 35 = x / 35 := Int.tdiv_eq_ediv_of_nonneg (by omega)
   obtain ⟨r, r0, r1, hr⟩ := ih (x / 35) (kk + 36) (by omega) (by omega) (by omega) (by omega)
   refine ⟨r, r0, r1, Ev.step (fun k => by rw [zas.l0, e4, w64 (x := x / 35) (by omega) (by omega), w64 (x := kk + 36) (by omega) (by omega)]) (Ev.pos hx hr)⟩
  exact bias_small x kk h0 hx h2 h3
theorem bias_ev (d c : Int) (f : Bool) (d0 : 0 ≤ d) (d1 : d ≤ 2000000000) (c0 : 1 ≤ c) : ∃ r, 0 ≤ r ∧ r ≤ 1000000000000 ∧ Ev (fun k => zas.f k d c f) r := by
 have key : ∀ x : Int, 0 ≤ x → x ≤ 2000000000 → ∃ r, 0 ≤ r ∧ r ≤ 1000000000000 ∧ Ev (fun k => zas.j0 k x c) r := by
  intro x x0 x1
  have e : Int.tdiv x c = x / c := Int.tdiv_eq_ediv_of_nonneg x0
  have q0 : 0 ≤ x / c := Int.ediv_nonneg x0 (by omega)
  have q1 : x / c ≤ x := Int.ediv_le_self _ x0
  obtain ⟨r, r0, r1, hr⟩ := bias_l (x + x / c).toNat (x + x / c) 0 (by omega) (by omega) (by omega) (by omega)
  refine ⟨r, r0, r1, Ev.step (fun k => by rw [zas.j0, e, w64 (x := x / c) (by omega) (by omega), w64 (x := x + x / c) (by omega) (by omega)]) (Ev.neg (by omega) hr)⟩
 cases f with
 | true =>
  have e : Int.tdiv d 700 = d / 700 := Int.tdiv_eq_ediv_of_nonneg d0
  obtain ⟨r, r0, r1, hr⟩ := key (d / 700) (by omega) (by omega)
  exact ⟨r, r0, r1, Ev.congr (fun k => by unfold zas.f; rw [if_pos rfl, e, w64 (x := d / 700) (by omega) (by omega)]) hr⟩
 | false =>
  have e : Int.tdiv d 2 = d / 2 := Int.tdiv_eq_ediv_of_nonneg d0
  obtain ⟨r, r0, r1, hr⟩ := key (d / 2) (by omega) (by omega)
  exact ⟨r, r0, r1, Ev.congr (fun k => by unfold zas.f; rw [if_neg (by simp), e, w64 (x := d / 2) (by omega) (by omega)]) hr⟩
theorem encMin_fact (n : Int) : ∀ (l : List Int) (m : Int), (encMin n l m = m ∨ (encMin n l m ∈ l ∧ n ≤ encMin n l m)) ∧ encMin n l m ≤ m ∧ ∀ p ∈ l, n ≤ p → encMin n l m ≤ p
 | [], m => ⟨.inl rfl, Int.le_refl _, by simp⟩
 | p :: r, m => by
  unfold encMin
  obtain ⟨h1, h2, h3⟩ := encMin_fact n r (if n ≤ p then mn m p else m)
  by_cases hp : n ≤ p
  ·rw [if_pos hp] at h1 h2 h3 ⊢
   have hm : (mn m p = m ∧ m ≤ p) ∨ (mn m p = p ∧ p < m) := by
    unfold mn
    by_cases h : p < m
    ·rw [if_pos h]; exact .inr ⟨rfl, h⟩
    rw [if_neg h]; exact .inl ⟨rfl, by omega⟩
   refine ⟨?_, by omega, fun p' hp' hn => ?_⟩
   ·rcases h1 with h1 | ⟨h1, h1'⟩
    ·rcases hm with ⟨e, _⟩ | ⟨e, _⟩
     ·exact .inl (by omega)
     exact .inr ⟨by rw [h1, e]; simp, by omega⟩
    exact .inr ⟨List.mem_cons_of_mem _ h1, h1'⟩
   rcases List.mem_cons.1 hp' with rfl | hp'
   ·omega
   exact h3 p' hp' hn
  rw [if_neg hp] at h1 h2 h3 ⊢
  refine ⟨?_, h2, fun p' hp' hn => ?_⟩
  ·rcases h1 with h1 | ⟨h1, h1'⟩
   ·exact .inl h1
   exact .inr ⟨List.mem_cons_of_mem _ h1, h1'⟩
  rcases List.mem_cons.1 hp' with rfl | hp'
  ·omega
  exact h3 p' hp' hn
theorem encMin_eq (n : Int) (l : List Int) (h : ∃ p ∈ l, n ≤ p ∧ p ≤ 1114111) : encMin n l 1114112 = encMin n l 1114111 ∧ encMin n l 1114111 ∈ l ∧ n ≤ encMin n l 1114111 ∧ encMin n l 1114111 ≤ 1114111 := by
 obtain ⟨p, hp, h1, h2⟩ := h
 obtain ⟨a1, a2, a3⟩ := encMin_fact n l 1114112
 obtain ⟨b1, b2, b3⟩ := encMin_fact n l 1114111
 have a4 := a3 p hp h1
 have b4 := b3 p hp h1
 rcases a1 with a1 | ⟨a1, a1'⟩
 ·omega
 have b5 := b3 _ a1 a1'
 have e : encMin n l 1114112 = encMin n l 1114111 := by
  rcases b1 with b1 | ⟨b1, b1'⟩
  ·omega
  have := a3 _ b1 b1'; omega
 rw [e] at a1 a1'
 exact ⟨e, a1, a1', by omega⟩
end Go.Proofs.YtbppeepihlajoaaDoor.P
