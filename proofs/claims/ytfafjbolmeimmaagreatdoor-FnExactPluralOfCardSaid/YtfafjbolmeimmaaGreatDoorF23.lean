/- Parts of a proof: words of the print tool that this claim uses, or plain lists. -/
import Derived.Test.YtfafjbolmeimmaaGreatDoorAb
import Derived.Test.YtfafjbolmeimmaaGreatDoorXPh
import Derived.Test.YtfafjbolmeimmaaGreatDoorF16
import Derived.Test.YtfafjbolmeimmaaGreatDoorF9
import Derived.Test.YtfafjbolmeimmaaGreatDoorF10
import Derived.Test.YtfafjbolmeimmaaGreatDoorF8
namespace Go.Proofs.YtfafjbolmeimmaaGreatDoor.P
open Go.RowKit Go.Proofs.YtfafjbolmeimmaaGreatDoorW.PrintWords
set_option linter.unusedVariables false
structure Nums (num p i f : Int) : Prop where
 hn : -9223372036854775808 ≤ num ∧ num ≤ 9223372036854775807
 hp : 0 ≤ p ∧ p ≤ 9
 hi : i = ((num.natAbs / 10 ^ p.toNat : Nat) : Int)
 hf : f = ((num.natAbs % 10 ^ p.toNat : Nat) : Int)
def zT : TI := (0, 0, false, 0, 0)
def tH (i f v : Int) (t : TI) : Bool := hB t.1 t.2.1 t.2.2.1 t.2.2.2.1 t.2.2.2.2 i f v
def rowsH (i f v : Int) (R : List (List TI)) : Bool := R.any fun r => r.all (tH i f v)
def otherT : ByteArray := ⟨#[111, 116, 104, 101, 114]⟩
def plW (p : S58) : List (List TI) := (whenI p.f1.data.toList).getD []
def plV (i f v : Int) : List S58 → ByteArray
 | [] => otherT
 | p :: l => if rowsH i f v (plW p) = true then p.f0 else plV i f v l
theorem plV_at {i f v : Int} {l : List S58} {k : Nat} (h : ∀ j, j < k → rowsH i f v (plW (za8 l (j : Int))) = false) (hk : k < l.length) (hh : rowsH i f v (plW (za8 l (k : Int))) = true) : plV i f v l = (za8 l (k : Int)).f0 := by
 induction l generalizing k with
 | nil => exact absurd hk (Nat.not_lt_zero _)
 | cons p l ih =>
  show (if rowsH i f v (plW p) = true then p.f0 else plV i f v l) = _
  cases k with
  | zero => rw [if_pos (show rowsH i f v (plW p) = true from hh)]; rfl
  | succ k =>
   have h0 : rowsH i f v (plW p) = false := h 0 (Nat.succ_pos _)
   rw [if_neg (by rw [h0]; simp)]
   exact ih (k := k) (fun j hj => h (j + 1) (Nat.succ_lt_succ hj)) (Nat.lt_of_succ_lt_succ hk) hh
theorem plV_end {i f v : Int} {l : List S58} (h : ∀ j, j < l.length → rowsH i f v (plW (za8 l (j : Int))) = false) : plV i f v l = otherT := by
 induction l with
 | nil => rfl
 | cons p l ih =>
  show (if rowsH i f v (plW p) = true then p.f0 else plV i f v l) = _
  have h0 : rowsH i f v (plW p) = false := h 0 (Nat.succ_pos _)
  rw [if_neg (by rw [h0]; simp)]
  exact ih (fun j hj => h (j + 1) (Nat.succ_lt_succ hj))
theorem pNum_le {l q : List UInt8} {v : Nat} (h : pNum l = some (v, q)) : v ≤ 1000000 := by
 cases l with
 | nil => cases h
 | cons c r =>
  rw [pNum_cons] at h
  split at h
  ·cases h
  split at h
  ·cases h; omega
  split at h
  ·cases h; assumption
  cases h
def tOk (t : TI) : Prop := hOk t.2.1 t.2.2.2.1 t.2.2.2.2
theorem tI_ok2 {l : List UInt8} {y : TI} (h : tI l = some y) : tOk y := by
 have h := tI_c h
 cases l with
 | nil => cases h
 | cons c r =>
  replace h : (if isOf c = true then (match cMod r with | none => none | some (m, q) => (cEq q).map fun p => (((c.toNat : Int), (m : Int), p.1.1, (p.1.2.1 : Int), (p.1.2.2 : Int)), p.2)) else none) = some (y, []) := h
  split at h
  case isFalse => cases h
  cases hm : cMod r with
  | none => rw [hm] at h; cases h
  | some p =>
   obtain ⟨m, q⟩ := p
   rw [hm] at h
   obtain ⟨⟨⟨n, lo, hi⟩, q1⟩, h1, h2⟩ := Option.map_eq_some_iff.1 h
   simp only [Prod.mk.injEq] at h2
   obtain ⟨rfl, _⟩ := h2
   have hm' : m ≤ 1000000 := by
    unfold cMod at hm
    split at hm
    ·split at hm
     ·cases hm
     rename_i hp
     split at hm
     ·cases hm
     cases hm; exact pNum_le hp
    cases hm; omega
   have hlh : lo ≤ 1000000 ∧ hi ≤ 1000000 := by
    unfold cEq at h1
    split at h1
    ·split at h1
     ·cases h1
     rename_i lo' q' hp
     obtain ⟨p', h3, h4⟩ := Option.map_eq_some_iff.1 h1
     simp only [Prod.mk.injEq] at h4
     obtain ⟨⟨_, rfl, rfl⟩, _⟩ := h4
     refine ⟨pNum_le hp, ?_⟩
     unfold cHigh at h3
     split at h3
     ·split at h3
      ·exact pNum_le (show pNum _ = some (p'.1, p'.2) from h3)
      cases h3
     cases h3; exact pNum_le hp
    cases h1
   exact ⟨⟨Int.natCast_nonneg _, by show (m : Int) ≤ _; omega⟩, ⟨Int.natCast_nonneg _, by show (lo : Int) ≤ _; omega⟩, Int.natCast_nonneg _, by show (hi : Int) ≤ _; omega⟩
theorem mapO_mem {α β : Type} {f : α → Option β} {xs : List α} {ys : List β} (h : mapO f xs = some ys) : ∀ y ∈ ys, ∃ x, f x = some y := by
 induction xs generalizing ys with
 | nil => cases h; intro y hy; cases hy
 | cons a xs ih =>
  rw [mapO_cons] at h
  cases ha : f a with
  | none => rw [ha] at h; cases h
  | some b =>
   rw [ha] at h
   cases hb : mapO f xs with
   | none => rw [hb] at h; cases h
   | some bs =>
    rw [hb] at h
    cases h
    intro y hy
    rcases List.mem_cons.1 hy with rfl | hy
    ·exact ⟨a, ha⟩
    exact ih hb y hy
theorem mapO_len {α β : Type} {f : α → Option β} {xs : List α} {ys : List β} (h : mapO f xs = some ys) : ys.length = xs.length := by
 induction xs generalizing ys with
 | nil => cases h; rfl
 | cons a xs ih =>
  rw [mapO_cons] at h
  cases ha : f a with
  | none => rw [ha] at h; cases h
  | some b =>
   rw [ha] at h
   cases hb : mapO f xs with
   | none => rw [hb] at h; cases h
   | some bs => rw [hb] at h; cases h; rw [List.length_cons, List.length_cons, ih hb]
theorem zT_ok : tOk zT := ⟨⟨yq41, yq41⟩, ⟨yq41, yq41⟩, yq41, yq41⟩
theorem when_ok {l : List UInt8} {R : List (List TI)} (h : whenI l = some R) (k j : Int) : tOk ((R.getD k.toNat []).getD j.toNat zT) := by
 have h1 : ∀ r ∈ R, ∀ t ∈ r, tOk t := by
  unfold whenI at h
  split at h
  ·cases h
  intro r hr t ht
  obtain ⟨x, hx⟩ := mapO_mem h r hr
  obtain ⟨y, hy⟩ := mapO_mem hx t ht
  exact tI_ok2 hy
 by_cases hk : k.toNat < R.length
 ·have e : R.getD k.toNat [] = R[k.toNat] := by simp [hk]
  rw [e]
  by_cases hj : j.toNat < (R[k.toNat]).length
  ·have e2 : (R[k.toNat]).getD j.toNat zT = (R[k.toNat])[j.toNat] := by simp [hj]
   rw [e2]
   exact h1 _ (List.getElem_mem hk) _ (List.getElem_mem hj)
  have e2 : (R[k.toNat]).getD j.toNat zT = zT := by simp [List.getElem?_eq_none (Nat.le_of_not_lt hj)]
  rw [e2]; exact zT_ok
 have e : R.getD k.toNat [] = [] := by simp [List.getElem?_eq_none (Nat.le_of_not_lt hk)]
 rw [e]; exact zT_ok
theorem mapO_le {l : List UInt8} {R : List (List TI)} (h : mapO rowI (sp 124 l) = some R) : ∀ r ∈ R, r.length ≤ l.length + 1 := by
 have : ∀ (xs : List (List UInt8)) (ys : List (List TI)), (∀ q ∈ xs, q.length ≤ l.length) → mapO rowI xs = some ys → ∀ r ∈ ys, r.length ≤ l.length + 1 := by
  intro xs
  induction xs with
  | nil => intro ys _ h; cases h; intro r hr; cases hr
  | cons a xs ih =>
   intro ys hq h
   rw [mapO_cons] at h
   cases ha : rowI a with
   | none => rw [ha] at h; cases h
   | some b =>
    rw [ha] at h
    cases hb : mapO rowI xs with
    | none => rw [hb] at h; cases h
    | some bs =>
     rw [hb] at h
     cases h
     intro r hr
     rcases List.mem_cons.1 hr with rfl | hr
     ·have h1 := mapO_len (show mapO tI (sp 38 a) = some r from ha)
      have h2 := (sp_le 38 a).1
      have h3 := hq a (List.mem_cons_self ..)
      omega
     exact ih bs (fun q hm => hq q (List.mem_cons_of_mem _ hm)) hb r hr
 exact this _ _ (sp_le 124 l).2 h
theorem when_len {l : List UInt8} {R : List (List TI)} (h : whenI l = some R) (k : Int) : (R.getD k.toNat []).length ≤ 1048576 := by
 unfold whenI at h
 split at h
 ·cases h
 by_cases hk : k.toNat < R.length
 ·have e : R.getD k.toNat [] = R[k.toNat] := by simp [hk]
  have := mapO_le h _ (List.getElem_mem hk)
  rw [e]
  omega
 have e : R.getD k.toNat [] = [] := by simp [List.getElem?_eq_none (Nat.le_of_not_lt hk)]
 rw [e]
 exact Nat.zero_le _
theorem cell_st {w w' : World} {a : Addr} {v : Value} (hb : Below w.heap.size w w') (h : w.cell? a = some v) : w'.cell? a = some v := (hb.cell (World.block_lt_of_cell? w _ h)).trans h
theorem at_dT {w : World} {A : Option Addr} {n : Nat} {xs : List TI} (h : Kd.C dT w A n xs) (i : Int) (h0 : 0 ≤ i) (h1 : i < n) : ∃ ad, A = some ad ∧ ∀ a b c d e, xs.getD i.toNat zT = (a, b, c, d, e) → w.cell? (ad.add (i.toNat * 5)) = some (.int .u8 a) ∧ w.cell? ⟨(ad.add (i.toNat * 5)).block, (ad.add (i.toNat * 5)).off + 1, none⟩ = some (.int .i64 b) ∧ w.cell? ⟨(ad.add (i.toNat * 5)).block, (ad.add (i.toNat * 5)).off + 2, none⟩ = some (.bool c) ∧ w.cell? ⟨(ad.add (i.toNat * 5)).block, (ad.add (i.toNat * 5)).off + 3, none⟩ = some (.int .i64 d) ∧ w.cell? ⟨(ad.add (i.toNat * 5)).block, (ad.add (i.toNat * 5)).off + 4, none⟩ = some (.int .i64 e) := by
 obtain ⟨ad, c, e, _, hK, hc0⟩ := Kd.C_get h zT i h0 h1
 have hc : ∀ j u, c[j]? = some u → w.cell? (ad.add (i.toNat * 5 + j)) = some u := hc0
 refine ⟨ad, e, fun a b c' d e' he => ?_⟩
 rw [he] at hK
 obtain ⟨_, _, rfl, rfl, ⟨_, _, rfl, rfl, ⟨_, _, rfl, rfl, ⟨_, _, rfl, rfl, rfl⟩⟩⟩⟩ := hK
 exact ⟨hc 0 _ rfl, by rw [← add_field _ _ 1 yq10]; exact hc 1 _ rfl, by rw [← add_field _ _ 2 yq10]; exact hc 2 _ rfl, by rw [← add_field _ _ 3 yq10]; exact hc 3 _ rfl, by rw [← add_field _ _ 4 yq10]; exact hc 4 _ rfl⟩
theorem at_dS {t : TypeId} {w : World} {A : Option Addr} {n : Nat} {xs : List (List TI)} (h : Kd.C (Kd.slice t dT) w A n xs) (i : Int) (h0 : 0 ≤ i) (h1 : i < n) : ∃ ad A0 c0, A = some ad ∧ w.cell? (ad.add i.toNat) = some (.slice A0 (xs.getD i.toNat []).length c0) ∧ dT.C w A0 (xs.getD i.toNat []).length (xs.getD i.toNat []) := by
 obtain ⟨ad, c, e, _, hK, hc0⟩ := Kd.C_get h ([] : List TI) i h0 h1
 have hc : ∀ j u, c[j]? = some u → w.cell? (ad.add (i.toNat * 1 + j)) = some u := hc0
 obtain ⟨A0, c0, rfl, l0, g0⟩ := hK
 exact ⟨ad, A0, c0, e, by have hq := hc 0 _ rfl; rwa [Nat.mul_one, Nat.add_zero] at hq, g0⟩
theorem take_snoc' {α : Type} (L : List α) (i : Nat) (h : i < L.length) : L.take (i + 1) = L.take i ++ [L[i]] := by rw [List.take_add_one, List.getElem?_eq_getElem h]; rfl
theorem all_snoc {i f v : Int} (r : List TI) (j : Nat) (h : j < r.length) : (r.take (j + 1)).all (tH i f v) = ((r.take j).all (tH i f v) && tH i f v (r.getD j zT)) := by
 rw [take_snoc' r j h, List.all_append]
 simp [h]
theorem any_snoc {i f v : Int} (R : List (List TI)) (k : Nat) (h : k < R.length) : rowsH i f v (R.take (k + 1)) = (rowsH i f v (R.take k) || (R.getD k []).all (tH i f v)) := by
 unfold rowsH
 rw [take_snoc' R k h, List.any_append]
 simp [h]
end Go.Proofs.YtfafjbolmeimmaaGreatDoor.P
namespace Go.Proofs.YtfafjbolmeimmaaGreatDoor.P
open Go.RowKit Go.Proofs.YtfafjbolmeimmaaGreatDoorW.PrintWords
set_option linter.unusedVariables false
theorem fold_at (l : List UInt8) : ∀ a : Nat, l.foldl (fun n c => n * 10 + (c.toNat - 48)) a = a * 10 ^ l.length + valD l := by
 induction l with
 | nil => intro a; show a = a * 1 + 0; omega
 | cons c r ih =>
  intro a
  have h : valD (c :: r) = r.foldl (fun n c => n * 10 + (c.toNat - 48)) (0 * 10 + (c.toNat - 48)) := rfl
  rw [h, List.foldl_cons, ih, ih, List.length_cons, Nat.pow_succ]
  generalize 10 ^ r.length = X
  simp only [Nat.zero_mul, Nat.zero_add, Nat.add_mul, Nat.mul_assoc, Nat.mul_comm 10, Nat.add_assoc]
theorem val_app (a b : List UInt8) : valD (a ++ b) = valD a * 10 ^ b.length + valD b := by
 have h : valD (a ++ b) = b.foldl (fun n c => n * 10 + (c.toNat - 48)) (valD a) := by unfold valD; rw [List.foldl_append]
 rw [h, fold_at]
theorem val_lt (l : List UInt8) (hd : ∀ c ∈ l, isDg c = true) : valD l < 10 ^ l.length := by
 induction l with
 | nil => exact Nat.one_pos
 | cons c r ih =>
  have h1 := dg_of c (hd c (List.mem_cons_self ..))
  have h2 := ih (fun c hc => hd c (List.mem_cons_of_mem _ hc))
  rw [show c :: r = [c] ++ r from rfl, val_app, List.length_append, Nat.pow_add]
  have h3 : valD [c] = c.toNat - 48 := by show 0 * 10 + _ = _; omega
  rw [h3]
  have h4 : (c.toNat - 48) * 10 ^ r.length ≤ 9 * 10 ^ r.length := Nat.mul_le_mul_right _ yq10
  show _ < 10 ^ 1 * 10 ^ r.length
  omega
theorem dec_dg (u : Nat) : ∀ c ∈ Lib.decDigits u, isDg c = true := by
 induction u using Nat.strongRecOn with
 | ind u ih =>
  have one : ∀ d, d < 10 → isDg (UInt8.ofNat (48 + d)) = true := by
   intro d hd
   unfold isDg
   rw [decide_eq_true_iff, UInt8.toNat_ofNat']
   omega
  intro c hc
  rw [Lib.decDigits] at hc
  split at hc
  ·rw [List.mem_singleton.1 hc]; exact one u ‹_›
  rcases List.mem_append.1 hc with h | h
  ·exact ih (u / 10) yq10 c h
  rw [List.mem_singleton.1 h]; exact one _ (Nat.mod_lt _ yq41)
theorem dec_val (u : Nat) : valD (Lib.decDigits u) = u := by
 induction u using Nat.strongRecOn with
 | ind u ih =>
  have one : ∀ d, d < 10 → (UInt8.ofNat (48 + d)).toNat - 48 = d := by
   intro d hd
   rw [UInt8.toNat_ofNat']
   omega
  rw [Lib.decDigits]
  split
  ·show 0 * 10 + ((UInt8.ofNat (48 + u)).toNat - 48) = u
   rw [one u ‹_›]
   omega
  rw [val_snoc, ih (u / 10) yq10, one _ (Nat.mod_lt _ yq41)]
  omega
theorem dec_len : ∀ (k u : Nat), u < 10 ^ (k + 1) → 1 ≤ (Lib.decDigits u).length ∧ (Lib.decDigits u).length ≤ k + 1 := by
 intro k
 induction k with
 | zero => intro u hu; rw [Lib.decDigits_one yq10]; exact ⟨Nat.le_refl _, Nat.le_refl _⟩
 | succ k ih =>
  intro u hu
  rw [Lib.decDigits]
  split
  ·exact ⟨Nat.le_refl _, by show 1 ≤ _; omega⟩
  have h := ih (u / 10) (by rw [Nat.pow_succ] at hu; omega)
  rw [List.length_append]
  show 1 ≤ _ + 1 ∧ _ + 1 ≤ _
  omega
theorem str_one (d : Nat) (h : d < 10) : strOfNums [((48 + d : Nat) : Int)] = bs [UInt8.ofNat (48 + d)] := rfl
theorem dgs_ev (u : Nat) (hu : u < 9223372036854775808) : ∀ acc : List UInt8, acc.length ≤ 9223372036854775806 ∧ acc.length + u ≤ 9223372036854775807 → Ev (fun k => zaM.l0 k (u : Int) (bs acc)) (bs (Lib.decDigits u ++ acc)) := by
 induction u using Nat.strongRecOn with
 | ind u ih =>
  intro acc hacc
  rw [Lib.decDigits]
  by_cases h : u < 10
  ·rw [dif_pos h]
   have e1 : (wrap64 (48 + (u : Int))) % 256 = ((48 + u : Nat) : Int) := by rw [w64 yq10 yq10]; omega
   have E1 := zaa.mk e1; clear e1
   refine Ev.step (fun k => by rw [zaM.l0, E1.out]) ?_
   refine Ev.neg yq10 ?_
   refine Ev.bind (Ev.now _) ?_
   rw [str_one u h]
   exact Ev.pos (by simp only [bs_size, List.length_cons, List.length_nil]; omega) (Ev.now _)
  rw [dif_neg h]
  have e0 : Int.tmod (u : Int) 10 = ((u % 10 : Nat) : Int) := rfl
  have e1 : (wrap64 (48 + Int.tmod (u : Int) 10)) % 256 = ((48 + u % 10 : Nat) : Int) := by rw [e0, w64 yq10 yq10]; omega
  have e2 : wrap64 (Int.tdiv (u : Int) 10) = ((u / 10 : Nat) : Int) := by
   have : Int.tdiv (u : Int) 10 = ((u / 10 : Nat) : Int) := rfl
   rw [this, w64 yq10 yq10]
  have e3 := str_one (u % 10) (Nat.mod_lt _ yq41)
  have E1 := zaa.mk e1; have E2 := zaa.mk e2; clear e0 e1 e2
  refine Ev.step (fun k => by rw [zaM.l0, E1.out, E2.out]) ?_
  refine Ev.pos yq10 ?_
  refine Ev.bind (Ev.now _) ?_
  rw [e3]
  refine Ev.pos (by simp only [bs_size, List.length_cons, List.length_nil]; omega) ?_
  have h9 := ih (u / 10) yq10 yq10 (UInt8.ofNat (48 + u % 10) :: acc) (by rw [List.length_cons]; have := hacc; omega)
  rw [List.append_assoc]
  exact h9
theorem digits_ev (num : Int) (h : -9223372036854775808 ≤ num ∧ num ≤ 9223372036854775807) : Ev (fun k => zaM.f k (if num < 0 then wrap64 (-num) else num)) (bs (Lib.decDigits num.natAbs)) := by
 unfold zaM.f
 have pos : ∀ u : Nat, u < 9223372036854775808 → Ev (fun k => if (u : Int) < 0 then (some (⟨#[57, 50, 50, 51, 51, 55, 50, 48, 51, 54, 56, 53, 52, 55, 55, 53, 56, 48, 56]⟩ : ByteArray)) else (zaM.l0 k (u : Int) (⟨#[]⟩ : ByteArray))) (bs (Lib.decDigits u)) := by
  intro u hu
  refine Ev.neg yq10 ?_
  have h := dgs_ev u hu [] ⟨Nat.zero_le _, by show 0 + u ≤ _; omega⟩
  rw [List.append_nil] at h
  exact h
 by_cases hn : num < 0
 ·by_cases hm : num = -9223372036854775808
  ·have hw : wrap64 (-num) < 0 := by rw [hm]; unfold wrap64; omega
   have ha : num.natAbs = 9223372036854775808 := by omega
   have e : Lib.decDigits 9223372036854775808 = [57, 50, 50, 51, 51, 55, 50, 48, 51, 54, 56, 53, 52, 55, 55, 53, 56, 48, 56] := by
    have h1 := (dec_back [57, 50, 50, 51, 51, 55, 50, 48, 51, 54, 56, 53, 52, 55, 55, 53, 56, 48, 56] yq41 57 _ rfl yq41).2
    rw [show valD [57, 50, 50, 51, 51, 55, 50, 48, 51, 54, 56, 53, 52, 55, 55, 53, 56, 48, 56] = 9223372036854775808 by decide] at h1
    exact h1
   rw [ha, e]
   exact Ev.step (fun k => by rw [if_pos hn, if_pos hw]; rfl) (Ev.now _)
  have e : (if num < 0 then wrap64 (-num) else num) = ((num.natAbs : Nat) : Int) := by rw [if_pos hn, w64 yq10 yq10]; omega
  rw [e]
  exact pos num.natAbs yq10
 have e : (if num < 0 then wrap64 (-num) else num) = ((num.natAbs : Nat) : Int) := by rw [if_neg hn]; omega
 rw [e]
 exact pos num.natAbs yq10
theorem digits_any (num : Int) (h : -9223372036854775808 ≤ num ∧ num ≤ 9223372036854775807) : ∃ r, Ev (fun k => zaM.f k num) r := by
 by_cases hn : num < 0
 ·exact ⟨_, by unfold zaM.f; exact Ev.pos hn (Ev.now _)⟩
 have h1 := digits_ev num h
 rw [if_neg hn] at h1
 exact ⟨_, h1⟩
theorem pad_ev (p : Nat) (hp : p ≤ 9) : ∀ (d : Nat) (l : List UInt8), l.length ≤ 100 → p + 1 - l.length = d → ∃ z : List UInt8, (∀ c ∈ z, c = 48) ∧ (p < (z ++ l).length ∧ z.length ≤ d) ∧ Ev (fun k => zaT.l0 k (p : Int) (bs l)) (bs ((z ++ l).take ((z ++ l).length - p)), bs ((z ++ l).drop ((z ++ l).length - p))) := by
 intro d
 induction d with
 | zero =>
  intro l hl hd
  refine ⟨[], fun c h => (by cases h), ⟨by show p < l.length; omega, Nat.le_refl _⟩, ?_⟩
  have e1 : wrap64 (((bs l).size : Int) - (p : Int)) = ((l.length - p : Nat) : Int) := by rw [bs_size, w64 yq10 yq10]; omega
  have E1 := zaa.mk e1; clear e1
  refine Ev.step (fun k => by rw [zaT.l0, E1.out, Int.toNat_natCast, bs_take, bs_drop]) ?_
  exact Ev.neg (by rw [bs_size]; omega) (Ev.pos yq10 (Ev.pos (by rw [bs_size]; omega) (Ev.now _)))
 | succ d ih =>
  intro l hl hd
  obtain ⟨z, h1, h2, h3⟩ := ih (48 :: l) (by rw [List.length_cons]; omega) (by rw [List.length_cons]; omega)
  refine ⟨z ++ [48], fun c h => ?_, ⟨by rw [List.append_assoc]; exact h2.1, by rw [List.length_append]; have := h2.2; show _ + 1 ≤ _; omega⟩, ?_⟩
  ·rcases List.mem_append.1 h with h | h
   ·exact h1 c h
   exact List.mem_singleton.1 h
  rw [List.append_assoc]
  have e : (⟨#[48]⟩ : ByteArray) ++ bs l = bs (48 :: l) := rfl
  refine Ev.step (fun k => by rw [zaT.l0, e]) ?_
  exact Ev.pos (by rw [bs_size]; omega) (Ev.pos (by rw [bs_size]; omega) h3)
theorem value_ev (l : List UInt8) (hl : l.length ≤ 100) (hd : ∀ c ∈ l, isDg c = true) (hv : valD l ≤ 9223372036854775808) : Ev (fun k => za5.f k (bs l)) ((valD l : Nat) : Int) := by
 have go : ∀ (d i : Nat), i + d = l.length → Ev (fun k => za5.l0 k (bs l) ((valD (l.take i) : Nat) : Int) (i : Int)) ((valD l : Nat) : Int) := by
  intro d
  induction d with
  | zero =>
   intro i hi
   refine Ev.step (fun k => by rw [za5.l0]) ?_
   rw [List.take_of_length_le yq10]
   exact Ev.neg (by rw [bs_size]; omega) (Ev.now _)
  | succ d ih =>
   intro i hi
   have hlt : i < l.length := by omega
   have h1 := bs_bt l i hlt
   have h2 := dg_of _ (hd _ (List.getElem_mem hlt))
   have h3 : valD (l.take (i + 1)) = valD (l.take i) * 10 + (l[i].toNat - 48) := by rw [take_snoc' l i hlt, val_snoc]
   have h4 : valD (l.take (i + 1)) ≤ valD l := by
    have e : l = l.take (i + 1) ++ l.drop (i + 1) := (List.take_append_drop _ _).symm
    have h5 := val_app (l.take (i + 1)) (l.drop (i + 1))
    rw [← e] at h5
    have h6 : 0 < 10 ^ (l.drop (i + 1)).length := Nat.pow_pos yq41
    have h7 := Nat.le_mul_of_pos_right (valD (l.take (i + 1))) h6
    omega
   have e2 : IntKind.u64.wrap (10 * ((valD (l.take i) : Nat) : Int)) = ((valD (l.take i) * 10 : Nat) : Int) := by
    unfold IntKind.wrap
    simp [IntKind.bits, IntKind.signed]
    omega
   have e3 : IntKind.u64.wrap (((valD (l.take i) * 10 : Nat) : Int) + ((l[i].toNat : Int) - 48) % 256) = ((valD (l.take (i + 1)) : Nat) : Int) := by
    have h8 : ((l[i].toNat : Int) - 48) % 256 = ((l[i].toNat - 48 : Nat) : Int) := by omega
    rw [h8, h3]
    unfold IntKind.wrap
    simp [IntKind.bits, IntKind.signed]
    omega
   have e4 := w_succ i yq10
   refine Ev.step (fun k => by rw [za5.l0, h1, e2, e3, e4]) ?_
   clear e2 e3 e4
   exact Ev.pos (by rw [bs_size]; omega) (Ev.pos yq10 (ih (i + 1) yq10))
 have h := go l.length 0 yq10
 exact h
theorem nums_ev (num p : Int) (h : -9223372036854775808 ≤ num ∧ num ≤ 9223372036854775807) (hp : 0 ≤ p ∧ p ≤ 9) : ∃ (k : Nat) (wh pt : ByteArray) (i f : Int), Nums num p i f ∧ zaT.f k num p = some (wh, pt) ∧ za5.f k wh = some i ∧ za5.f k pt = some f ∧ (pt.size : Int) = p ∧ pt.size ≤ 9 := by
 obtain ⟨q, rfl⟩ : ∃ q : Nat, p = (q : Int) := ⟨p.toNat, yq10⟩
 have hq : q ≤ 9 := by omega
 have hu : num.natAbs < 10 ^ (18 + 1) := by have : (10 : Nat) ^ (18 + 1) = 10000000000000000000 := yq41; omega
 have hlen := dec_len 18 num.natAbs hu
 obtain ⟨z, hz, hlt, hev⟩ := pad_ev q hq _ (Lib.decDigits num.natAbs) yq10 rfl
 obtain ⟨L, hL⟩ : ∃ L, z ++ Lib.decDigits num.natAbs = L := ⟨_, rfl⟩
 have hzl := hlt.2
 replace hlt := hlt.1
 have hdL : ∀ c ∈ L, isDg c = true := by
  rw [← hL]
  intro c hc
  rcases List.mem_append.1 hc with h | h
  ·rw [hz c h]; rfl
  exact dec_dg _ c h
 have hz0 : valD z = 0 := by
  clear hev hlt hL hzl
  induction z with
  | nil => rfl
  | cons c r ih =>
   rw [show c :: r = [c] ++ r from rfl, val_app, ih (fun c hc => hz c (List.mem_cons_of_mem _ hc)), hz c (List.mem_cons_self ..)]
   show (0 * 10 + 0) * _ + 0 = 0
   simp
 have hvL : valD L = num.natAbs := by rw [← hL, val_app, hz0, dec_val, Nat.zero_mul, Nat.zero_add]
 rw [hL] at hlt hev
 have hLl : L.length ≤ 100 := by rw [← hL, List.length_append]; omega
 have e1 := List.take_append_drop (L.length - q) L
 have hpl : (L.drop (L.length - q)).length = q := by rw [List.length_drop]; omega
 have h1 := val_app (L.take (L.length - q)) (L.drop (L.length - q))
 rw [e1, hvL, hpl] at h1
 have h2 := val_lt (L.drop (L.length - q)) (fun c hc => hdL c (List.mem_of_mem_drop hc))
 rw [hpl] at h2
 have hdm : num.natAbs / 10 ^ q = valD (L.take (L.length - q)) ∧ num.natAbs % 10 ^ q = valD (L.drop (L.length - q)) := by
  have h3 : 0 < 10 ^ q := Nat.pow_pos yq41
  rw [h1, Nat.mul_comm]
  exact ⟨by rw [Nat.mul_add_div h3, Nat.div_eq_of_lt h2, Nat.add_zero], by rw [Nat.mul_add_mod, Nat.mod_eq_of_lt h2]⟩
 have hw := value_ev (L.take (L.length - q)) (by rw [List.length_take]; omega) (fun c hc => hdL c (List.mem_of_mem_take hc)) (by rw [← hdm.1]; exact Nat.le_trans (Nat.div_le_self _ _) yq10)
 have hf := value_ev (L.drop (L.length - q)) yq10 (fun c hc => hdL c (List.mem_of_mem_drop hc)) (by rw [← hdm.2]; exact Nat.le_trans (Nat.mod_le _ _) yq10)
 have hW : Ev (fun k => zaT.f k num (q : Int)) (bs (L.take (L.length - q)), bs (L.drop (L.length - q))) := by
  have hj : Ev (fun k => zaT.j0 k (q : Int) (bs (Lib.decDigits num.natAbs))) (bs (L.take (L.length - q)), bs (L.drop (L.length - q))) := Ev.step (fun k => by rw [zaT.j0]) hev
  obtain ⟨r, hr⟩ := digits_any num h
  have hd := digits_ev num h
  unfold zaT.f
  by_cases hn : num < 0
  ·rw [if_pos hn] at hd
   exact Ev.bind hr (Ev.pos hn (Ev.bind hd hj))
  rw [if_neg hn] at hd
  exact Ev.bind hd (Ev.neg hn hj)
 obtain ⟨k1, g1⟩ := hW
 obtain ⟨k2, g2⟩ := hw
 obtain ⟨k3, g3⟩ := hf
 exact ⟨k1 + k2 + k3, _, _, _, _, ⟨h, hp, by rw [Int.toNat_natCast, hdm.1], by rw [Int.toNat_natCast, hdm.2]⟩, g1 _ yq10, g2 _ yq10, g3 _ yq10, by rw [bs_size, hpl], by rw [bs_size, hpl]; exact hq⟩
end Go.Proofs.YtfafjbolmeimmaaGreatDoor.P
