/- The reference's reader of rules of plurals, in plain words. -/
import Derived.Test.YtfafjbolmeimmaaGreatDoorAb
import Derived.Test.YtfafjbolmeimmaaGreatDoorJ16
import Derived.Test.YtfafjbolmeimmaaGreatDoorF8
import Derived.Test.YtfafjbolmeimmaaGreatDoorJ15
import Derived.Test.YtfafjbolmeimmaaGreatDoorF9
import Derived.Test.YtfafjbolmeimmaaGreatDoorF6
namespace Go.Proofs.YtfafjbolmeimmaaGreatDoor.P
open Go.RowKit Go.Proofs.YtfafjbolmeimmaaGreatDoorW.PrintWords
set_option linter.unusedVariables false
def Lb (s : ByteArray) (i : Nat) : List UInt8 := s.data.toList.drop i
theorem Lb_len (s : ByteArray) (i : Nat) : (Lb s i).length = s.size - i := by
 unfold Lb
 rw [List.length_drop, Array.length_toList]
 rfl
theorem Lb_at (s : ByteArray) (i : Nat) (h : i < s.size) : ∃ c : UInt8, Lb s i = c :: Lb s (i + 1) ∧ bt s (i : Int) = (c.toNat : Int) := by
 have hl : i < s.data.toList.length := by rw [Array.length_toList]; exact h
 refine ⟨s.data.toList[i], by unfold Lb; exact List.drop_eq_getElem_cons hl, ?_⟩
 unfold bt
 rw [Int.toNat_natCast, dif_pos h]
 simp
 rfl
theorem Lb_end (s : ByteArray) (i : Nat) (h : s.size ≤ i) : Lb s i = [] := List.eq_nil_of_length_eq_zero (by rw [Lb_len]; omega)
theorem u8_eq {c b : UInt8} : c = b ↔ c.toNat = b.toNat := ⟨fun h => h ▸ rfl, fun h => UInt8.toNat_inj.1 h⟩
theorem pOpt_no {b : UInt8} {l : List UInt8} (h : (pOpt b l).1 = false) : (pOpt b l).2 = l := by
 cases l with
 | nil => rfl
 | cons c r =>
  have e : pOpt b (c :: r) = if c = b then (true, r) else (false, c :: r) := rfl
  rw [e] at h ⊢
  by_cases hc : c = b
  ·rw [if_pos hc] at h; cases h
  rw [if_neg hc]
theorem take_q (s : ByteArray) (hs : s.size ≤ 1099511627776) (i : Nat) (hi : i ≤ s.size) (c : UInt8) : ∃ i' : Nat, zaw.f s (i : Int) false (c.toNat : Int) = some ((pOpt c (Lb s i)).1, s, (i' : Int), false) ∧ Lb s i' = (pOpt c (Lb s i)).2 ∧ i ≤ i' ∧ i' ≤ s.size := by
 unfold zaw.f spec_l04Reader_is.f
 rw [if_neg yq26]
 by_cases h : i < s.size
 ·obtain ⟨b, hb, hbt⟩ := Lb_at s i h
  rw [if_pos yq12, if_pos yq12, hbt, hb]
  show ∃ i' : Nat, (if ((b.toNat : Int) == (c.toNat : Int)) = true then some (true, s, wrap64 ((i : Int) + 1), false) else some (false, s, (i : Int), false)) = some ((if b = c then (true, Lb s (i + 1)) else (false, b :: Lb s (i + 1))).1, s, (i' : Int), false) ∧ Lb s i' = (if b = c then (true, Lb s (i + 1)) else (false, b :: Lb s (i + 1))).2 ∧ i ≤ i' ∧ i' ≤ s.size
  by_cases e : b = c
  ·have e2 : ((b.toNat : Int) == (c.toNat : Int)) = true := by rw [e]; simp
   rw [if_pos e2, if_pos e, w_succ i yq12]
   exact ⟨i + 1, rfl, rfl, yq12, yq12⟩
  have e2 : ((b.toNat : Int) == (c.toNat : Int)) = false := beq_eq_false_iff_ne.2 (fun h => e (u8_eq.2 yq12))
  rw [if_neg (by rw [e2]; simp), if_neg e]
  exact ⟨i, rfl, hb, yq12, yq12⟩
 rw [if_neg yq12, Lb_end s i yq12]
 exact ⟨i, rfl, Lb_end s i yq12, yq12, yq12⟩
theorem take_b (s : ByteArray) (i c : Int) : zaw.f s i true c = some (false, s, i, true) := by
 unfold zaw.f spec_l04Reader_is.f
 rw [if_pos rfl]
 rfl
theorem fail_f (s : ByteArray) (i a : Int) (b : Bool) : ∃ i', zat.f s i b a = some (s, i', true) := by
 unfold zat.f
 cases b with
 | true => exact ⟨i, by rw [if_pos rfl]⟩
 | false => exact ⟨a, by rw [if_neg yq26]⟩
theorem want_q (s : ByteArray) (hs : s.size ≤ 1099511627776) (i : Nat) (hi : i ≤ s.size) (c : UInt8) : ∃ j : Int, zaS.f s (i : Int) false (c.toNat : Int) = some (s, j, !(pOpt c (Lb s i)).1) ∧ ((pOpt c (Lb s i)).1 = true → ∃ i' : Nat, j = (i' : Int) ∧ Lb s i' = (pOpt c (Lb s i)).2 ∧ i ≤ i' ∧ i' ≤ s.size) := by
 obtain ⟨i', h1, h2, h3, h4⟩ := take_q s hs i hi c
 unfold zaS.f
 rw [h1]
 cases hb : (pOpt c (Lb s i)).1 with
 | true => exact ⟨i', yq35, fun _ => ⟨i', rfl, h2, h3, h4⟩⟩
 | false =>
  obtain ⟨j, hj⟩ := fail_f s (i' : Int) (i' : Int) false
  refine ⟨j, ?_, fun h => by cases h⟩
  show (if false = true then some (s, (i' : Int), false) else (zat.f s (i' : Int) false (i' : Int)).bind fun bt118 => some (bt118.1, bt118.2.1, bt118.2.2)) = _
  rw [if_neg yq26, hj]
  rfl
theorem want_b (s : ByteArray) (i c : Int) : ∃ j, zaS.f s i true c = some (s, j, true) := by
 obtain ⟨j, hj⟩ := fail_f s i i true
 refine ⟨j, ?_⟩
 unfold zaS.f
 rw [take_b]
 show (if false = true then some (s, i, true) else (zat.f s i true i).bind fun bt118 => some (bt118.1, bt118.2.1, bt118.2.2)) = _
 rw [if_neg yq26, hj]
 rfl
theorem dg_toNat (c : UInt8) : isDg c = true ↔ 48 ≤ c.toNat ∧ c.toNat ≤ 57 := by unfold isDg; exact decide_eq_true_iff
theorem dig_l (s : ByteArray) (hs : s.size ≤ 1099511627776) (a : Nat) (ha : a < s.size) (c0 : UInt8) (hc0 : bt s (a : Int) = (c0.toNat : Int)) (h48 : c0 ≠ 48) :
  ∀ (d i : Nat), i + d = s.size → a < i → ∀ n : Nat, n ≤ 10000009 →
   ∃ (m : Int) (j : Int) (b : Bool), Ev (fun k => zaj.l0 k 1000000 (a : Int) (n : Int) ((i - a : Nat) : Int) s (i : Int) false) (m, s, j, b) ∧
    ((n ≤ 1000000 ∧ ((Lb s i).takeWhile isDg).foldl (fun n c => n * 10 + (c.toNat - 48)) n ≤ 1000000 → b = false ∧ m = ((((Lb s i).takeWhile isDg).foldl (fun n c => n * 10 + (c.toNat - 48)) n : Nat) : Int) ∧ ∃ i' : Nat, j = (i' : Int) ∧ Lb s i' = (Lb s i).dropWhile isDg ∧ i ≤ i' ∧ i' ≤ s.size)
     ∧ (¬ (n ≤ 1000000 ∧ ((Lb s i).takeWhile isDg).foldl (fun n c => n * 10 + (c.toNat - 48)) n ≤ 1000000) → b = true)) := by
 have stop : ∀ (i n : Nat), a < i → i ≤ s.size → n ≤ 10000009 → (Lb s i).takeWhile isDg = [] → (Lb s i).dropWhile isDg = Lb s i → ∃ (m : Int) (j : Int) (b : Bool), Ev (fun k => zaj.j1 k 1000000 (a : Int) (n : Int) ((i - a : Nat) : Int) false s (i : Int) false) (m, s, j, b) ∧
    ((n ≤ 1000000 ∧ ((Lb s i).takeWhile isDg).foldl (fun n c => n * 10 + (c.toNat - 48)) n ≤ 1000000 → b = false ∧ m = ((((Lb s i).takeWhile isDg).foldl (fun n c => n * 10 + (c.toNat - 48)) n : Nat) : Int) ∧ ∃ i' : Nat, j = (i' : Int) ∧ Lb s i' = (Lb s i).dropWhile isDg ∧ i ≤ i' ∧ i' ≤ s.size)
     ∧ (¬ (n ≤ 1000000 ∧ ((Lb s i).takeWhile isDg).foldl (fun n c => n * 10 + (c.toNat - 48)) n ≤ 1000000) → b = true)) := by
  intro i n hai hi hn ht hd
  rw [ht, hd]
  by_cases hm : n ≤ 1000000
  ·refine ⟨(n : Int), (i : Int), false, ?_, fun _ => ⟨rfl, rfl, i, rfl, rfl, Nat.le_refl _, hi⟩, fun h => absurd ⟨hm, hm⟩ h⟩
   refine Ev.step (fun k => by rw [zaj.j1]) ?_
   refine Ev.neg yq26 ?_
   refine Ev.neg yq12 ?_
   refine Ev.neg yq12 ?_
   exact Ev.now _
  obtain ⟨j, hj⟩ := fail_f s (i : Int) (a : Int) false
  refine ⟨(n : Int), j, true, ?_, fun h => absurd h.1 hm, fun _ => rfl⟩
  refine Ev.step (fun k => by rw [zaj.j1]) ?_
  refine Ev.neg yq26 ?_
  refine Ev.neg yq12 ?_
  refine Ev.pos yq12 ?_
  refine Ev.bind (Ev.done hj) ?_
  exact Ev.now _
 intro d
 induction d with
 | zero =>
  intro i hi hai n hn
  have hL := Lb_end s i yq12
  obtain ⟨m, j, b, h1, h2⟩ := stop i n hai yq12 hn (by rw [hL]; rfl) (by rw [hL]; rfl)
  exact ⟨m, j, b, (by refine Ev.step (fun k => by rw [zaj.l0]) ?_; refine Ev.neg yq26 ?_; refine Ev.neg yq12 ?_; exact h1), h2⟩
 | succ d ih =>
  intro i hi hai n hn
  obtain ⟨c, hc, hbt⟩ := Lb_at s i yq12
  have hcl : c.toNat < 256 := c.toNat_lt
  have hi0 : ((i - a : Nat) : Int) ≠ 0 := by omega
  by_cases hd : isDg c = true
  ·have hdg := (dg_toNat c).1 hd
   have hc48 : c0.toNat ≠ 48 := fun h => h48 (u8_eq.2 h)
   have e1 : wrap64 (((i - a : Nat) : Int) + 1) = ((i + 1 - a : Nat) : Int) := by rw [w64 yq12 yq12]; omega
   have e2 := zaa.mk (w_succ i yq12)
   have E1 := zaa.mk e1; clear e1
   have hne : (((c0.toNat : Int)) != 48) = true := bne_iff_ne.2 yq12
   rw [hc, List.takeWhile_cons, if_pos hd, List.dropWhile_cons, if_pos hd, List.foldl_cons]
   by_cases hm : n ≤ 1000000
   ·have e3 : wrap64 (wrap64 (10 * (n : Int)) + ((c.toNat : Int) - 48) % 256) = ((n * 10 + (c.toNat - 48) : Nat) : Int) := by
     rw [w64 (x := 10 * (n : Int)) yq12 yq12, w64 yq12 yq12]
     omega
    have E3 := zaa.mk e3; clear e3
    obtain ⟨m, j, b, h1, h2, h3⟩ := ih (i + 1) yq12 yq12 (n * 10 + (c.toNat - 48)) yq12
    have hge := fold_ge ((Lb s (i + 1)).takeWhile isDg) (n * 10 + (c.toNat - 48))
    refine ⟨m, j, b, ?_, fun h => ?_, fun h => ?_⟩
    ·refine Ev.step (fun k => by rw [zaj.l0, hbt, hc0]) (Ev.neg yq26 (Ev.pos yq12 (Ev.pos yq12 (Ev.pos yq12 (Ev.pos yq12 (Ev.neg hi0 (Ev.pos yq12 (Ev.pos yq12 ?_))))))))
     rw [hne]
     refine Ev.step (fun k => by rw [zaj.j1, hbt, E3.out, E1.out, e2.out]) ?_
     refine Ev.pos rfl ?_
     refine Ev.pos yq12 ?_
     refine Ev.pos yq12 ?_
     refine Ev.pos yq12 ?_
     exact h1
    ·obtain ⟨q1, q2, i', q3, q4, q5, q6⟩ := h2 ⟨yq12, h.2⟩
     exact ⟨q1, q2, i', q3, q4, yq12, q6⟩
    exact h3 (fun h' => h ⟨hm, h'.2⟩)
   obtain ⟨m, j, b, h1, h2, h3⟩ := ih (i + 1) yq12 yq12 n hn
   refine ⟨m, j, b, ?_, fun h => absurd h.1 hm, fun _ => h3 (fun h' => hm h'.1)⟩
   refine Ev.step (fun k => by rw [zaj.l0, hbt, hc0]) ?_
   refine Ev.neg yq26 ?_
   refine Ev.pos yq12 ?_
   refine Ev.pos yq12 ?_
   refine Ev.pos yq12 ?_
   refine Ev.pos yq12 ?_
   refine Ev.neg hi0 ?_
   refine Ev.pos yq12 ?_
   refine Ev.pos yq12 ?_
   rw [hne]
   refine Ev.step (fun k => by rw [zaj.j1, E1.out, e2.out]) ?_
   refine Ev.pos rfl ?_
   refine Ev.neg yq12 ?_
   exact h1
  have hdf : isDg c = false := by simpa using hd
  obtain ⟨m, j, b, h1, h2⟩ := stop i n hai yq12 hn (by rw [hc, List.takeWhile_cons, hdf]; rfl) (by rw [hc, List.dropWhile_cons, hdf]; rfl)
  refine ⟨m, j, b, ?_, h2⟩
  refine Ev.step (fun k => by rw [zaj.l0, hbt]) ?_
  refine Ev.neg yq26 ?_
  refine Ev.pos yq12 ?_
  refine Ev.pos yq12 ?_
  by_cases h1' : 48 ≤ c.toNat
  ·exact Ev.pos yq12 (Ev.neg (fun h => hd ((dg_toNat c).2 ⟨h1', yq12⟩)) h1)
  exact Ev.neg yq12 h1
theorem dig_q (s : ByteArray) (hs : s.size ≤ 1099511627776) (i : Nat) (hi : i ≤ s.size) : ∃ (m j : Int) (b : Bool), Ev (fun k => zaj.f k s (i : Int) false 1000000) (m, s, j, b) ∧
  (∀ v q, pNum (Lb s i) = some (v, q) → b = false ∧ m = (v : Int) ∧ ∃ i' : Nat, j = (i' : Int) ∧ Lb s i' = q ∧ i ≤ i' ∧ i' ≤ s.size) ∧ (pNum (Lb s i) = none → b = true) := by
 unfold zaj.f
 have none_ : (i < s.size → (bt s (i : Int) < 48 ∨ 57 < bt s (i : Int))) → ∃ j : Int, Ev (fun k => zaj.l0 k 1000000 (i : Int) 0 0 s (i : Int) false) (0, s, j, true) := by
  intro h
  obtain ⟨j, hj⟩ := fail_f s (i : Int) (i : Int) false
  refine ⟨j, ?_⟩
  have hj1 : Ev (fun k => zaj.j1 k 1000000 (i : Int) 0 0 false s (i : Int) false) (0, s, j, true) :=
   (by refine Ev.step (fun k => by rw [zaj.j1]) ?_; refine Ev.neg yq26 ?_; refine Ev.pos rfl ?_; refine Ev.bind (Ev.done hj) ?_; refine Ev.neg yq12 ?_; exact Ev.now _)
  refine Ev.step (fun k => by rw [zaj.l0]) ?_
  refine Ev.neg yq26 ?_
  by_cases hlt : i < s.size
  ·refine Ev.pos yq12 (Ev.pos yq12 ?_)
   rcases h hlt with h | h
   ·exact Ev.neg yq12 hj1
   exact Ev.pos yq12 (Ev.neg yq12 hj1)
  exact Ev.neg yq12 hj1
 by_cases hlt : i < s.size
 ·obtain ⟨c, hc, hbt⟩ := Lb_at s i hlt
  have hcl : c.toNat < 256 := c.toNat_lt
  rw [hc, pNum_cons]
  by_cases hd : isDg c = false
  ·rw [if_pos hd]
   obtain ⟨j, hj⟩ := none_ (fun _ => by
    rw [hbt]
    have : ¬ (48 ≤ c.toNat ∧ c.toNat ≤ 57) := fun h => by rw [(dg_toNat c).2 h] at hd; cases hd
    omega)
   exact ⟨0, j, true, hj, fun v q h => (by cases h), fun _ => rfl⟩
  rw [if_neg hd]
  have hdg := (dg_toNat c).1 (by simpa using hd)
  have hdt : isDg c = true := (dg_toNat c).2 hdg
  have e2 := zaa.mk (w_succ i yq12)
  have e3 : wrap64 (wrap64 (10 * (0 : Int)) + ((c.toNat : Int) - 48) % 256) = ((c.toNat - 48 : Nat) : Int) := by
   rw [w64 (x := 10 * (0 : Int)) yq12 yq12, w64 yq12 yq12]
   omega
  have E3 := zaa.mk e3
  have e4 : wrap64 ((0 : Int) + 1) = 1 := by rw [w64 yq12 yq12]; rfl
  have E4 := zaa.mk e4; clear e3 e4
  have first : ∀ r, Ev (fun k => zaj.l0 k 1000000 (i : Int) ((c.toNat - 48 : Nat) : Int) 1 s ((i + 1 : Nat) : Int) false) r → Ev (fun k => zaj.l0 k 1000000 (i : Int) 0 0 s (i : Int) false) r := by
   intro r h
   refine Ev.step (fun k => by rw [zaj.l0, hbt]) ?_
   refine Ev.neg yq26 ?_
   refine Ev.pos yq12 ?_
   refine Ev.pos yq12 ?_
   refine Ev.pos yq12 ?_
   refine Ev.pos yq12 ?_
   refine Ev.pos rfl ?_
   refine Ev.step (fun k => by rw [zaj.j1, hbt, E3.out, E4.out, e2.out]) ?_
   refine Ev.pos rfl ?_
   refine Ev.pos yq12 ?_
   refine Ev.pos yq12 ?_
   refine Ev.pos yq12 ?_
   exact h
  by_cases h48 : c = 48
  ·
   rw [if_pos h48]
   have hz : ((c.toNat - 48 : Nat) : Int) = 0 := by rw [h48]; rfl
   have hfin : Ev (fun k => zaj.j1 k 1000000 (i : Int) 0 1 false s ((i + 1 : Nat) : Int) false) (0, s, ((i + 1 : Nat) : Int), false) :=
    (by refine Ev.step (fun k => by rw [zaj.j1]) ?_; refine Ev.neg yq26 ?_; refine Ev.neg yq12 ?_; refine Ev.neg yq12 ?_; exact Ev.now _)
   refine ⟨0, ((i + 1 : Nat) : Int), false, first _ ?_, fun v q h => ?_, fun h => by cases h⟩
   ·rw [hz]
    refine Ev.step (fun k => by rw [zaj.l0]) ?_
    refine Ev.neg yq26 ?_
    by_cases h2 : i + 1 < s.size
    ·refine Ev.pos yq12 (Ev.pos yq12 ?_)
     by_cases h3 : bt s ((i + 1 : Nat) : Int) ≥ 48
     ·refine Ev.pos h3 ?_
      by_cases h4 : bt s ((i + 1 : Nat) : Int) ≤ 57
      ·refine Ev.pos h4 (Ev.neg yq12 (Ev.pos yq12 (Ev.pos yq12 ?_)))
       have : (bt s (i : Int) != 48) = false := by rw [hbt, h48]; rfl
       rw [this]
       exact hfin
      exact Ev.neg h4 hfin
     exact Ev.neg h3 hfin
    exact Ev.neg yq12 hfin
   cases h
   exact ⟨rfl, rfl, i + 1, rfl, rfl, yq12, yq12⟩
  rw [if_neg h48]
  obtain ⟨m, j, b, h1, h2, h3⟩ := dig_l s hs i hlt c hbt h48 (s.size - (i + 1)) (i + 1) yq12 yq12 (c.toNat - 48) yq12
  have e5 : ((i + 1 - i : Nat) : Int) = 1 := by omega
  rw [e5] at h1
  have ev : valD ((c :: Lb s (i + 1)).takeWhile isDg) = ((Lb s (i + 1)).takeWhile isDg).foldl (fun n c => n * 10 + (c.toNat - 48)) (c.toNat - 48) := by
   rw [List.takeWhile_cons, if_pos hdt]
   unfold valD
   rw [List.foldl_cons]
   congr 1
   omega
  rw [ev, List.dropWhile_cons, if_pos hdt]
  refine ⟨m, j, b, first _ h1, fun v q h => ?_, fun h => ?_⟩
  ·split at h
   ·rename_i hle
    cases h
    obtain ⟨q1, q2, i', q3, q4, q5, q6⟩ := h2 ⟨yq12, hle⟩
    exact ⟨q1, q2, i', q3, q4, yq12, q6⟩
   cases h
  split at h
  ·cases h
  rename_i hle
  exact h3 (fun h' => hle h'.2)
 rw [Lb_end s i yq12]
 obtain ⟨j, hj⟩ := none_ (fun h => absurd h hlt)
 exact ⟨0, j, true, hj, fun v q h => (by cases h), fun _ => rfl⟩
theorem dig_b (s : ByteArray) (i : Int) : ∃ j, Ev (fun k => zaj.f k s i true 1000000) (0, s, j, true) := by
 obtain ⟨j, hj⟩ := fail_f s i i true
 unfold zaj.f
 exact ⟨j, (by refine Ev.step (fun k => by rw [zaj.l0]) ?_; refine Ev.pos rfl ?_; refine Ev.step (fun k => by rw [zaj.j1]) ?_; refine Ev.neg yq26 ?_; refine Ev.pos rfl ?_; refine Ev.bind (Ev.done hj) ?_; refine Ev.neg yq12 ?_; exact Ev.now _)⟩
def TestR (s : ByteArray) (i : Nat) (g : Nat → Option (Int × Int × Bool × Int × Int × ByteArray × Int × Bool)) (o : Option (List UInt8)) : Prop :=
 ∃ (a b : Int) (c : Bool) (d e j : Int) (bad : Bool), Ev g (a, b, c, d, e, s, j, bad) ∧ (∀ q, o = some q → bad = false ∧ ∃ i' : Nat, j = (i' : Int) ∧ Lb s i' = q ∧ i ≤ i' ∧ i' ≤ s.size) ∧ (o = none → bad = true)
theorem j3_b (s : ByteArray) (i0 : Nat) (i a b : Int) (c : Bool) (d e : Int) : TestR s i0 (fun k => zaq.j3 k s i true a b c d e) none := by
 obtain ⟨j1, h1⟩ := want_b s i 61
 obtain ⟨j2, h2⟩ := dig_b s j1
 exact ⟨_, _, _, _, _, _, _, (by refine Ev.step (fun k => by rw [zaq.j3]) ?_; refine Ev.bind (Ev.done (take_b s i 33)) ?_; refine Ev.bind (Ev.done h1) ?_; refine Ev.bind h2 ?_; refine Ev.bind (Ev.done (take_b s j2 46)) ?_; refine Ev.neg yq26 ?_; exact Ev.now _), fun q h => (by cases h), fun _ => rfl⟩
theorem TestR.ev {s : ByteArray} {i : Nat} {g g' : Nat → Option (Int × Int × Bool × Int × Int × ByteArray × Int × Bool)} {o : Option (List UInt8)} (h : TestR s i g o) (k : ∀ r, Ev g r → Ev g' r) : TestR s i g' o := by
 obtain ⟨a, b, c, d, e, j, bad, h1, h2⟩ := h
 exact ⟨a, b, c, d, e, j, bad, k _ h1, h2⟩
theorem TestR.le {s : ByteArray} {i i0 : Nat} {g : Nat → Option (Int × Int × Bool × Int × Int × ByteArray × Int × Bool)} {o : Option (List UInt8)} (h : TestR s i g o) (hi : i0 ≤ i) : TestR s i0 g o := by
 obtain ⟨a, b, c, d, e, j, bad, h1, h2, h3⟩ := h
 refine ⟨a, b, c, d, e, j, bad, h1, fun q hq => ?_, h3⟩
 obtain ⟨q1, i', q2, q3, q4, q5⟩ := h2 q hq
 exact ⟨q1, i', q2, q3, yq12, q5⟩
theorem j3_q (s : ByteArray) (hs : s.size ≤ 1099511627776) (i : Nat) (hi : i ≤ s.size) (a b : Int) (c : Bool) (d e : Int) : TestR s i (fun k => zaq.j3 k s (i : Int) false a b c d e) (pEq (Lb s i)) := by
 obtain ⟨i1, a1, a2, a3, a4⟩ := take_q s hs i hi 33
 replace a1 : zaw.f s (i : Int) false 33 = _ := a1
 obtain ⟨j2, b1, b2⟩ := want_q s hs i1 a4 61
 replace b1 : zaS.f s (i1 : Int) false 61 = _ := b1
 rw [a2] at b1 b2
 unfold pEq
 cases hw : (pOpt 61 (pOpt 33 (Lb s i)).2).1 with
 | false =>
  rw [hw] at b1
  obtain ⟨j3, h3⟩ := dig_b s j2
  rw [if_neg yq26]
  exact ⟨_, _, _, _, _, _, _, (by refine Ev.step (fun k => by rw [zaq.j3]) ?_; refine Ev.bind (Ev.done a1) ?_; refine Ev.bind (Ev.done b1) ?_; refine Ev.bind h3 ?_; refine Ev.bind (Ev.done (take_b s j3 46)) ?_; refine Ev.neg yq26 ?_; exact Ev.now _), fun q h => (by cases h), fun _ => rfl⟩
 | true =>
  rw [hw] at b1 b2
  obtain ⟨i2, rfl, b3, b4, b5⟩ := b2 rfl
  rw [if_pos rfl, ← b3]
  obtain ⟨m, j3, bd, c1, c2, c3⟩ := dig_q s hs i2 b5
  cases hp : pNum (Lb s i2) with
  | none =>
   have := c3 hp
   subst this
   exact ⟨_, _, _, _, _, _, _, (by refine Ev.step (fun k => by rw [zaq.j3]) ?_; refine Ev.bind (Ev.done a1) ?_; refine Ev.bind (Ev.done b1) ?_; refine Ev.bind c1 ?_; refine Ev.bind (Ev.done (take_b s j3 46)) ?_; refine Ev.neg yq26 ?_; exact Ev.now _), fun q h => (by cases h), fun _ => rfl⟩
  | some p =>
   obtain ⟨v, q⟩ := p
   obtain ⟨rfl, rfl, i3, rfl, c4, c5, c6⟩ := c2 v q hp
   subst c4
   show TestR s i _ (pHigh (Lb s i3))
   obtain ⟨i4, d1, d2, d3, d4⟩ := take_q s hs i3 c6 46
   replace d1 : zaw.f s (i3 : Int) false 46 = _ := d1
   unfold pHigh
   cases ht : (pOpt 46 (Lb s i3)).1 with
   | false =>
    rw [ht] at d1
    rw [if_neg yq26]
    refine ⟨_, _, _, _, _, _, _, (by refine Ev.step (fun k => by rw [zaq.j3]) ?_; refine Ev.bind (Ev.done a1) ?_; refine Ev.bind (Ev.done b1) ?_; refine Ev.bind c1 ?_; refine Ev.bind (Ev.done d1) ?_; refine Ev.neg yq26 ?_; exact Ev.now _), fun q h => ?_, fun h => by cases h⟩
    cases h
    refine ⟨rfl, i4, rfl, ?_, yq12, d4⟩
    rw [d2]
    exact pOpt_no ht
   | true =>
    rw [ht] at d1
    rw [if_pos rfl]
    obtain ⟨j5, e1, e2⟩ := want_q s hs i4 d4 46
    replace e1 : zaS.f s (i4 : Int) false 46 = _ := e1
    rw [d2] at e1 e2
    cases hw2 : (pOpt 46 (pOpt 46 (Lb s i3)).2).1 with
    | false =>
     rw [hw2] at e1
     rw [if_neg yq26]
     obtain ⟨j6, h6⟩ := dig_b s j5
     exact ⟨_, _, _, _, _, _, _, (by refine Ev.step (fun k => by rw [zaq.j3]) ?_; refine Ev.bind (Ev.done a1) ?_; refine Ev.bind (Ev.done b1) ?_; refine Ev.bind c1 ?_; refine Ev.bind (Ev.done d1) ?_; refine Ev.pos rfl ?_; refine Ev.bind (Ev.done e1) ?_; refine Ev.bind h6 ?_; exact Ev.now _), fun q h => (by cases h), fun _ => rfl⟩
    | true =>
     rw [hw2] at e1 e2
     rw [if_pos rfl]
     obtain ⟨i5, rfl, e3, e4, e5⟩ := e2 rfl
     rw [← e3]
     obtain ⟨m2, j6, bd2, f1, f2, f3⟩ := dig_q s hs i5 e5
     refine ⟨_, _, _, _, _, _, _, (by refine Ev.step (fun k => by rw [zaq.j3]) ?_; refine Ev.bind (Ev.done a1) ?_; refine Ev.bind (Ev.done b1) ?_; refine Ev.bind c1 ?_; refine Ev.bind (Ev.done d1) ?_; refine Ev.pos rfl ?_; refine Ev.bind (Ev.done e1) ?_; refine Ev.bind f1 ?_; exact Ev.now _), fun q h => ?_, fun h => ?_⟩
     ·cases hp2 : pNum (Lb s i5) with
      | none => rw [hp2] at h; cases h
      | some p2 =>
       obtain ⟨v2, q2⟩ := p2
       rw [hp2] at h
       cases h
       obtain ⟨g1, g2, i6, g3, g4, g5, g6⟩ := f2 _ _ hp2
       exact ⟨g1, i6, g3, g4, yq12, g6⟩
     cases hp2 : pNum (Lb s i5) with
     | none => exact f3 hp2
     | some p2 => rw [hp2] at h; cases h
theorem j2_q (s : ByteArray) (hs : s.size ≤ 1099511627776) (i : Nat) (hi : i ≤ s.size) (a b : Int) (c : Bool) (d e : Int) : TestR s i (fun k => zaq.j2 k s (i : Int) false a b c d e) (match pMod (Lb s i) with | none => none | some q => pEq q) := by
 obtain ⟨i1, a1, a2, a3, a4⟩ := take_q s hs i hi 37
 replace a1 : zaw.f s (i : Int) false 37 = _ := a1
 unfold pMod
 cases ht : (pOpt 37 (Lb s i)).1 with
 | false =>
  rw [ht] at a1
  rw [if_neg yq26]
  have e2 : Lb s i1 = Lb s i := by
   rw [a2]
   exact pOpt_no ht
  show TestR s i _ (pEq (Lb s i))
  rw [← e2]
  exact ((j3_q s hs i1 a4 a b c d e).le a3).ev fun r h => (by refine Ev.step (fun k => by rw [zaq.j2]) ?_; refine Ev.bind (Ev.done a1) ?_; refine Ev.neg yq26 ?_; exact h)
 | true =>
  rw [ht] at a1
  rw [if_pos rfl, ← a2]
  obtain ⟨m, j3, bd, c1, c2, c3⟩ := dig_q s hs i1 a4
  have zero : ∀ (m j : Int) (bd : Bool), Ev (fun k => zaj.f k s (i1 : Int) false 1000000) (m, s, j, bd) → (m = 0 ∨ bd = true) → TestR s i (fun k => zaq.j2 k s (i : Int) false a b c d e) none := by
   intro m j bd hev hor
   by_cases hm : m = 0
   ·obtain ⟨j4, h4⟩ := fail_f s j j bd
    exact (j3_b s i j4 a m c d e).ev fun r h => (by refine Ev.step (fun k => by rw [zaq.j2]) ?_; refine Ev.bind (Ev.done a1) ?_; refine Ev.pos rfl ?_; refine Ev.bind hev ?_; refine Ev.pos hm ?_; refine Ev.bind (Ev.done h4) ?_; exact h)
   have hb : bd = true := by
    rcases hor with h | h
    ·exact absurd h hm
    exact h
   subst hb
   exact (j3_b s i j a m c d e).ev fun r h => (by refine Ev.step (fun k => by rw [zaq.j2]) ?_; refine Ev.bind (Ev.done a1) ?_; refine Ev.pos rfl ?_; refine Ev.bind hev ?_; refine Ev.neg hm ?_; exact h)
  cases hp : pNum (Lb s i1) with
  | none => exact zero m j3 bd c1 (.inr (c3 hp))
  | some p =>
   obtain ⟨v, q⟩ := p
   obtain ⟨rfl, rfl, i3, rfl, c4, c5, c6⟩ := c2 v q hp
   show TestR s i _ (match (if v = 0 then none else some q) with | none => none | some q => pEq q)
   by_cases hv : v = 0
   ·rw [if_pos hv]
    exact zero (v : Int) (i3 : Int) false c1 (.inl yq12)
   rw [if_neg hv]
   show TestR s i _ (pEq q)
   rw [← c4]
   exact ((j3_q s hs i3 c6 a (v : Int) c d e).le yq12).ev fun r h => (by refine Ev.step (fun k => by rw [zaq.j2]) ?_; refine Ev.bind (Ev.done a1) ?_; refine Ev.pos rfl ?_; refine Ev.bind c1 ?_; refine Ev.neg yq12 ?_; exact h)
theorem j2_b (s : ByteArray) (i0 : Nat) (i a b : Int) (c : Bool) (d e : Int) : TestR s i0 (fun k => zaq.j2 k s i true a b c d e) none :=
 (j3_b s i0 i a b c d e).ev fun r h => (by refine Ev.step (fun k => by rw [zaq.j2]) ?_; refine Ev.bind (Ev.done (take_b s i 37)) ?_; refine Ev.neg yq26 ?_; exact h)
theorem test_q (s : ByteArray) (hs : s.size ≤ 1099511627776) (i : Nat) (hi : i ≤ s.size) : TestR s i (fun k => zaq.f k s (i : Int) false) (pTest (Lb s i)) := by
 unfold zaq.f
 have bts : ∀ t : Nat, t < 4 → bt (⟨#[105, 102, 118, 110]⟩ : ByteArray) (t : Int) = (([105, 102, 118, 110] : List UInt8).getD t 0).toNat := by
  intro t ht
  have : t = 0 ∨ t = 1 ∨ t = 2 ∨ t = 3 := by omega
  rcases this with rfl | rfl | rfl | rfl <;> rfl
 have go : ∀ (d t : Nat), t + d = 4 → (∀ u, u < t → (pOpt (([105, 102, 118, 110] : List UInt8).getD u 0) (Lb s i)).1 = false) → TestR s i (fun k => zaq.l0 k (t : Int) s (i : Int) false 0 0 false 0 0) (pTest (Lb s i)) := by
  intro d
  induction d with
  | zero =>
   intro t ht hno
   have hn : pTest (Lb s i) = none := by
    cases hL : Lb s i with
    | nil => rfl
    | cons c r =>
     show (if isOf c = true then _ else none) = none
     rw [if_neg]
     intro ho
     rw [hL] at hno
     have h0 := hno 0 yq12
     have h1 := hno 1 yq12
     have h2 := hno 2 yq12
     have h3 := hno 3 yq12
     have key : ∀ b : UInt8, (pOpt b (c :: r)).1 = false → c ≠ b := by
      intro b hb e
      unfold pOpt at hb
      simp only [e, if_true] at hb
      cases hb
     unfold isOf at ho
     simp only [Bool.or_eq_true, beq_iff_eq] at ho
     rcases ho with ((h | h) | h) | h
     ·exact key 105 h0 h
     ·exact key 102 h1 h
     ·exact key 118 h2 h
     exact key 110 h3 h
   rw [hn]
   obtain ⟨j, hj⟩ := fail_f s (i : Int) (i : Int) false
   exact (j2_b s i j 0 0 false 0 0).ev fun r h => (by refine Ev.step (fun k => by rw [zaq.l0]) ?_; refine Ev.neg yq12 ?_; refine Ev.step (fun k => by rw [zaq.j1]) ?_; refine Ev.pos rfl ?_; refine Ev.bind (Ev.done hj) ?_; exact h)
  | succ d ih =>
   intro t ht hno
   obtain ⟨i1, a1, a2, a3, a4⟩ := take_q s hs i hi (([105, 102, 118, 110] : List UInt8).getD t 0)
   rw [← bts t yq12] at a1
   cases hb : (pOpt (([105, 102, 118, 110] : List UInt8).getD t 0) (Lb s i)).1 with
   | true =>
    rw [hb] at a1
    have hne : bt (⟨#[105, 102, 118, 110]⟩ : ByteArray) (t : Int) ≠ 0 := by
     have : t = 0 ∨ t = 1 ∨ t = 2 ∨ t = 3 := by omega
     rcases this with rfl | rfl | rfl | rfl <;> (intro h; cases h)
    have hp : pTest (Lb s i) = (match pMod (Lb s i1) with | none => none | some q => pEq q) := by
     cases hL : Lb s i with
     | nil => rw [hL] at hb; cases hb
     | cons c r =>
      rw [hL] at hb a2
      unfold pOpt at hb a2
      by_cases he : c = ([105, 102, 118, 110] : List UInt8).getD t 0
      ·have e2 : Lb s i1 = r := by rw [a2]; simp only [he, if_true]
       have ho : isOf c = true := by
        rw [he]
        have : t = 0 ∨ t = 1 ∨ t = 2 ∨ t = 3 := by omega
        rcases this with rfl | rfl | rfl | rfl <;> rfl
       rw [e2]
       show (if isOf c = true then _ else none) = _
       rw [if_pos ho]
       rfl
      simp only [he, if_false] at hb
      cases hb
    rw [hp]
    exact ((j2_q s hs i1 a4 (bt (⟨#[105, 102, 118, 110]⟩ : ByteArray) (t : Int)) 0 false 0 0).le a3).ev fun r h => (by refine Ev.step (fun k => by rw [zaq.l0]) ?_; refine Ev.pos yq12 ?_; refine Ev.pos yq12 ?_; refine Ev.bind (Ev.done a1) ?_; refine Ev.pos rfl ?_; refine Ev.step (fun k => by rw [zaq.j1]) ?_; refine Ev.neg hne ?_; exact h)
   | false =>
    rw [hb] at a1
    have e2 : i1 = i := by
     have hl : (Lb s i1).length = (Lb s i).length := by
      rw [a2, pOpt_no hb]
     rw [Lb_len, Lb_len] at hl
     omega
    subst e2
    have e3 := zaa.mk (w_succ t yq12)
    exact (ih (t + 1) yq12 (fun u hu => by
     rcases Nat.lt_or_eq_of_le (Nat.le_of_lt_succ hu) with h | rfl
     ·exact hno u h
     exact hb)).ev fun r h => (by refine Ev.step (fun k => by rw [zaq.l0, e3.out]) ?_; refine Ev.pos yq12 ?_; refine Ev.pos yq12 ?_; refine Ev.bind (Ev.done a1) ?_; refine Ev.neg yq26 ?_; exact h)
 exact go 4 0 rfl (fun u hu => absurd hu yq12)
end Go.Proofs.YtfafjbolmeimmaaGreatDoor.P
