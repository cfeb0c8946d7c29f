/- Parts of a proof: words of the print tool that this claim uses, or plain lists. -/
import Derived.Test.YtfafjbolmeimmaaGreatDoorAb
import Derived.Test.YtfafjbolmeimmaaGreatDoorF7
import Derived.Test.YtfafjbolmeimmaaGreatDoorJ16
import Derived.Test.YtfafjbolmeimmaaGreatDoorF13
import Derived.Test.YtfafjbolmeimmaaGreatDoorJ15
import Derived.Test.YtfafjbolmeimmaaGreatDoorF6
import Derived.Test.YtfafjbolmeimmaaGreatDoorF8
namespace Go.Proofs.YtfafjbolmeimmaaGreatDoor.P
open Go.RowKit Go.Proofs.YtfafjbolmeimmaaGreatDoorW.PrintWords Go.Proofs.YtfafjbolmeimmaaGreatDoorW.PrintLast Go.Proofs.YtfafjbolmeimmaaGreatDoorW.PrintMore
set_option linter.unusedVariables false
set_option linter.unusedSimpArgs false
def impl_RuleFault.f (a0 : ByteArray) : Option Int := if a0.size ≤ 1099511627776 then some (if (whenI a0.data.toList).isSome = true then 0 else 1) else none
set_option maxHeartbeats 4000000 in
theorem impl_RuleFault.calls (a0 : ByteArray) (r : Int) (w : World) (hG : GT w) (h : impl_RuleFault.f a0 = some r) :
  Calls Tryz.prog 47 #[.string a0] w fun e w' => e = .returned (.int .i64 r) ∧ Below w.heap.size w w' := by
 unfold impl_RuleFault.f at h
 split at h
 case isFalse => cases h
 rename_i hs
 have hr := Option.some.inj h
 have HW := zaa.mk (when_calls a0.data.toList w hG (show a0.data.toList.length ≤ _ from by rw [Array.length_toList]; exact hs))
 rw [bs_self] at HW
 clear h hs hG
 go_enter Tryz.func47, Tryz.ntmps47
 go_wp2_with (fail)
 refine HW.out.mono ?_
 rintro e w1 ⟨v, rfl, hR, hb⟩
 have HB := zaa.mk hb; clear hR hb HW
 cases hw : (whenI a0.data.toList).isSome with
 | true =>
  rw [hw, if_pos rfl] at hr
  subst hr
  go_wp2
  go_ret
  exact ⟨rfl, HB.out⟩
 | false =>
  rw [hw, if_neg yq27] at hr
  subst hr
  go_wp2
  go_ret
  exact ⟨rfl, HB.out⟩
end Go.Proofs.YtfafjbolmeimmaaGreatDoor.P
namespace Go.Proofs.YtfafjbolmeimmaaGreatDoor.P
open Go.RowKit Go.Proofs.YtfafjbolmeimmaaGreatDoorW.PrintWords
set_option linter.unusedVariables false
def Lb (s : ByteArray) (i : Nat) : List UInt8 := s.data.toList.drop i
theorem Lb_len (s : ByteArray) (i : Nat) : (Lb s i).length = s.size - i := by
 unfold Lb
 rw [List.length_drop, Array.length_toList]
 rfl
theorem Lb_at (s : ByteArray) (i : Nat) (h : i < s.size) : ∃ c : UInt8, Lb s i = c :: Lb s (i + 1) ∧ bt s (i : Int) = (c.toNat : Int) := by
 have hl : i < s.data.toList.length := by rw [Array.length_toList]; exact h
 refine ⟨s.data.toList[i], by unfold Lb; exact List.drop_eq_getElem_cons hl, ?_⟩
 unfold bt
 rw [Int.toNat_natCast, dif_pos h]
 simp
 rfl
theorem Lb_end (s : ByteArray) (i : Nat) (h : s.size ≤ i) : Lb s i = [] := List.eq_nil_of_length_eq_zero (by rw [Lb_len]; omega)
theorem u8_eq {c b : UInt8} : c = b ↔ c.toNat = b.toNat := ⟨fun h => h ▸ rfl, fun h => UInt8.toNat_inj.1 h⟩
theorem pOpt_no {b : UInt8} {l : List UInt8} (h : (pOpt b l).1 = false) : (pOpt b l).2 = l := by
 cases l with
 | nil => rfl
 | cons c r =>
  have e : pOpt b (c :: r) = if c = b then (true, r) else (false, c :: r) := rfl
  rw [e] at h ⊢
  by_cases hc : c = b
  ·rw [if_pos hc] at h; cases h
  rw [if_neg hc]
theorem take_q (s : ByteArray) (hs : s.size ≤ 1099511627776) (i : Nat) (hi : i ≤ s.size) (c : UInt8) : ∃ i' : Nat, zar.f s (i : Int) false (c.toNat : Int) = some ((pOpt c (Lb s i)).1, s, (i' : Int), false) ∧ Lb s i' = (pOpt c (Lb s i)).2 ∧ i ≤ i' ∧ i' ≤ s.size := by
 unfold zar.f spec_l04Reader_is.f
 rw [if_neg yq27]
 by_cases h : i < s.size
 ·obtain ⟨b, hb, hbt⟩ := Lb_at s i h
  rw [if_pos yq10, if_pos yq10, hbt, hb]
  show ∃ i' : Nat, (if ((b.toNat : Int) == (c.toNat : Int)) = true then some (true, s, wrap64 ((i : Int) + 1), false) else some (false, s, (i : Int), false)) = some ((if b = c then (true, Lb s (i + 1)) else (false, b :: Lb s (i + 1))).1, s, (i' : Int), false) ∧ Lb s i' = (if b = c then (true, Lb s (i + 1)) else (false, b :: Lb s (i + 1))).2 ∧ i ≤ i' ∧ i' ≤ s.size
  by_cases e : b = c
  ·have e2 : ((b.toNat : Int) == (c.toNat : Int)) = true := by rw [e]; simp
   rw [if_pos e2, if_pos e, w_succ i yq10]
   exact ⟨i + 1, rfl, rfl, yq10, yq10⟩
  have e2 : ((b.toNat : Int) == (c.toNat : Int)) = false := beq_eq_false_iff_ne.2 (fun h => e (u8_eq.2 yq10))
  rw [if_neg (by rw [e2]; simp), if_neg e]
  exact ⟨i, rfl, hb, yq10, yq10⟩
 rw [if_neg yq10, Lb_end s i yq10]
 exact ⟨i, rfl, Lb_end s i yq10, yq10, yq10⟩
theorem take_b (s : ByteArray) (i c : Int) : zar.f s i true c = some (false, s, i, true) := by
 unfold zar.f spec_l04Reader_is.f
 rw [if_pos rfl]
 rfl
theorem fail_f (s : ByteArray) (i a : Int) (b : Bool) : ∃ i', zat.f s i b a = some (s, i', true) := by
 unfold zat.f
 cases b with
 | true => exact ⟨i, by rw [if_pos rfl]⟩
 | false => exact ⟨a, by rw [if_neg yq27]⟩
theorem want_q (s : ByteArray) (hs : s.size ≤ 1099511627776) (i : Nat) (hi : i ≤ s.size) (c : UInt8) : ∃ j : Int, zaG.f s (i : Int) false (c.toNat : Int) = some (s, j, !(pOpt c (Lb s i)).1) ∧ ((pOpt c (Lb s i)).1 = true → ∃ i' : Nat, j = (i' : Int) ∧ Lb s i' = (pOpt c (Lb s i)).2 ∧ i ≤ i' ∧ i' ≤ s.size) := by
 obtain ⟨i', h1, h2, h3, h4⟩ := take_q s hs i hi c
 unfold zaG.f
 rw [h1]
 cases hb : (pOpt c (Lb s i)).1 with
 | true => exact ⟨i', yq38, fun _ => ⟨i', rfl, h2, h3, h4⟩⟩
 | false =>
  obtain ⟨j, hj⟩ := fail_f s (i' : Int) (i' : Int) false
  refine ⟨j, ?_, fun h => by cases h⟩
  show (if false = true then some (s, (i' : Int), false) else (zat.f s (i' : Int) false (i' : Int)).bind fun bt118 => some (bt118.1, bt118.2.1, bt118.2.2)) = _
  rw [if_neg yq27, hj]
  rfl
theorem want_b (s : ByteArray) (i c : Int) : ∃ j, zaG.f s i true c = some (s, j, true) := by
 obtain ⟨j, hj⟩ := fail_f s i i true
 refine ⟨j, ?_⟩
 unfold zaG.f
 rw [take_b]
 show (if false = true then some (s, i, true) else (zat.f s i true i).bind fun bt118 => some (bt118.1, bt118.2.1, bt118.2.2)) = _
 rw [if_neg yq27, hj]
 rfl
theorem dg_toNat (c : UInt8) : isDg c = true ↔ 48 ≤ c.toNat ∧ c.toNat ≤ 57 := by unfold isDg; exact decide_eq_true_iff
theorem dig_l (s : ByteArray) (hs : s.size ≤ 1099511627776) (a : Nat) (ha : a < s.size) (c0 : UInt8) (hc0 : bt s (a : Int) = (c0.toNat : Int)) (h48 : c0 ≠ 48) :
  ∀ (d i : Nat), i + d = s.size → a < i → ∀ n : Nat, n ≤ 10000009 →
   ∃ (m : Int) (j : Int) (b : Bool), Ev (fun k => zai.l0 k 1000000 (a : Int) (n : Int) ((i - a : Nat) : Int) s (i : Int) false) (m, s, j, b) ∧
    ((n ≤ 1000000 ∧ ((Lb s i).takeWhile isDg).foldl (fun n c => n * 10 + (c.toNat - 48)) n ≤ 1000000 → b = false ∧ m = ((((Lb s i).takeWhile isDg).foldl (fun n c => n * 10 + (c.toNat - 48)) n : Nat) : Int) ∧ ∃ i' : Nat, j = (i' : Int) ∧ Lb s i' = (Lb s i).dropWhile isDg ∧ i ≤ i' ∧ i' ≤ s.size)
     ∧ (¬ (n ≤ 1000000 ∧ ((Lb s i).takeWhile isDg).foldl (fun n c => n * 10 + (c.toNat - 48)) n ≤ 1000000) → b = true)) := by
 have stop : ∀ (i n : Nat), a < i → i ≤ s.size → n ≤ 10000009 → (Lb s i).takeWhile isDg = [] → (Lb s i).dropWhile isDg = Lb s i → ∃ (m : Int) (j : Int) (b : Bool), Ev (fun k => zai.j1 k 1000000 (a : Int) (n : Int) ((i - a : Nat) : Int) false s (i : Int) false) (m, s, j, b) ∧
    ((n ≤ 1000000 ∧ ((Lb s i).takeWhile isDg).foldl (fun n c => n * 10 + (c.toNat - 48)) n ≤ 1000000 → b = false ∧ m = ((((Lb s i).takeWhile isDg).foldl (fun n c => n * 10 + (c.toNat - 48)) n : Nat) : Int) ∧ ∃ i' : Nat, j = (i' : Int) ∧ Lb s i' = (Lb s i).dropWhile isDg ∧ i ≤ i' ∧ i' ≤ s.size)
     ∧ (¬ (n ≤ 1000000 ∧ ((Lb s i).takeWhile isDg).foldl (fun n c => n * 10 + (c.toNat - 48)) n ≤ 1000000) → b = true)) := by
  intro i n hai hi hn ht hd
  rw [ht, hd]
  by_cases hm : n ≤ 1000000
  ·refine ⟨(n : Int), (i : Int), false, ?_, fun _ => ⟨rfl, rfl, i, rfl, rfl, Nat.le_refl _, hi⟩, fun h => absurd ⟨hm, hm⟩ h⟩
   refine Ev.step (fun k => by rw [zai.j1]) ?_
   refine Ev.neg yq27 ?_
   refine Ev.neg yq10 ?_
   refine Ev.neg yq10 ?_
   exact Ev.now _
  obtain ⟨j, hj⟩ := fail_f s (i : Int) (a : Int) false
  refine ⟨(n : Int), j, true, ?_, fun h => absurd h.1 hm, fun _ => rfl⟩
  refine Ev.step (fun k => by rw [zai.j1]) ?_
  refine Ev.neg yq27 ?_
  refine Ev.neg yq10 ?_
  refine Ev.pos yq10 ?_
  refine Ev.bind (Ev.done hj) ?_
  exact Ev.now _
 intro d
 induction d with
 | zero =>
  intro i hi hai n hn
  have hL := Lb_end s i yq10
  obtain ⟨m, j, b, h1, h2⟩ := stop i n hai yq10 hn (by rw [hL]; rfl) (by rw [hL]; rfl)
  exact ⟨m, j, b, (by refine Ev.step (fun k => by rw [zai.l0]) ?_; refine Ev.neg yq27 ?_; refine Ev.neg yq10 ?_; exact h1), h2⟩
 | succ d ih =>
  intro i hi hai n hn
  obtain ⟨c, hc, hbt⟩ := Lb_at s i yq10
  have hcl : c.toNat < 256 := c.toNat_lt
  have hi0 : ((i - a : Nat) : Int) ≠ 0 := by omega
  by_cases hd : isDg c = true
  ·have hdg := (dg_toNat c).1 hd
   have hc48 : c0.toNat ≠ 48 := fun h => h48 (u8_eq.2 h)
   have e1 : wrap64 (((i - a : Nat) : Int) + 1) = ((i + 1 - a : Nat) : Int) := by rw [w64 yq10 yq10]; omega
   have e2 := zaa.mk (w_succ i yq10)
   have E1 := zaa.mk e1; clear e1
   have hne : (((c0.toNat : Int)) != 48) = true := bne_iff_ne.2 yq10
   rw [hc, List.takeWhile_cons, if_pos hd, List.dropWhile_cons, if_pos hd, List.foldl_cons]
   by_cases hm : n ≤ 1000000
   ·have e3 : wrap64 (wrap64 (10 * (n : Int)) + ((c.toNat : Int) - 48) % 256) = ((n * 10 + (c.toNat - 48) : Nat) : Int) := by
     rw [w64 (x := 10 * (n : Int)) yq10 yq10, w64 yq10 yq10]
     omega
    have E3 := zaa.mk e3; clear e3
    obtain ⟨m, j, b, h1, h2, h3⟩ := ih (i + 1) yq10 yq10 (n * 10 + (c.toNat - 48)) yq10
    have hge := fold_ge ((Lb s (i + 1)).takeWhile isDg) (n * 10 + (c.toNat - 48))
    refine ⟨m, j, b, ?_, fun h => ?_, fun h => ?_⟩
    ·refine Ev.step (fun k => by rw [zai.l0, hbt, hc0]) (Ev.neg yq27 (Ev.pos yq10 (Ev.pos yq10 (Ev.pos yq10 (Ev.pos yq10 (Ev.neg hi0 (Ev.pos yq10 (Ev.pos yq10 ?_))))))))
     rw [hne]
     refine Ev.step (fun k => by rw [zai.j1, hbt, E3.out, E1.out, e2.out]) ?_
     refine Ev.pos rfl ?_
     refine Ev.pos yq10 ?_
     refine Ev.pos yq10 ?_
     refine Ev.pos yq10 ?_
     exact h1
    ·obtain ⟨q1, q2, i', q3, q4, q5, q6⟩ := h2 ⟨yq10, h.2⟩
     exact ⟨q1, q2, i', q3, q4, yq10, q6⟩
    exact h3 (fun h' => h ⟨hm, h'.2⟩)
   obtain ⟨m, j, b, h1, h2, h3⟩ := ih (i + 1) yq10 yq10 n hn
   refine ⟨m, j, b, ?_, fun h => absurd h.1 hm, fun _ => h3 (fun h' => hm h'.1)⟩
   refine Ev.step (fun k => by rw [zai.l0, hbt, hc0]) ?_
   refine Ev.neg yq27 ?_
   refine Ev.pos yq10 ?_
   refine Ev.pos yq10 ?_
   refine Ev.pos yq10 ?_
   refine Ev.pos yq10 ?_
   refine Ev.neg hi0 ?_
   refine Ev.pos yq10 ?_
   refine Ev.pos yq10 ?_
   rw [hne]
   refine Ev.step (fun k => by rw [zai.j1, E1.out, e2.out]) ?_
   refine Ev.pos rfl ?_
   refine Ev.neg yq10 ?_
   exact h1
  have hdf : isDg c = false := by simpa using hd
  obtain ⟨m, j, b, h1, h2⟩ := stop i n hai yq10 hn (by rw [hc, List.takeWhile_cons, hdf]; rfl) (by rw [hc, List.dropWhile_cons, hdf]; rfl)
  refine ⟨m, j, b, ?_, h2⟩
  refine Ev.step (fun k => by rw [zai.l0, hbt]) ?_
  refine Ev.neg yq27 ?_
  refine Ev.pos yq10 ?_
  refine Ev.pos yq10 ?_
  by_cases h1' : 48 ≤ c.toNat
  ·exact Ev.pos yq10 (Ev.neg (fun h => hd ((dg_toNat c).2 ⟨h1', yq10⟩)) h1)
  exact Ev.neg yq10 h1
theorem dig_q (s : ByteArray) (hs : s.size ≤ 1099511627776) (i : Nat) (hi : i ≤ s.size) : ∃ (m j : Int) (b : Bool), Ev (fun k => zai.f k s (i : Int) false 1000000) (m, s, j, b) ∧
  (∀ v q, pNum (Lb s i) = some (v, q) → b = false ∧ m = (v : Int) ∧ ∃ i' : Nat, j = (i' : Int) ∧ Lb s i' = q ∧ i ≤ i' ∧ i' ≤ s.size) ∧ (pNum (Lb s i) = none → b = true) := by
 unfold zai.f
 have none_ : (i < s.size → (bt s (i : Int) < 48 ∨ 57 < bt s (i : Int))) → ∃ j : Int, Ev (fun k => zai.l0 k 1000000 (i : Int) 0 0 s (i : Int) false) (0, s, j, true) := by
  intro h
  obtain ⟨j, hj⟩ := fail_f s (i : Int) (i : Int) false
  refine ⟨j, ?_⟩
  have hj1 : Ev (fun k => zai.j1 k 1000000 (i : Int) 0 0 false s (i : Int) false) (0, s, j, true) :=
   (by refine Ev.step (fun k => by rw [zai.j1]) ?_; refine Ev.neg yq27 ?_; refine Ev.pos rfl ?_; refine Ev.bind (Ev.done hj) ?_; refine Ev.neg yq10 ?_; exact Ev.now _)
  refine Ev.step (fun k => by rw [zai.l0]) ?_
  refine Ev.neg yq27 ?_
  by_cases hlt : i < s.size
  ·refine Ev.pos yq10 (Ev.pos yq10 ?_)
   rcases h hlt with h | h
   ·exact Ev.neg yq10 hj1
   exact Ev.pos yq10 (Ev.neg yq10 hj1)
  exact Ev.neg yq10 hj1
 by_cases hlt : i < s.size
 ·obtain ⟨c, hc, hbt⟩ := Lb_at s i hlt
  have hcl : c.toNat < 256 := c.toNat_lt
  rw [hc, pNum_cons]
  by_cases hd : isDg c = false
  ·rw [if_pos hd]
   obtain ⟨j, hj⟩ := none_ (fun _ => by
    rw [hbt]
    have : ¬ (48 ≤ c.toNat ∧ c.toNat ≤ 57) := fun h => by rw [(dg_toNat c).2 h] at hd; cases hd
    omega)
   exact ⟨0, j, true, hj, fun v q h => (by cases h), fun _ => rfl⟩
  rw [if_neg hd]
  have hdg := (dg_toNat c).1 (by simpa using hd)
  have hdt : isDg c = true := (dg_toNat c).2 hdg
  have e2 := zaa.mk (w_succ i yq10)
  have e3 : wrap64 (wrap64 (10 * (0 : Int)) + ((c.toNat : Int) - 48) % 256) = ((c.toNat - 48 : Nat) : Int) := by
   rw [w64 (x := 10 * (0 : Int)) yq10 yq10, w64 yq10 yq10]
   omega
  have E3 := zaa.mk e3
  have e4 : wrap64 ((0 : Int) + 1) = 1 := by rw [w64 yq10 yq10]; rfl
  have E4 := zaa.mk e4; clear e3 e4
  have first : ∀ r, Ev (fun k => zai.l0 k 1000000 (i : Int) ((c.toNat - 48 : Nat) : Int) 1 s ((i + 1 : Nat) : Int) false) r → Ev (fun k => zai.l0 k 1000000 (i : Int) 0 0 s (i : Int) false) r := by
   intro r h
   refine Ev.step (fun k => by rw [zai.l0, hbt]) ?_
   refine Ev.neg yq27 ?_
   refine Ev.pos yq10 ?_
   refine Ev.pos yq10 ?_
   refine Ev.pos yq10 ?_
   refine Ev.pos yq10 ?_
   refine Ev.pos rfl ?_
   refine Ev.step (fun k => by rw [zai.j1, hbt, E3.out, E4.out, e2.out]) ?_
   refine Ev.pos rfl ?_
   refine Ev.pos yq10 ?_
   refine Ev.pos yq10 ?_
   refine Ev.pos yq10 ?_
   exact h
  by_cases h48 : c = 48
  ·
   rw [if_pos h48]
   have hz : ((c.toNat - 48 : Nat) : Int) = 0 := by rw [h48]; rfl
   have hfin : Ev (fun k => zai.j1 k 1000000 (i : Int) 0 1 false s ((i + 1 : Nat) : Int) false) (0, s, ((i + 1 : Nat) : Int), false) :=
    (by refine Ev.step (fun k => by rw [zai.j1]) ?_; refine Ev.neg yq27 ?_; refine Ev.neg yq10 ?_; refine Ev.neg yq10 ?_; exact Ev.now _)
   refine ⟨0, ((i + 1 : Nat) : Int), false, first _ ?_, fun v q h => ?_, fun h => by cases h⟩
   ·rw [hz]
    refine Ev.step (fun k => by rw [zai.l0]) ?_
    refine Ev.neg yq27 ?_
    by_cases h2 : i + 1 < s.size
    ·refine Ev.pos yq10 (Ev.pos yq10 ?_)
     by_cases h3 : bt s ((i + 1 : Nat) : Int) ≥ 48
     ·refine Ev.pos h3 ?_
      by_cases h4 : bt s ((i + 1 : Nat) : Int) ≤ 57
      ·refine Ev.pos h4 (Ev.neg yq10 (Ev.pos yq10 (Ev.pos yq10 ?_)))
       have : (bt s (i : Int) != 48) = false := by rw [hbt, h48]; rfl
       rw [this]
       exact hfin
      exact Ev.neg h4 hfin
     exact Ev.neg h3 hfin
    exact Ev.neg yq10 hfin
   cases h
   exact ⟨rfl, rfl, i + 1, rfl, rfl, yq10, yq10⟩
  rw [if_neg h48]
  obtain ⟨m, j, b, h1, h2, h3⟩ := dig_l s hs i hlt c hbt h48 (s.size - (i + 1)) (i + 1) yq10 yq10 (c.toNat - 48) yq10
  have e5 : ((i + 1 - i : Nat) : Int) = 1 := by omega
  rw [e5] at h1
  have ev : valD ((c :: Lb s (i + 1)).takeWhile isDg) = ((Lb s (i + 1)).takeWhile isDg).foldl (fun n c => n * 10 + (c.toNat - 48)) (c.toNat - 48) := by
   rw [List.takeWhile_cons, if_pos hdt]
   unfold valD
   rw [List.foldl_cons]
   congr 1
   omega
  rw [ev, List.dropWhile_cons, if_pos hdt]
  refine ⟨m, j, b, first _ h1, fun v q h => ?_, fun h => ?_⟩
  ·split at h
   ·rename_i hle
    cases h
    obtain ⟨q1, q2, i', q3, q4, q5, q6⟩ := h2 ⟨yq10, hle⟩
    exact ⟨q1, q2, i', q3, q4, yq10, q6⟩
   cases h
  split at h
  ·cases h
  rename_i hle
  exact h3 (fun h' => hle h'.2)
 rw [Lb_end s i yq10]
 obtain ⟨j, hj⟩ := none_ (fun h => absurd h hlt)
 exact ⟨0, j, true, hj, fun v q h => (by cases h), fun _ => rfl⟩
theorem dig_b (s : ByteArray) (i : Int) : ∃ j, Ev (fun k => zai.f k s i true 1000000) (0, s, j, true) := by
 obtain ⟨j, hj⟩ := fail_f s i i true
 unfold zai.f
 exact ⟨j, (by refine Ev.step (fun k => by rw [zai.l0]) ?_; refine Ev.pos rfl ?_; refine Ev.step (fun k => by rw [zai.j1]) ?_; refine Ev.neg yq27 ?_; refine Ev.pos rfl ?_; refine Ev.bind (Ev.done hj) ?_; refine Ev.neg yq10 ?_; exact Ev.now _)⟩
def TestR (s : ByteArray) (i : Nat) (g : Nat → Option (Int × Int × Bool × Int × Int × ByteArray × Int × Bool)) (o : Option (List UInt8)) : Prop :=
 ∃ (a b : Int) (c : Bool) (d e j : Int) (bad : Bool), Ev g (a, b, c, d, e, s, j, bad) ∧ (∀ q, o = some q → bad = false ∧ ∃ i' : Nat, j = (i' : Int) ∧ Lb s i' = q ∧ i ≤ i' ∧ i' ≤ s.size) ∧ (o = none → bad = true)
theorem j3_b (s : ByteArray) (i0 : Nat) (i a b : Int) (c : Bool) (d e : Int) : TestR s i0 (fun k => zal.j3 k s i true a b c d e) none := by
 obtain ⟨j1, h1⟩ := want_b s i 61
 obtain ⟨j2, h2⟩ := dig_b s j1
 exact ⟨_, _, _, _, _, _, _, (by refine Ev.step (fun k => by rw [zal.j3]) ?_; refine Ev.bind (Ev.done (take_b s i 33)) ?_; refine Ev.bind (Ev.done h1) ?_; refine Ev.bind h2 ?_; refine Ev.bind (Ev.done (take_b s j2 46)) ?_; refine Ev.neg yq27 ?_; exact Ev.now _), fun q h => (by cases h), fun _ => rfl⟩
theorem TestR.ev {s : ByteArray} {i : Nat} {g g' : Nat → Option (Int × Int × Bool × Int × Int × ByteArray × Int × Bool)} {o : Option (List UInt8)} (h : TestR s i g o) (k : ∀ r, Ev g r → Ev g' r) : TestR s i g' o := by
 obtain ⟨a, b, c, d, e, j, bad, h1, h2⟩ := h
 exact ⟨a, b, c, d, e, j, bad, k _ h1, h2⟩
theorem TestR.le {s : ByteArray} {i i0 : Nat} {g : Nat → Option (Int × Int × Bool × Int × Int × ByteArray × Int × Bool)} {o : Option (List UInt8)} (h : TestR s i g o) (hi : i0 ≤ i) : TestR s i0 g o := by
 obtain ⟨a, b, c, d, e, j, bad, h1, h2, h3⟩ := h
 refine ⟨a, b, c, d, e, j, bad, h1, fun q hq => ?_, h3⟩
 obtain ⟨q1, i', q2, q3, q4, q5⟩ := h2 q hq
 exact ⟨q1, i', q2, q3, yq10, q5⟩
theorem j3_q (s : ByteArray) (hs : s.size ≤ 1099511627776) (i : Nat) (hi : i ≤ s.size) (a b : Int) (c : Bool) (d e : Int) : TestR s i (fun k => zal.j3 k s (i : Int) false a b c d e) (pEq (Lb s i)) := by
 obtain ⟨i1, a1, a2, a3, a4⟩ := take_q s hs i hi 33
 replace a1 : zar.f s (i : Int) false 33 = _ := a1
 obtain ⟨j2, b1, b2⟩ := want_q s hs i1 a4 61
 replace b1 : zaG.f s (i1 : Int) false 61 = _ := b1
 rw [a2] at b1 b2
 unfold pEq
 cases hw : (pOpt 61 (pOpt 33 (Lb s i)).2).1 with
 | false =>
  rw [hw] at b1
  obtain ⟨j3, h3⟩ := dig_b s j2
  rw [if_neg yq27]
  exact ⟨_, _, _, _, _, _, _, (by refine Ev.step (fun k => by rw [zal.j3]) ?_; refine Ev.bind (Ev.done a1) ?_; refine Ev.bind (Ev.done b1) ?_; refine Ev.bind h3 ?_; refine Ev.bind (Ev.done (take_b s j3 46)) ?_; refine Ev.neg yq27 ?_; exact Ev.now _), fun q h => (by cases h), fun _ => rfl⟩
 | true =>
  rw [hw] at b1 b2
  obtain ⟨i2, rfl, b3, b4, b5⟩ := b2 rfl
  rw [if_pos rfl, ← b3]
  obtain ⟨m, j3, bd, c1, c2, c3⟩ := dig_q s hs i2 b5
  cases hp : pNum (Lb s i2) with
  | none =>
   have := c3 hp
   subst this
   exact ⟨_, _, _, _, _, _, _, (by refine Ev.step (fun k => by rw [zal.j3]) ?_; refine Ev.bind (Ev.done a1) ?_; refine Ev.bind (Ev.done b1) ?_; refine Ev.bind c1 ?_; refine Ev.bind (Ev.done (take_b s j3 46)) ?_; refine Ev.neg yq27 ?_; exact Ev.now _), fun q h => (by cases h), fun _ => rfl⟩
  | some p =>
   obtain ⟨v, q⟩ := p
   obtain ⟨rfl, rfl, i3, rfl, c4, c5, c6⟩ := c2 v q hp
   subst c4
   show TestR s i _ (pHigh (Lb s i3))
   obtain ⟨i4, d1, d2, d3, d4⟩ := take_q s hs i3 c6 46
   replace d1 : zar.f s (i3 : Int) false 46 = _ := d1
   unfold pHigh
   cases ht : (pOpt 46 (Lb s i3)).1 with
   | false =>
    rw [ht] at d1
    rw [if_neg yq27]
    refine ⟨_, _, _, _, _, _, _, (by refine Ev.step (fun k => by rw [zal.j3]) ?_; refine Ev.bind (Ev.done a1) ?_; refine Ev.bind (Ev.done b1) ?_; refine Ev.bind c1 ?_; refine Ev.bind (Ev.done d1) ?_; refine Ev.neg yq27 ?_; exact Ev.now _), fun q h => ?_, fun h => by cases h⟩
    cases h
    refine ⟨rfl, i4, rfl, ?_, yq10, d4⟩
    rw [d2]
    exact pOpt_no ht
   | true =>
    rw [ht] at d1
    rw [if_pos rfl]
    obtain ⟨j5, e1, e2⟩ := want_q s hs i4 d4 46
    replace e1 : zaG.f s (i4 : Int) false 46 = _ := e1
    rw [d2] at e1 e2
    cases hw2 : (pOpt 46 (pOpt 46 (Lb s i3)).2).1 with
    | false =>
     rw [hw2] at e1
     rw [if_neg yq27]
     obtain ⟨j6, h6⟩ := dig_b s j5
     exact ⟨_, _, _, _, _, _, _, (by refine Ev.step (fun k => by rw [zal.j3]) ?_; refine Ev.bind (Ev.done a1) ?_; refine Ev.bind (Ev.done b1) ?_; refine Ev.bind c1 ?_; refine Ev.bind (Ev.done d1) ?_; refine Ev.pos rfl ?_; refine Ev.bind (Ev.done e1) ?_; refine Ev.bind h6 ?_; exact Ev.now _), fun q h => (by cases h), fun _ => rfl⟩
    | true =>
     rw [hw2] at e1 e2
     rw [if_pos rfl]
     obtain ⟨i5, rfl, e3, e4, e5⟩ := e2 rfl
     rw [← e3]
     obtain ⟨m2, j6, bd2, f1, f2, f3⟩ := dig_q s hs i5 e5
     refine ⟨_, _, _, _, _, _, _, yq47, fun q h => ?_, fun h => ?_⟩
     ·cases hp2 : pNum (Lb s i5) with
      | none => rw [hp2] at h; cases h
      | some p2 =>
       obtain ⟨v2, q2⟩ := p2
       rw [hp2] at h
       cases h
       obtain ⟨g1, g2, i6, g3, g4, g5, g6⟩ := f2 _ _ hp2
       exact ⟨g1, i6, g3, g4, yq10, g6⟩
     cases hp2 : pNum (Lb s i5) with
     | none => exact f3 hp2
     | some p2 => rw [hp2] at h; cases h
theorem j2_q (s : ByteArray) (hs : s.size ≤ 1099511627776) (i : Nat) (hi : i ≤ s.size) (a b : Int) (c : Bool) (d e : Int) : TestR s i (fun k => zal.j2 k s (i : Int) false a b c d e) (match pMod (Lb s i) with | none => none | some q => pEq q) := by
 obtain ⟨i1, a1, a2, a3, a4⟩ := take_q s hs i hi 37
 replace a1 : zar.f s (i : Int) false 37 = _ := a1
 unfold pMod
 cases ht : (pOpt 37 (Lb s i)).1 with
 | false =>
  rw [ht] at a1
  rw [if_neg yq27]
  have e2 : Lb s i1 = Lb s i := by
   rw [a2]
   exact pOpt_no ht
  show TestR s i _ (pEq (Lb s i))
  rw [← e2]
  exact ((j3_q s hs i1 a4 a b c d e).le a3).ev fun r h => (by refine Ev.step (fun k => by rw [zal.j2]) ?_; refine Ev.bind (Ev.done a1) ?_; refine Ev.neg yq27 ?_; exact h)
 | true =>
  rw [ht] at a1
  rw [if_pos rfl, ← a2]
  obtain ⟨m, j3, bd, c1, c2, c3⟩ := dig_q s hs i1 a4
  have zero : ∀ (m j : Int) (bd : Bool), Ev (fun k => zai.f k s (i1 : Int) false 1000000) (m, s, j, bd) → (m = 0 ∨ bd = true) → TestR s i (fun k => zal.j2 k s (i : Int) false a b c d e) none := by
   intro m j bd hev hor
   by_cases hm : m = 0
   ·obtain ⟨j4, h4⟩ := fail_f s j j bd
    exact (j3_b s i j4 a m c d e).ev fun r h => (by refine Ev.step (fun k => by rw [zal.j2]) ?_; refine Ev.bind (Ev.done a1) ?_; refine Ev.pos rfl ?_; refine Ev.bind hev ?_; refine Ev.pos hm ?_; refine Ev.bind (Ev.done h4) ?_; exact h)
   have hb : bd = true := by
    rcases hor with h | h
    ·exact absurd h hm
    exact h
   subst hb
   exact (j3_b s i j a m c d e).ev fun r h => (by refine Ev.step (fun k => by rw [zal.j2]) ?_; refine Ev.bind (Ev.done a1) ?_; refine Ev.pos rfl ?_; refine Ev.bind hev ?_; refine Ev.neg hm ?_; exact h)
  cases hp : pNum (Lb s i1) with
  | none => exact zero m j3 bd c1 (.inr (c3 hp))
  | some p =>
   obtain ⟨v, q⟩ := p
   obtain ⟨rfl, rfl, i3, rfl, c4, c5, c6⟩ := c2 v q hp
   show TestR s i _ (match (if v = 0 then none else some q) with | none => none | some q => pEq q)
   by_cases hv : v = 0
   ·rw [if_pos hv]
    exact zero (v : Int) (i3 : Int) false c1 (.inl yq10)
   rw [if_neg hv]
   show TestR s i _ (pEq q)
   rw [← c4]
   exact ((j3_q s hs i3 c6 a (v : Int) c d e).le yq10).ev fun r h => (by refine Ev.step (fun k => by rw [zal.j2]) ?_; refine Ev.bind (Ev.done a1) ?_; refine Ev.pos rfl ?_; refine Ev.bind c1 ?_; refine Ev.neg yq10 ?_; exact h)
theorem j2_b (s : ByteArray) (i0 : Nat) (i a b : Int) (c : Bool) (d e : Int) : TestR s i0 (fun k => zal.j2 k s i true a b c d e) none :=
 (j3_b s i0 i a b c d e).ev fun r h => (by refine Ev.step (fun k => by rw [zal.j2]) ?_; refine Ev.bind (Ev.done (take_b s i 37)) ?_; refine Ev.neg yq27 ?_; exact h)
theorem test_q (s : ByteArray) (hs : s.size ≤ 1099511627776) (i : Nat) (hi : i ≤ s.size) : TestR s i (fun k => zal.f k s (i : Int) false) (pTest (Lb s i)) := by
 unfold zal.f
 have bts : ∀ t : Nat, t < 4 → bt (⟨#[105, 102, 118, 110]⟩ : ByteArray) (t : Int) = (([105, 102, 118, 110] : List UInt8).getD t 0).toNat := by
  intro t ht
  have : t = 0 ∨ t = 1 ∨ t = 2 ∨ t = 3 := by omega
  rcases this with rfl | rfl | rfl | rfl <;> rfl
 have go : ∀ (d t : Nat), t + d = 4 → (∀ u, u < t → (pOpt (([105, 102, 118, 110] : List UInt8).getD u 0) (Lb s i)).1 = false) → TestR s i (fun k => zal.l0 k (t : Int) s (i : Int) false 0 0 false 0 0) (pTest (Lb s i)) := by
  intro d
  induction d with
  | zero =>
   intro t ht hno
   have hn : pTest (Lb s i) = none := by
    cases hL : Lb s i with
    | nil => rfl
    | cons c r =>
     show (if isOf c = true then _ else none) = none
     rw [if_neg]
     intro ho
     rw [hL] at hno
     have h0 := hno 0 yq10
     have h1 := hno 1 yq10
     have h2 := hno 2 yq10
     have h3 := hno 3 yq10
     have key : ∀ b : UInt8, (pOpt b (c :: r)).1 = false → c ≠ b := by
      intro b hb e
      unfold pOpt at hb
      simp only [e, if_true] at hb
      cases hb
     unfold isOf at ho
     simp only [Bool.or_eq_true, beq_iff_eq] at ho
     rcases ho with ((h | h) | h) | h
     ·exact key 105 h0 h
     ·exact key 102 h1 h
     ·exact key 118 h2 h
     exact key 110 h3 h
   rw [hn]
   obtain ⟨j, hj⟩ := fail_f s (i : Int) (i : Int) false
   exact (j2_b s i j 0 0 false 0 0).ev fun r h => (by refine Ev.step (fun k => by rw [zal.l0]) ?_; refine Ev.neg yq10 ?_; refine Ev.step (fun k => by rw [zal.j1]) ?_; refine Ev.pos rfl ?_; refine Ev.bind (Ev.done hj) ?_; exact h)
  | succ d ih =>
   intro t ht hno
   obtain ⟨i1, a1, a2, a3, a4⟩ := take_q s hs i hi (([105, 102, 118, 110] : List UInt8).getD t 0)
   rw [← bts t yq10] at a1
   cases hb : (pOpt (([105, 102, 118, 110] : List UInt8).getD t 0) (Lb s i)).1 with
   | true =>
    rw [hb] at a1
    have hne : bt (⟨#[105, 102, 118, 110]⟩ : ByteArray) (t : Int) ≠ 0 := by
     have : t = 0 ∨ t = 1 ∨ t = 2 ∨ t = 3 := by omega
     rcases this with rfl | rfl | rfl | rfl <;> (intro h; cases h)
    have hp : pTest (Lb s i) = (match pMod (Lb s i1) with | none => none | some q => pEq q) := by
     cases hL : Lb s i with
     | nil => rw [hL] at hb; cases hb
     | cons c r =>
      rw [hL] at hb a2
      unfold pOpt at hb a2
      by_cases he : c = ([105, 102, 118, 110] : List UInt8).getD t 0
      ·have e2 : Lb s i1 = r := by rw [a2]; simp only [he, if_true]
       have ho : isOf c = true := by
        rw [he]
        have : t = 0 ∨ t = 1 ∨ t = 2 ∨ t = 3 := by omega
        rcases this with rfl | rfl | rfl | rfl <;> rfl
       rw [e2]
       show (if isOf c = true then _ else none) = _
       rw [if_pos ho]
       rfl
      simp only [he, if_false] at hb
      cases hb
    rw [hp]
    exact ((j2_q s hs i1 a4 (bt (⟨#[105, 102, 118, 110]⟩ : ByteArray) (t : Int)) 0 false 0 0).le a3).ev fun r h => (by refine Ev.step (fun k => by rw [zal.l0]) ?_; refine Ev.pos yq10 ?_; refine Ev.pos yq10 ?_; refine Ev.bind (Ev.done a1) ?_; refine Ev.pos rfl ?_; refine Ev.step (fun k => by rw [zal.j1]) ?_; refine Ev.neg hne ?_; exact h)
   | false =>
    rw [hb] at a1
    have e2 : i1 = i := by
     have hl : (Lb s i1).length = (Lb s i).length := by
      rw [a2, pOpt_no hb]
     rw [Lb_len, Lb_len] at hl
     omega
    subst e2
    have e3 := zaa.mk (w_succ t yq10)
    exact (ih (t + 1) yq10 (fun u hu => by
     rcases Nat.lt_or_eq_of_le (Nat.le_of_lt_succ hu) with h | rfl
     ·exact hno u h
     exact hb)).ev fun r h => (by refine Ev.step (fun k => by rw [zal.l0, e3.out]) ?_; refine Ev.pos yq10 ?_; refine Ev.pos yq10 ?_; refine Ev.bind (Ev.done a1) ?_; refine Ev.neg yq27 ?_; exact h)
 exact go 4 0 rfl (fun u hu => absurd hu yq10)
end Go.Proofs.YtfafjbolmeimmaaGreatDoor.P
namespace Go.Proofs.YtfafjbolmeimmaaGreatDoor.P
open Go.RowKit Go.Proofs.YtfafjbolmeimmaaGreatDoorW.PrintWords Go.Proofs.YtfafjbolmeimmaaGreatDoorW.PrintLast Go.Proofs.YtfafjbolmeimmaaGreatDoorW.PrintMore
set_option linter.unusedVariables false
set_option linter.unusedSimpArgs false
def afterR : List UInt8 → Bool
 | [] => true
 | c :: q => if isSep c = true then pRule q else false
def restR : List UInt8 → Bool
 | [] => true
 | c :: q => if c = 124 then pRule q else false
theorem rule_after {l q : List UInt8} (h : pTest l = some q) : pRule l = afterR q := by
 cases q with
 | nil => rw [pRule_end h]; rfl
 | cons c r =>
  show _ = if isSep c = true then pRule r else false
  rw [pRule]
  split
  ·rename_i h2; rw [h] at h2; cases h2
  ·rename_i h2; rw [h] at h2; cases h2
  rename_i h2; rw [h] at h2; cases h2; rfl
theorem after_take (r : List UInt8) : ((pOpt 38 r).1 = true → afterR r = pRule (pOpt 38 r).2) ∧ ((pOpt 38 r).1 = false → afterR r = restR (pOpt 38 r).2) := by
 cases r with
 | nil => exact ⟨fun h => by (cases h), fun _ => rfl⟩
 | cons c q =>
  have e : pOpt 38 (c :: q) = if c = 38 then (true, q) else (false, c :: q) := rfl
  rw [e]
  by_cases h : c = 38
  ·subst h
   exact ⟨fun _ => rfl, fun h => by (cases h)⟩
  rw [if_neg h]
  refine ⟨fun h => by (cases h), fun _ => ?_⟩
  show (if isSep c = true then pRule q else false) = if c = 124 then pRule q else false
  by_cases h2 : c = 124
  ·subst h2; rfl
  have : isSep c = false := by unfold isSep; rw [beq_eq_false_iff_ne.2 h, beq_eq_false_iff_ne.2 h2]; rfl
  rw [this, if_neg yq27, if_neg h2]
theorem rest_take (r : List UInt8) : ((pOpt 124 r).1 = true → restR r = pRule (pOpt 124 r).2) ∧ ((pOpt 124 r).1 = false → restR r = (pOpt 124 r).2.isEmpty) := by
 cases r with
 | nil => exact ⟨fun h => by (cases h), fun _ => rfl⟩
 | cons c q =>
  have e : pOpt 124 (c :: q) = if c = 124 then (true, q) else (false, c :: q) := rfl
  rw [e]
  by_cases h : c = 124
  ·subst h
   exact ⟨fun _ => rfl, fun h => by (cases h)⟩
  rw [if_neg h]
  refine ⟨fun h => by (cases h), fun _ => ?_⟩
  show (if c = 124 then pRule q else false) = false
  rw [if_neg h]
theorem Lb_all (s : ByteArray) : Lb s 0 = s.data.toList := rfl
def Tr (s : ByteArray) (f : List UInt8 → Bool) (lo : Nat) (at_ : Int) (bad : Bool) : Prop :=
 (bad = true → pRule s.data.toList = false) ∧ (bad = false → ∃ i : Nat, at_ = (i : Int) ∧ lo ≤ i ∧ i ≤ s.size ∧ pRule s.data.toList = f (Lb s i))
theorem Tr.test {s : ByteArray} (hs : s.size ≤ 1099511627776) {lo : Nat} {at_ : Int} (h : Tr s pRule lo at_ false) :
  ∃ (k : Nat) (a b : Int) (c : Bool) (d e j : Int) (bad : Bool), zal.f k s at_ false = some (a, b, c, d, e, s, j, bad) ∧ Tr s afterR (at_.toNat + 1) j bad := by
 obtain ⟨i, rfl, h1, h2, h3⟩ := h.2 rfl
 obtain ⟨a, b, c, d, e, j, bad, ⟨k, hk⟩, h4, h5⟩ := test_q s hs i h2
 refine ⟨k, a, b, c, d, e, j, bad, hk k (Nat.le_refl _), fun hb => ?_, fun hb => ?_⟩
 ·cases hp : pTest (Lb s i) with
  | none => rw [h3, pRule_none hp]
  | some q => rw [(h4 q hp).1] at hb; cases hb
 cases hp : pTest (Lb s i) with
 | none => rw [h5 hp] at hb; cases hb
 | some q =>
  obtain ⟨_, i', e1, e2, e3, e4⟩ := h4 q hp
  have hl := pTest_len hp
  rw [← e2, Lb_len, Lb_len] at hl
  exact ⟨i', e1, by rw [Int.toNat_natCast]; omega, e4, by rw [h3, rule_after hp, e2]⟩
theorem Tr.take {s : ByteArray} (hs : s.size ≤ 1099511627776) {lo : Nat} {at_ : Int} {bad : Bool} {f g : List UInt8 → Bool} (b : UInt8) (hfg : ∀ r, ((pOpt b r).1 = true → f r = pRule (pOpt b r).2) ∧ ((pOpt b r).1 = false → f r = g (pOpt b r).2)) (h : Tr s f lo at_ bad) :
  ∃ (on : Bool) (j : Int), zar.f s at_ bad (b.toNat : Int) = some (on, s, j, bad) ∧ Tr s (if on = true then pRule else g) lo j bad := by
 cases bad with
 | true => exact ⟨false, at_, take_b s at_ _, fun _ => h.1 rfl, fun h => by (cases h)⟩
 | false =>
  obtain ⟨i, rfl, h1, h2, h3⟩ := h.2 rfl
  obtain ⟨i', e1, e2, e3, e4⟩ := take_q s hs i h2 b
  refine ⟨(pOpt b (Lb s i)).1, i', e1, fun h => by (cases h), fun _ => ⟨i', rfl, yq10, e4, ?_⟩⟩
  rw [h3, e2]
  cases hb : (pOpt b (Lb s i)).1 with
  | true => rw [if_pos rfl]; exact (hfg _).1 hb
  | false => rw [if_neg yq27]; exact (hfg _).2 hb
end Go.Proofs.YtfafjbolmeimmaaGreatDoor.P
namespace Go.Proofs.YtfafjbolmeimmaaGreatDoor.P
open Go.RowKit Go.Proofs.YtfafjbolmeimmaaGreatDoorW.PrintWords
set_option linter.unusedVariables false
def cMod (r : List UInt8) : Option (Nat × List UInt8) :=
 if (pOpt 37 r).1 = true then (match pNum (pOpt 37 r).2 with | none => none | some (m, q) => if m = 0 then none else some (m, q)) else some (0, r)
def cHigh (lo : Nat) (r : List UInt8) : Option (Nat × List UInt8) :=
 if (pOpt 46 r).1 = true then (if (pOpt 46 (pOpt 46 r).2).1 = true then pNum (pOpt 46 (pOpt 46 r).2).2 else none) else some (lo, r)
def cEq (r : List UInt8) : Option ((Bool × Nat × Nat) × List UInt8) :=
 if (pOpt 61 (pOpt 33 r).2).1 = true then (match pNum (pOpt 61 (pOpt 33 r).2).2 with | none => none | some (lo, q) => (cHigh lo q).map fun p => (((pOpt 33 r).1, lo, p.1), p.2)) else none
def cTest : List UInt8 → Option (TI × List UInt8)
 | [] => none
 | c :: r => if isOf c = true then (match cMod r with | none => none | some (m, q) => (cEq q).map fun p => (((c.toNat : Int), (m : Int), p.1.1, (p.1.2.1 : Int), (p.1.2.2 : Int)), p.2)) else none
theorem tI5_c {c m lo hi : Int} {n : Bool} {r : List UInt8} {y : TI} (h : tI5 c m n lo hi r = some y) : r = [] ∧ y = (c, m, n, lo, hi) := by
 unfold tI5 at h
 split at h
 ·exact ⟨‹_›, (Option.some.inj h).symm⟩
 cases h
theorem num_c {l : List UInt8} (h : (numI l).1 = true) : pNum l = some ((numI l).2, l.dropWhile isDg) := by
 rcases num_same l with ⟨_, h2⟩ | ⟨h2, _⟩
 ·exact h2
 rw [h] at h2; cases h2
theorem opt_drop {b : UInt8} {l : List UInt8} (h : (pOpt b l).1 = true) : (pOpt b l).2 = l.drop 1 ∧ ∃ r, l = b :: r := by
 cases l with
 | nil => cases h
 | cons a l =>
  have e : pOpt b (a :: l) = if a = b then (true, l) else (false, a :: l) := rfl
  rw [e] at h ⊢
  by_cases ha : a = b
  ·subst ha; rw [if_pos rfl]; exact ⟨rfl, l, rfl⟩
  rw [if_neg ha] at h; cases h
theorem tI4_c {c m : Int} {n : Bool} {lo : Nat} {r : List UInt8} {y : TI} (h : tI4 c m n lo r = some y) : ∃ hi : Nat, cHigh lo r = some (hi, []) ∧ y = (c, m, n, (lo : Int), (hi : Int)) := by
 have h1 : Lib.hasPrefix r [46, 46] = ((pOpt 46 r).1 && (pOpt 46 (pOpt 46 r).2).1) := by
  cases r with
  | nil => rfl
  | cons a r =>
   have e1 : pOpt 46 (a :: r) = if a = 46 then (true, r) else (false, a :: r) := rfl
   have h1 : Lib.hasPrefix (a :: r) [46, 46] = (decide (a = 46) && Lib.hasPrefix r [46]) := by
    unfold Lib.hasPrefix
    show (46 == a && _) = _
    congr 1
    rw [Bool.eq_iff_iff, beq_iff_eq, decide_eq_true_iff]
    exact ⟨fun h => h.symm, fun h => h.symm⟩
   rw [h1, (pre_one 46 r).1, e1]
   by_cases ha : a = 46
   ·rw [if_pos ha, decide_eq_true ha]
   rw [if_neg ha, decide_eq_false ha]; rfl
 unfold tI4 at h
 rw [h1] at h
 unfold cHigh
 cases h2 : (pOpt 46 r).1 with
 | false =>
  rw [h2, Bool.false_and, if_neg yq27] at h
  obtain ⟨rfl, rfl⟩ := tI5_c h
  exact ⟨lo, by rw [if_neg yq27], rfl⟩
 | true =>
  rw [if_pos rfl]
  cases h3 : (pOpt 46 (pOpt 46 r).2).1 with
  | false =>
   rw [h2, h3, Bool.and_false, if_neg yq27] at h
   obtain ⟨rfl, rfl⟩ := tI5_c h
   cases h2
  | true =>
   rw [h2, h3, Bool.and_true, if_pos rfl] at h
   have e3 : Lib.trimPrefix r [46, 46] = (pOpt 46 (pOpt 46 r).2).2 := by
    unfold Lib.trimPrefix
    rw [h1, h2, h3, Bool.and_true, if_pos rfl, (opt_drop h3).1, (opt_drop h2).1, List.drop_drop]
    rfl
   rw [e3] at h
   rw [if_pos rfl]
   split at h
   ·rename_i hn
    obtain ⟨e, rfl⟩ := tI5_c h
    exact ⟨_, by rw [num_c hn, e], rfl⟩
   cases h
theorem tI2_c {c m : Int} {r : List UInt8} {y : TI} (h : tI2 c m r = some y) : ∃ (n : Bool) (lo hi : Nat), cEq r = some ((n, lo, hi), []) ∧ y = (c, m, n, (lo : Int), (hi : Int)) := by
 unfold tI2 tI3 at h
 rw [(pre_one 33 r).2, (pre_one 61 _).1, (pre_one 33 r).1] at h
 split at h
 ·rename_i h1
  split at h
  ·rename_i h2
   rw [← (opt_drop h1).1] at h h2
   obtain ⟨hi, h3, rfl⟩ := tI4_c h
   exact ⟨_, _, hi, by unfold cEq; rw [if_pos h1, num_c h2]; show (cHigh _ _).map _ = _; rw [h3]; rfl, rfl⟩
  cases h
 cases h
theorem tI_c {l : List UInt8} {y : TI} (h : tI l = some y) : cTest l = some (y, []) := by
 cases l with
 | nil => cases h
 | cons c r =>
  have h0 : (if isOf c = true then tI1 c.toNat r else none) = some y := h
  show (if isOf c = true then (match cMod r with | none => none | some (m, q) => (cEq q).map fun p => (((c.toNat : Int), (m : Int), p.1.1, (p.1.2.1 : Int), (p.1.2.2 : Int)), p.2)) else none) = some (y, [])
  split at h0
  ·rename_i hc
   rw [if_pos hc]
   unfold tI1 at h0
   rw [(pre_one 37 r).1, (pre_one 37 r).2] at h0
   unfold cMod
   cases h1 : (pOpt 37 r).1 with
   | false =>
    rw [h1, if_neg yq27] at h0
    obtain ⟨n, lo, hi, h2, rfl⟩ := tI2_c h0
    rw [if_neg yq27]
    show (cEq r).map _ = _
    rw [h2]
    rfl
   | true =>
    rw [h1, if_pos rfl] at h0
    rw [if_pos rfl]
    split at h0
    ·rename_i h2
     obtain ⟨n, lo, hi, h3, rfl⟩ := tI2_c h0
     rw [num_c h2.1]
     dsimp only
     rw [if_neg h2.2]
     show (cEq _).map _ = _
     rw [h3]
     rfl
    cases h0
  cases h0
theorem cMod_local (x r : List UInt8) (hr : Stop r) : cMod (x ++ r) = (cMod x).map (fun p => (p.1, p.2 ++ r)) := by
 unfold cMod
 rw [pOpt_local 37 rfl x r hr]
 dsimp only
 split
 ·rw [pNum_local _ r hr]
  cases pNum (pOpt 37 x).2 with
  | none => rfl
  | some p =>
   obtain ⟨m, q⟩ := p
   show (if m = 0 then none else some (m, q ++ r)) = _
   dsimp only
   split <;> rfl
 rfl
theorem cHigh_local (lo : Nat) (x r : List UInt8) (hr : Stop r) : cHigh lo (x ++ r) = (cHigh lo x).map (fun p => (p.1, p.2 ++ r)) := by
 unfold cHigh
 rw [pOpt_local 46 rfl x r hr]
 dsimp only
 rw [pOpt_local 46 rfl _ r hr]
 dsimp only
 split
 ·split
  ·exact pNum_local _ r hr
  rfl
 rfl
theorem cEq_local (x r : List UInt8) (hr : Stop r) : cEq (x ++ r) = (cEq x).map (fun p => (p.1, p.2 ++ r)) := by
 unfold cEq
 rw [pOpt_local 33 rfl x r hr]
 dsimp only
 rw [pOpt_local 61 rfl _ r hr]
 dsimp only
 split
 ·rw [pNum_local _ r hr]
  cases pNum (pOpt 61 (pOpt 33 x).2).2 with
  | none => rfl
  | some p =>
   show (cHigh p.1 (p.2 ++ r)).map _ = Option.map _ ((cHigh p.1 p.2).map _)
   rw [cHigh_local _ _ r hr]
   cases cHigh p.1 p.2 <;> rfl
 rfl
theorem cTest_local (x r : List UInt8) (hx : x ≠ []) (hr : Stop r) : cTest (x ++ r) = (cTest x).map (fun p => (p.1, p.2 ++ r)) := by
 cases x with
 | nil => exact absurd rfl hx
 | cons c x =>
  show (if isOf c = true then (match cMod (x ++ r) with | none => none | some (m, q) => (cEq q).map fun p => (((c.toNat : Int), (m : Int), p.1.1, (p.1.2.1 : Int), (p.1.2.2 : Int)), p.2)) else none) = Option.map _ (if isOf c = true then (match cMod x with | none => none | some (m, q) => (cEq q).map fun p => (((c.toNat : Int), (m : Int), p.1.1, (p.1.2.1 : Int), (p.1.2.2 : Int)), p.2)) else none)
  rw [cMod_local x r hr]
  split
  ·cases cMod x with
   | none => rfl
   | some q =>
    show (cEq (q.2 ++ r)).map _ = Option.map _ ((cEq q.2).map _)
    rw [cEq_local q.2 r hr]
    cases cEq q.2 <;> rfl
  rfl
def cG (rows : List (List TI)) (ts : List TI) (L : List UInt8) : Option (List (List TI)) :=
 match sp 124 L with
 | [] => none
 | h :: t => match mapO tI (sp 38 h), mapO rowI t with | some a, some b => some (rows ++ (ts ++ a) :: b) | _, _ => none
def cA (rows : List (List TI)) (ts : List TI) : List UInt8 → Option (List (List TI))
 | [] => some (rows ++ [ts])
 | c :: q => if c = 38 then cG rows ts q else if c = 124 then cG (rows ++ [ts]) [] q else none
def cR (rows : List (List TI)) (ts : List TI) : List UInt8 → Option (List (List TI))
 | [] => some (rows ++ [ts])
 | c :: q => if c = 124 then cG (rows ++ [ts]) [] q else none
theorem mapO_cons {α β : Type} (f : α → Option β) (x : α) (xs : List α) : mapO f (x :: xs) = match f x, mapO f xs with | some y, some ys => some (y :: ys) | _, _ => none := rfl
theorem cG_start (l : List UInt8) : cG [] [] l = mapO rowI (sp 124 l) := by
 unfold cG
 obtain ⟨h, t, e⟩ := sp_ne 124 l
 rw [e]
 have e1 : rowI h = mapO tI (sp 38 h) := rfl
 rw [mapO_cons, e1]
 dsimp only
 cases mapO tI (sp 38 h) <;> cases mapO rowI t <;> rfl
theorem sp_first (L : List UInt8) : ∃ x r, L = x ++ r ∧ Stop r ∧ ((r = [] ∧ sp 124 L = [x] ∧ sp 38 x = [x]) ∨ (∃ q h t, r = 38 :: q ∧ sp 124 q = h :: t ∧ sp 124 L = (x ++ 38 :: h) :: t ∧ sp 38 (x ++ 38 :: h) = x :: sp 38 h) ∨ (∃ q, r = 124 :: q ∧ sp 124 L = x :: sp 124 q ∧ sp 38 x = [x])) := by
 induction L with
 | nil => exact ⟨[], [], rfl, .inl rfl, .inl ⟨rfl, rfl, rfl⟩⟩
 | cons c L ih =>
  have e1 : sp 124 (c :: L) = if c = 124 then [] :: sp 124 L else consHead c (sp 124 L) := rfl
  rw [e1]
  by_cases h1 : c = 124
  ·subst h1
   rw [if_pos rfl]
   exact ⟨[], 124 :: L, rfl, .inr ⟨124, L, rfl, rfl⟩, .inr (.inr ⟨L, rfl, rfl, rfl⟩)⟩
  rw [if_neg h1]
  by_cases h2 : c = 38
  ·subst h2
   obtain ⟨h, t, e⟩ := sp_ne 124 L
   refine ⟨[], 38 :: L, rfl, .inr ⟨38, L, rfl, rfl⟩, .inr (.inl ⟨L, h, t, rfl, e, by rw [e]; rfl, ?_⟩)⟩
   show (if (38 : UInt8) = 38 then [] :: sp 38 h else consHead 38 (sp 38 h)) = _
   rw [if_pos rfl]
  have e2 : ∀ z, sp 38 (c :: z) = consHead c (sp 38 z) := fun z => by show (if c = 38 then _ else _) = _; rw [if_neg h2]
  obtain ⟨x, r, rfl, hr, hh⟩ := ih
  refine ⟨c :: x, r, rfl, hr, ?_⟩
  rcases hh with ⟨rfl, a, b⟩ | ⟨q, h, t, rfl, a, b, d⟩ | ⟨q, rfl, a, b⟩
  ·exact .inl ⟨rfl, by rw [a]; rfl, by rw [e2, b]; rfl⟩
  ·exact .inr (.inl ⟨q, h, t, rfl, a, by rw [b]; rfl, by rw [List.cons_append, e2, d]; rfl⟩)
  exact .inr (.inr ⟨q, rfl, by rw [a]; rfl, by rw [e2, b]; rfl⟩)
theorem cG_test {rows : List (List TI)} {ts : List TI} {L : List UInt8} {R : List (List TI)} (h : cG rows ts L = some R) : ∃ y q, cTest L = some (y, q) ∧ cA rows (ts ++ [y]) q = some R := by
 obtain ⟨x, r, rfl, hr, hh⟩ := sp_first L
 have key : ∀ y, tI x = some y → cTest (x ++ r) = some (y, r) := fun y hy => by
  rw [cTest_local x r (fun e => by rw [e] at hy; cases hy) hr, tI_c hy]
  rfl
 unfold cG at h
 rcases hh with ⟨rfl, a, b⟩ | ⟨q, h', t, rfl, a, b, d⟩ | ⟨q, rfl, a, b⟩
 ·rw [a] at h
  dsimp only at h
  rw [b, mapO_cons] at h
  cases hy : tI x with
  | none => rw [hy] at h; cases h
  | some y =>
   rw [hy] at h
   exact ⟨y, [], key y hy, by rw [← h]; rfl⟩
 ·rw [b] at h
  dsimp only at h
  rw [d, mapO_cons] at h
  cases hy : tI x with
  | none => rw [hy] at h; cases h
  | some y =>
   refine ⟨y, 38 :: q, key y hy, ?_⟩
   rw [hy] at h
   show (if (38 : UInt8) = 38 then cG rows (ts ++ [y]) q else if (38 : UInt8) = 124 then cG (rows ++ [ts ++ [y]]) [] q else none) = some R
   rw [if_pos rfl]
   unfold cG
   rw [a]
   dsimp only
   cases h1 : mapO tI (sp 38 h') with
   | none => rw [h1] at h; cases h
   | some a' =>
    rw [h1] at h
    cases h2 : mapO rowI t with
    | none => rw [h2] at h; cases h
    | some b' =>
     rw [h2] at h
     rw [← h]
     dsimp only
     rw [List.append_assoc]
     rfl
 rw [a] at h
 dsimp only at h
 rw [b, mapO_cons] at h
 cases hy : tI x with
 | none => rw [hy] at h; cases h
 | some y =>
  refine ⟨y, 124 :: q, key y hy, ?_⟩
  rw [hy] at h
  show (if (124 : UInt8) = 38 then cG rows (ts ++ [y]) q else if (124 : UInt8) = 124 then cG (rows ++ [ts ++ [y]]) [] q else none) = some R
  rw [if_neg yq41, if_pos rfl]
  unfold cG
  obtain ⟨h2, t2, e⟩ := sp_ne 124 q
  rw [e] at h ⊢
  rw [mapO_cons] at h
  dsimp only
  unfold rowI at h
  cases h3 : mapO tI (sp 38 h2) with
  | none => rw [h3] at h; cases h
  | some a' =>
   rw [h3] at h
   cases h4 : mapO rowI t2 with
   | none => unfold rowI at h4; rw [h4] at h; cases h
   | some b' =>
    unfold rowI at h4
    rw [h4] at h
    rw [← h]
    dsimp only
    rw [List.append_assoc]
    rfl
theorem cA_take {rows : List (List TI)} {ts : List TI} {L : List UInt8} {R : List (List TI)} (h : cA rows ts L = some R) : ((pOpt 38 L).1 = true → cG rows ts (pOpt 38 L).2 = some R) ∧ ((pOpt 38 L).1 = false → cR rows ts (pOpt 38 L).2 = some R) := by
 cases L with
 | nil => exact ⟨fun h => by (cases h), fun _ => h⟩
 | cons c q =>
  have h' : (if c = 38 then cG rows ts q else if c = 124 then cG (rows ++ [ts]) [] q else none) = some R := h
  have e : pOpt 38 (c :: q) = if c = 38 then (true, q) else (false, c :: q) := rfl
  rw [e]
  by_cases hc : c = 38
  ·rw [if_pos hc] at h' ⊢
   exact ⟨fun _ => h', fun h => by (cases h)⟩
  rw [if_neg hc] at h' ⊢
  exact ⟨fun h => by (cases h), fun _ => h'⟩
theorem cR_take {rows : List (List TI)} {ts : List TI} {L : List UInt8} {R : List (List TI)} (h : cR rows ts L = some R) : ((pOpt 124 L).1 = true → cG (rows ++ [ts]) [] (pOpt 124 L).2 = some R) ∧ ((pOpt 124 L).1 = false → (pOpt 124 L).2 = [] ∧ rows ++ [ts] = R) := by
 cases L with
 | nil => exact ⟨fun h => by (cases h), fun _ => ⟨rfl, Option.some.inj h⟩⟩
 | cons c q =>
  have h' : (if c = 124 then cG (rows ++ [ts]) [] q else none) = some R := h
  have e : pOpt 124 (c :: q) = if c = 124 then (true, q) else (false, c :: q) := rfl
  rw [e]
  by_cases hc : c = 124
  ·rw [if_pos hc] at h' ⊢
   exact ⟨fun _ => h', fun h => by (cases h)⟩
  rw [if_neg hc] at h'
  cases h'
theorem dig_c (s : ByteArray) (hs : s.size ≤ 1099511627776) (i : Nat) (hi : i ≤ s.size) {v : Nat} {q : List UInt8} (h : pNum (Lb s i) = some (v, q)) : ∃ i' : Nat, Ev (fun k => zai.f k s (i : Int) false 1000000) ((v : Int), s, (i' : Int), false) ∧ Lb s i' = q ∧ i ≤ i' ∧ i' ≤ s.size := by
 obtain ⟨m, j, b, h1, h2, _⟩ := dig_q s hs i hi
 obtain ⟨rfl, rfl, i', rfl, h3⟩ := h2 v q h
 exact ⟨i', h1, h3⟩
theorem want_c (s : ByteArray) (hs : s.size ≤ 1099511627776) (i : Nat) (hi : i ≤ s.size) (c : UInt8) (h : (pOpt c (Lb s i)).1 = true) : ∃ i' : Nat, zaG.f s (i : Int) false (c.toNat : Int) = some (s, (i' : Int), false) ∧ Lb s i' = (pOpt c (Lb s i)).2 ∧ i ≤ i' ∧ i' ≤ s.size := by
 obtain ⟨j, h1, h2⟩ := want_q s hs i hi c
 obtain ⟨i', rfl, h3⟩ := h2 h
 rw [h] at h1
 exact ⟨i', h1, h3⟩
theorem j3_c (s : ByteArray) (hs : s.size ≤ 1099511627776) (i : Nat) (hi : i ≤ s.size) (a b d e : Int) (c : Bool) {n : Bool} {lo up : Nat} {q : List UInt8} (h : cEq (Lb s i) = some ((n, lo, up), q)) : ∃ i' : Nat, Ev (fun k => zal.j3 k s (i : Int) false a b c d e) (a, b, n, (lo : Int), (up : Int), s, (i' : Int), false) ∧ Lb s i' = q ∧ i ≤ i' ∧ i' ≤ s.size := by
 obtain ⟨i1, a1, a2, a3, a4⟩ := take_q s hs i hi 33
 replace a1 : zar.f s (i : Int) false 33 = _ := a1
 unfold cEq at h
 split at h
 ·rename_i hw
  rw [← a2] at hw h
  obtain ⟨i2, b1, b2, b3, b4⟩ := want_c s hs i1 a4 61 hw
  replace b1 : zaG.f s (i1 : Int) false 61 = _ := b1
  rw [← b2] at h
  cases hp : pNum (Lb s i2) with
  | none => rw [hp] at h; cases h
  | some p =>
   rw [hp] at h
   obtain ⟨i3, c1, c2, c3, c4⟩ := dig_c s hs i2 b4 hp
   replace h : (cHigh p.1 p.2).map (fun p' => (((pOpt 33 (Lb s i)).1, p.1, p'.1), p'.2)) = some ((n, lo, up), q) := h
   obtain ⟨p', hh, h⟩ := Option.map_eq_some_iff.1 h
   simp only [Prod.mk.injEq] at h
   obtain ⟨⟨rfl, rfl, rfl⟩, rfl⟩ := h
   obtain ⟨i4, d1, d2, d3, d4⟩ := take_q s hs i3 c4 46
   replace d1 : zar.f s (i3 : Int) false 46 = _ := d1
   rw [← c2] at hh
   unfold cHigh at hh
   split at hh
   ·rename_i ht
    rw [ht] at d1
    split at hh
    ·rename_i ht2
     rw [← d2] at ht2 hh
     obtain ⟨i5, e1, e2, e3, e4⟩ := want_c s hs i4 d4 46 ht2
     replace e1 : zaG.f s (i4 : Int) false 46 = _ := e1
     rw [← e2] at hh
     obtain ⟨i6, f1, f2, f3, f4⟩ := dig_c s hs i5 e4 (show pNum (Lb s i5) = some (p'.1, p'.2) from hh)
     exact ⟨i6, yq47, f2, yq10, f4⟩
    cases hh
   rename_i ht
   have ht' : (pOpt 46 (Lb s i3)).1 = false := by simpa using ht
   rw [ht'] at d1
   cases hh
   exact ⟨i4, (by refine Ev.step (fun k => by rw [zal.j3]) ?_; refine Ev.bind (Ev.done a1) ?_; refine Ev.bind (Ev.done b1) ?_; refine Ev.bind c1 ?_; refine Ev.bind (Ev.done d1) ?_; refine Ev.neg yq27 ?_; exact Ev.now _), by rw [d2]; exact pOpt_no ht', yq10, d4⟩
 cases h
theorem j2_c (s : ByteArray) (hs : s.size ≤ 1099511627776) (i : Nat) (hi : i ≤ s.size) (a d e : Int) (c : Bool) {m : Nat} {q : List UInt8} (h : cMod (Lb s i) = some (m, q)) {n : Bool} {lo up : Nat} {q' : List UInt8} (h' : cEq q = some ((n, lo, up), q')) : ∃ i' : Nat, Ev (fun k => zal.j2 k s (i : Int) false a 0 c d e) (a, (m : Int), n, (lo : Int), (up : Int), s, (i' : Int), false) ∧ Lb s i' = q' ∧ i ≤ i' ∧ i' ≤ s.size := by
 obtain ⟨i1, a1, a2, a3, a4⟩ := take_q s hs i hi 37
 replace a1 : zar.f s (i : Int) false 37 = _ := a1
 unfold cMod at h
 split at h
 ·rename_i ht
  rw [ht] at a1
  rw [← a2] at h
  cases hp : pNum (Lb s i1) with
  | none => rw [hp] at h; cases h
  | some p =>
   obtain ⟨v, q0⟩ := p
   rw [hp] at h
   dsimp only at h
   split at h
   ·cases h
   rename_i hv
   cases h
   obtain ⟨i2, c1, c2, c3, c4⟩ := dig_c s hs i1 a4 hp
   rw [← c2] at h'
   obtain ⟨i3, d1, d2, d3, d4⟩ := j3_c s hs i2 c4 a (m : Int) d e c h'
   exact ⟨i3, (by refine Ev.step (fun k => by rw [zal.j2]) ?_; refine Ev.bind (Ev.done a1) ?_; refine Ev.pos rfl ?_; refine Ev.bind c1 ?_; refine Ev.neg yq10 ?_; exact d1), d2, yq10, d4⟩
 rename_i ht
 have ht' : (pOpt 37 (Lb s i)).1 = false := by simpa using ht
 rw [ht'] at a1
 cases h
 have e2 : Lb s i1 = Lb s i := by rw [a2]; exact pOpt_no ht'
 rw [← e2] at h'
 obtain ⟨i3, d1, d2, d3, d4⟩ := j3_c s hs i1 a4 a 0 d e c h'
 exact ⟨i3, (by refine Ev.step (fun k => by rw [zal.j2]) ?_; refine Ev.bind (Ev.done a1) ?_; refine Ev.neg yq27 ?_; exact d1), d2, yq10, d4⟩
theorem of_cases {c : UInt8} (h : isOf c = true) : ∃ t : Nat, t < 4 ∧ c = ([105, 102, 118, 110] : List UInt8).getD t 0 ∧ ∀ u, u < t → c ≠ ([105, 102, 118, 110] : List UInt8).getD u 0 := by
 unfold isOf at h
 simp only [Bool.or_eq_true, beq_iff_eq] at h
 rcases h with ((rfl | rfl) | rfl) | rfl
 ·exact ⟨0, yq10, rfl, fun u hu => by omega⟩
 ·exact ⟨1, yq10, rfl, fun u hu => by rcases (show u = 0 by omega) with rfl; decide⟩
 ·exact ⟨2, yq10, rfl, fun u hu => by rcases (show u = 0 ∨ u = 1 by omega) with rfl | rfl <;> decide⟩
 exact ⟨3, yq10, rfl, fun u hu => by rcases (show u = 0 ∨ u = 1 ∨ u = 2 by omega) with rfl | rfl | rfl <;> decide⟩
theorem test_c (s : ByteArray) (hs : s.size ≤ 1099511627776) (i : Nat) (hi : i ≤ s.size) {y : TI} {q : List UInt8} (h : cTest (Lb s i) = some (y, q)) : ∃ (k i' : Nat), zal.f k s (i : Int) false = some (y.1, y.2.1, y.2.2.1, y.2.2.2.1, y.2.2.2.2, s, (i' : Int), false) ∧ Lb s i' = q ∧ i + 1 ≤ i' ∧ i' ≤ s.size := by
 have hlt : i < s.size := by
  rcases Nat.lt_or_ge i s.size with h1 | h1
  ·exact h1
  rw [Lb_end s i h1] at h; cases h
 obtain ⟨c, hc, hbt⟩ := Lb_at s i hlt
 rw [hc] at h
 replace h : (if isOf c = true then (match cMod (Lb s (i + 1)) with | none => none | some (m, q) => (cEq q).map fun p => (((c.toNat : Int), (m : Int), p.1.1, (p.1.2.1 : Int), (p.1.2.2 : Int)), p.2)) else none) = some (y, q) := h
 split at h
 case isFalse => cases h
 rename_i ho
 cases hm : cMod (Lb s (i + 1)) with
 | none => rw [hm] at h; cases h
 | some p =>
  obtain ⟨m, q0⟩ := p
  rw [hm] at h
  obtain ⟨p', h1, h2⟩ := Option.map_eq_some_iff.1 h
  obtain ⟨⟨n, lo, up⟩, q1⟩ := p'
  simp only [Prod.mk.injEq] at h2
  obtain ⟨rfl, rfl⟩ := h2
  have bts : ∀ t : Nat, t < 4 → bt (⟨#[105, 102, 118, 110]⟩ : ByteArray) (t : Int) = (([105, 102, 118, 110] : List UInt8).getD t 0).toNat := by
   intro t ht
   have : t = 0 ∨ t = 1 ∨ t = 2 ∨ t = 3 := by omega
   rcases this with rfl | rfl | rfl | rfl <;> rfl
  obtain ⟨t, ht4, hct, hcu⟩ := of_cases ho
  obtain ⟨i', g1, g2, g3, g4⟩ := j2_c s hs (i + 1) yq10 (c.toNat : Int) 0 0 false hm h1
  have hpo : ∀ b : UInt8, pOpt b (Lb s i) = if c = b then (true, Lb s (i + 1)) else (false, c :: Lb s (i + 1)) := fun b => by rw [hc]; rfl
  have go : ∀ (d u : Nat), u + d = t → Ev (fun k => zal.l0 k (u : Int) s (i : Int) false 0 0 false 0 0) ((c.toNat : Int), (m : Int), n, (lo : Int), (up : Int), s, (i' : Int), false) := by
   intro d
   induction d with
   | zero =>
    intro u hu
    obtain rfl : u = t := by omega
    obtain ⟨i1, a1, a2, a3, a4⟩ := take_q s hs i hi (([105, 102, 118, 110] : List UInt8).getD u 0)
    rw [← bts u ht4, hpo, if_pos hct] at a1
    rw [hpo, if_pos hct] at a2
    have e2 : i1 = i + 1 := by
     have hl : (Lb s i1).length = (Lb s (i + 1)).length := by rw [a2]
     rw [Lb_len, Lb_len] at hl
     omega
    subst e2
    have hne : bt (⟨#[105, 102, 118, 110]⟩ : ByteArray) (u : Int) ≠ 0 := by
     have : u = 0 ∨ u = 1 ∨ u = 2 ∨ u = 3 := by omega
     rcases this with rfl | rfl | rfl | rfl <;> (intro h; cases h)
    have hcc : bt (⟨#[105, 102, 118, 110]⟩ : ByteArray) (u : Int) = (c.toNat : Int) := by rw [bts u ht4, ← hct]
    rw [hcc] at a1 hne
    refine Ev.step (fun k => by rw [zal.l0, hcc]) ?_
    refine Ev.pos yq10 (Ev.pos yq10 (Ev.bind (Ev.done a1) (Ev.pos rfl ?_)))
    exact Ev.step (fun k => by rw [zal.j1]) (Ev.neg hne g1)
   | succ d ih =>
    intro u hu
    obtain ⟨i1, a1, a2, a3, a4⟩ := take_q s hs i hi (([105, 102, 118, 110] : List UInt8).getD u 0)
    rw [← bts u yq10, hpo, if_neg (hcu u yq10)] at a1
    rw [hpo, if_neg (hcu u yq10), ← hc] at a2
    have e2 : i1 = i := by
     have hl : (Lb s i1).length = (Lb s i).length := by rw [a2]
     rw [Lb_len, Lb_len] at hl
     omega
    subst e2
    have e3 := zaa.mk (w_succ u yq10)
    refine Ev.step (fun k => by rw [zal.l0, e3.out]) ?_
    exact Ev.pos yq10 (Ev.pos yq10 (Ev.bind (Ev.done a1) (Ev.neg yq27 (ih (u + 1) yq10))))
  obtain ⟨k, hk⟩ := go t 0 yq10
  replace hk := hk k (Nat.le_refl _)
  exact ⟨k, i', hk, g2, yq10, g4⟩
end Go.Proofs.YtfafjbolmeimmaaGreatDoor.P
