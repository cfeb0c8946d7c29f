/- spec's l17ReadRule and RuleFault, walked. -/
import Derived.Test.YtfafjbolmeimmaaDoorXRuQ
import Derived.Test.YtfafjbolmeimmaaDoorXRfV
import Derived.Test.YtfafjbolmeimmaaDoorU3
namespace Go.Proofs.YtfafjbolmeimmaaDoor.P
open Go.RowKit Go.Proofs.YtfafjbolmeimmaaDoorW.PrintWords Go.Proofs.YtfafjbolmeimmaaDoorW.PrintLast Go.Proofs.YtfafjbolmeimmaaDoorW.PrintMore
set_option linter.unusedVariables false
set_option linter.unusedSimpArgs false
def afterR : List UInt8 → Bool
  | [] => true
  | c :: q => if isSep c = true then pRule q else false
def restR : List UInt8 → Bool
  | [] => true
  | c :: q => if c = 124 then pRule q else false
theorem rule_after {l q : List UInt8} (h : pTest l = some q) : pRule l = afterR q := by
  cases q with
  | nil => rw [pRule_end h]; rfl
  | cons c r =>
    show _ = if isSep c = true then pRule r else false
    rw [pRule]
    split
    · rename_i h2; rw [h] at h2; cases h2
    · rename_i h2; rw [h] at h2; cases h2
    · rename_i h2; rw [h] at h2; cases h2; rfl
theorem after_take (r : List UInt8) : ((pOpt 38 r).1 = true → afterR r = pRule (pOpt 38 r).2) ∧ ((pOpt 38 r).1 = false → afterR r = restR (pOpt 38 r).2) := by
  cases r with
  | nil => exact ⟨fun h => by (cases h), fun _ => rfl⟩
  | cons c q =>
    have e : pOpt 38 (c :: q) = if c = 38 then (true, q) else (false, c :: q) := rfl
    rw [e]
    by_cases h : c = 38
    · subst h
      exact ⟨fun _ => rfl, fun h => by (cases h)⟩
    · rw [if_neg h]
      refine ⟨fun h => by (cases h), fun _ => ?_⟩
      show (if isSep c = true then pRule q else false) = if c = 124 then pRule q else false
      by_cases h2 : c = 124
      · subst h2; rfl
      · have : isSep c = false := by unfold isSep; rw [beq_eq_false_iff_ne.2 h, beq_eq_false_iff_ne.2 h2]; rfl
        rw [this, if_neg (by simp), if_neg h2]
theorem rest_take (r : List UInt8) : ((pOpt 124 r).1 = true → restR r = pRule (pOpt 124 r).2) ∧ ((pOpt 124 r).1 = false → restR r = (pOpt 124 r).2.isEmpty) := by
  cases r with
  | nil => exact ⟨fun h => by (cases h), fun _ => rfl⟩
  | cons c q =>
    have e : pOpt 124 (c :: q) = if c = 124 then (true, q) else (false, c :: q) := rfl
    rw [e]
    by_cases h : c = 124
    · subst h
      exact ⟨fun _ => rfl, fun h => by (cases h)⟩
    · rw [if_neg h]
      refine ⟨fun h => by (cases h), fun _ => ?_⟩
      show (if c = 124 then pRule q else false) = false
      rw [if_neg h]
theorem Lb_all (s : ByteArray) : Lb s 0 = s.data.toList := rfl
/-- Where the reader stands: what the whole rule's answer hangs on. -/
def Tr (s : ByteArray) (f : List UInt8 → Bool) (lo : Nat) (at_ : Int) (bad : Bool) : Prop :=
  (bad = true → pRule s.data.toList = false) ∧ (bad = false → ∃ i : Nat, at_ = (i : Int) ∧ lo ≤ i ∧ i ≤ s.size ∧ pRule s.data.toList = f (Lb s i))
/-- One test is read. -/
theorem Tr.test {s : ByteArray} (hs : s.size ≤ 1099511627776) {lo : Nat} {at_ : Int} (h : Tr s pRule lo at_ false) :
    ∃ (k : Nat) (a b : Int) (c : Bool) (d e j : Int) (bad : Bool), spec_l17ReadTest.f k s at_ false = some (a, b, c, d, e, s, j, bad) ∧ Tr s afterR (at_.toNat + 1) j bad := by
  obtain ⟨i, rfl, h1, h2, h3⟩ := h.2 rfl
  obtain ⟨a, b, c, d, e, j, bad, ⟨k, hk⟩, h4, h5⟩ := test_q s hs i h2
  refine ⟨k, a, b, c, d, e, j, bad, hk k (Nat.le_refl _), fun hb => ?_, fun hb => ?_⟩
  · cases hp : pTest (Lb s i) with
    | none => rw [h3, pRule_none hp]
    | some q => rw [(h4 q hp).1] at hb; cases hb
  · cases hp : pTest (Lb s i) with
    | none => rw [h5 hp] at hb; cases hb
    | some q =>
      obtain ⟨_, i', e1, e2, e3, e4⟩ := h4 q hp
      have hl := pTest_len hp
      rw [← e2, Lb_len, Lb_len] at hl
      exact ⟨i', e1, by rw [Int.toNat_natCast]; omega, e4, by rw [h3, rule_after hp, e2]⟩
/-- A sign is taken, or not. -/
theorem Tr.take {s : ByteArray} (hs : s.size ≤ 1099511627776) {lo : Nat} {at_ : Int} {bad : Bool} {f g : List UInt8 → Bool} (b : UInt8) (hfg : ∀ r, ((pOpt b r).1 = true → f r = pRule (pOpt b r).2) ∧ ((pOpt b r).1 = false → f r = g (pOpt b r).2)) (h : Tr s f lo at_ bad) :
    ∃ (on : Bool) (j : Int), spec_l04Reader_take.f s at_ bad (b.toNat : Int) = some (on, s, j, bad) ∧ Tr s (if on = true then pRule else g) lo j bad := by
  cases bad with
  | true => exact ⟨false, at_, take_b s at_ _, fun _ => h.1 rfl, fun h => by (cases h)⟩
  | false =>
    obtain ⟨i, rfl, h1, h2, h3⟩ := h.2 rfl
    obtain ⟨i', e1, e2, e3, e4⟩ := take_q s hs i h2 b
    refine ⟨(pOpt b (Lb s i)).1, i', e1, fun h => by (cases h), fun _ => ⟨i', rfl, by omega, e4, ?_⟩⟩
    rw [h3, e2]
    cases hb : (pOpt b (Lb s i)).1 with
    | true => rw [if_pos rfl]; exact (hfg _).1 hb
    | false => rw [if_neg (by simp)]; exact (hfg _).2 hb
end Go.Proofs.YtfafjbolmeimmaaDoor.P
