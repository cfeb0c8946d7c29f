/- Numbers as they are written: what ParseInt and FormatInt say of digits. -/
import Derived.Test.YtfafjbolmeimmaaDoorXRuP
import Derived.Lib.ItoaNum
import Derived.Lib.ParseIntB
namespace Go.Proofs.YtfafjbolmeimmaaDoor.P
open Go.RowKit Go.Proofs.YtfafjbolmeimmaaDoorW.PrintWords
set_option linter.unusedVariables false
theorem fold_ge (l : List UInt8) : ∀ a : Nat, a ≤ l.foldl (fun n c => n * 10 + (c.toNat - 48)) a := by
  induction l with
  | nil => intro a; exact Nat.le_refl _
  | cons c r ih =>
    intro a
    have := ih (a * 10 + (c.toNat - 48))
    rw [List.foldl_cons]
    omega
theorem pu_ok (M : Nat) (l : List UInt8) : ∀ (a u : Nat), Go.Lib.parseUintM M a l = .ok u → u = l.foldl (fun n c => n * 10 + (c.toNat - 48)) a := by
  induction l with
  | nil => intro a u h; unfold Go.Lib.parseUintM at h; injection h with h; exact h.symm
  | cons c r ih =>
    intro a u h
    unfold Go.Lib.parseUintM at h
    split at h
    · split at h
      · cases h
      · split at h
        · cases h
        · exact ih _ _ h
    · cases h
theorem pu_small (M : Nat) (hM : 1000000 ≤ M) (l : List UInt8) (hd : ∀ c ∈ l, isDg c = true) : ∀ a : Nat, l.foldl (fun n c => n * 10 + (c.toNat - 48)) a ≤ 1000000 → Go.Lib.parseUintM M a l = .ok (l.foldl (fun n c => n * 10 + (c.toNat - 48)) a) := by
  induction l with
  | nil => intro a h; rfl
  | cons c r ih =>
    intro a h
    rw [List.foldl_cons] at h ⊢
    have h1 := fold_ge r (a * 10 + (c.toNat - 48))
    have h2 : 48 ≤ c.toNat ∧ c.toNat ≤ 57 := by have := hd c (List.mem_cons_self ..); unfold isDg at this; exact of_decide_eq_true this
    unfold Go.Lib.parseUintM
    rw [if_pos h2, if_neg (by omega), if_neg (by omega)]
    exact ih (fun c hc => hd c (List.mem_cons_of_mem _ hc)) _ h
theorem val_snoc (l : List UInt8) (c : UInt8) : valD (l ++ [c]) = valD l * 10 + (c.toNat - 48) := by
  unfold valD
  rw [List.foldl_append]
  rfl
theorem dg_of (c : UInt8) (h : isDg c = true) : 48 ≤ c.toNat ∧ c.toNat ≤ 57 := by unfold isDg at h; exact of_decide_eq_true h
theorem dec_back (l : List UInt8) (hd : ∀ c ∈ l, isDg c = true) : ∀ c r, l = c :: r → c ≠ 48 → 1 ≤ valD l ∧ Go.Lib.decDigits (valD l) = l := by
  obtain ⟨n, hn⟩ : ∃ n, l.length = n := ⟨_, rfl⟩
  induction n generalizing l with
  | zero => intro c r h; rw [h] at hn; simp at hn
  | succ n ih =>
    intro c r h hc
    rcases List.eq_nil_or_concat l with h' | ⟨p, z, h'⟩
    · rw [h'] at h; cases h
    · rw [List.concat_eq_append] at h'
      subst h'
      have hz := dg_of z (hd z (by simp))
      have ez : UInt8.ofNat (48 + (z.toNat - 48)) = z := by rw [show 48 + (z.toNat - 48) = z.toNat by omega]; simp
      cases p with
      | nil =>
        simp only [List.nil_append, List.cons.injEq] at h
        obtain ⟨rfl, rfl⟩ := h
        have hv : valD ([] ++ [z]) = z.toNat - 48 := by rw [val_snoc]; show 0 * 10 + _ = _; omega
        have hne : z.toNat ≠ 48 := fun e => hc (by apply UInt8.toNat_inj.1; rw [e]; rfl)
        rw [hv]
        exact ⟨by omega, by rw [Go.Lib.decDigits_one (by omega), ez]; rfl⟩
      | cons c' p' =>
        simp only [List.cons_append, List.cons.injEq] at h
        obtain ⟨rfl, h⟩ := h
        have hp : (c' :: p').length = n := by simpa using hn
        obtain ⟨h1, h2⟩ := ih (c' :: p') (fun c hc => hd c (List.mem_append_left _ hc)) hp c' p' rfl hc
        rw [val_snoc]
        refine ⟨by omega, ?_⟩
        rw [Go.Lib.decDigits, dif_neg (by omega)]
        rw [show (valD (c' :: p') * 10 + (z.toNat - 48)) / 10 = valD (c' :: p') by omega, show (valD (c' :: p') * 10 + (z.toNat - 48)) % 10 = z.toNat - 48 by omega, h2, ez]
theorem dec_head (u : Nat) : ∀ c r, Go.Lib.decDigits u = c :: r → c = 48 → r = [] := by
  induction u using Nat.strongRecOn with
  | ind u ih =>
    intro c r h hc
    rw [Go.Lib.decDigits] at h
    split at h
    · cases h; rfl
    · rename_i hu
      obtain ⟨c', r', e⟩ : ∃ c' r', Go.Lib.decDigits (u / 10) = c' :: r' := by
        rcases hd : Go.Lib.decDigits (u / 10) with _ | ⟨c', r'⟩
        · rw [Go.Lib.decDigits] at hd
          split at hd <;> simp at hd
        · exact ⟨c', r', rfl⟩
      rw [e] at h
      simp only [List.cons_append, List.cons.injEq] at h
      obtain ⟨rfl, h⟩ := h
      have e2 := ih (u / 10) (by omega) c' r' e hc
      subst e2
      -- decDigits (u / 10) = [48]: u / 10 = 0
      rw [hc, Go.Lib.decDigits] at e
      split at e
      · rename_i h10
        simp only [List.cons.injEq, and_true] at e
        have := congrArg UInt8.toNat e
        rw [UInt8.toNat_ofNat'] at this
        have e3 : (48 : UInt8).toNat = 48 := rfl
        rw [e3] at this
        omega
      · rename_i h10
        exfalso
        have := congrArg List.length e
        rw [List.length_append] at this
        have h0 : 0 < (Go.Lib.decDigits (u / 10 / 10)).length := by
          rw [Go.Lib.decDigits]
          split <;> simp
        simp only [List.length_cons, List.length_nil] at this
        omega
/-- Digits that are a number as it is written: what the program asks. -/
theorem num_ok (w : List UInt8) (hd : ∀ c ∈ w, isDg c = true) (v : Int) : (Go.Lib.parseIntB 64 w = .ok v ∧ Go.Lib.itoa v = w ∧ v ≤ 1000000) ↔ (∃ c r, w = c :: r ∧ (c = 48 → r = []) ∧ valD w ≤ 1000000 ∧ v = (valD w : Int)) := by
  constructor
  · rintro ⟨h1, h2, h3⟩
    cases w with
    | nil => cases h1
    | cons c r =>
      have hc := dg_of c (hd c (List.mem_cons_self ..))
      unfold Go.Lib.parseIntB at h1
      dsimp only at h1
      rw [if_neg (by omega)] at h1
      unfold Go.Lib.parseUintB at h1
      rw [if_neg (by simp)] at h1
      split at h1
      · cases h1
      · cases h1
      · rename_i u hu
        have hu := pu_ok _ _ _ _ hu
        split at h1
        · cases h1
        · split at h1
          · cases h1
          · rw [if_neg (by omega)] at h1
            injection h1 with h1
            subst h1
            have eu : u = valD (c :: r) := hu
            refine ⟨c, r, rfl, ?_, by omega, by rw [eu]⟩
            unfold Go.Lib.itoa at h2
            rw [if_neg (by omega), Int.toNat_natCast] at h2
            exact dec_head u c r h2
  · rintro ⟨c, r, rfl, h1, h2, rfl⟩
    have hc := dg_of c (hd c (List.mem_cons_self ..))
    refine ⟨?_, ?_, by omega⟩
    · unfold Go.Lib.parseIntB
      dsimp only
      rw [if_neg (by omega)]
      unfold Go.Lib.parseUintB
      rw [if_neg (by simp), pu_small _ (by decide) _ hd 0 h2]
      dsimp only
      rw [if_neg (by intro h; have h4 := h.2; have : (2 : Nat) ^ (64 - 1) = 9223372036854775808 := by decide
                     rw [this] at h4
                     have : List.foldl (fun n (c : UInt8) => n * 10 + (c.toNat - 48)) 0 (c :: r) ≤ 1000000 := h2
                     omega), if_neg (by omega), if_neg (by omega)]
      rfl
    · unfold Go.Lib.itoa
      rw [if_neg (by omega), Int.toNat_natCast]
      by_cases h0 : c = 48
      · rw [h1 h0, h0]
        have : valD [48] = 0 := rfl
        rw [this, Go.Lib.decDigits_one (by omega)]
        rfl
      · exact (dec_back _ hd c r rfl h0).2
end Go.Proofs.YtfafjbolmeimmaaDoor.P
