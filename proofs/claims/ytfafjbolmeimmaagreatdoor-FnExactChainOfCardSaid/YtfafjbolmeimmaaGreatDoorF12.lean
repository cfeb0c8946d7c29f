/- Parts of a proof: words of the print tool that this claim uses, or plain lists. -/
import Derived.Test.YtfafjbolmeimmaaGreatDoorAb
import Derived.Test.YtfafjbolmeimmaaGreatDoorWWords
import Derived.Lib.RuneBytes
import Derived.Lib.ItoaNum
import Derived.Lib.ParseIntB
import Derived.Lib.Strings
import Derived.Lib.Bytealg
import Derived.Lib.Split
namespace Go.Proofs.YtfafjbolmeimmaaGreatDoor.P
open Go.RowKit Go.Proofs.YtfafjbolmeimmaaGreatDoorW.PrintWords
set_option linter.unusedVariables false
def isPt (p : Int) : Bool := decide (0 ≤ p ∧ p ≤ 1114111 ∧ (p < 55296 ∨ 57343 < p))
theorem isPt_iff {p : Int} : isPt p = true ↔ 0 ≤ p ∧ p ≤ 1114111 ∧ (p < 55296 ∨ 57343 < p) := by unfold isPt; simp
def wrNums (p : Int) : List Int :=
 if p < 128 then [p % 256] else if p < 2048 then [(192 + p / 64) % 256, (128 + p % 64) % 256]
 else if p < 65536 then [(224 + p / 4096) % 256, (128 + p / 64 % 64) % 256, (128 + p % 64) % 256]
 else [(240 + p / 262144) % 256, (128 + p / 4096 % 64) % 256, (128 + p / 64 % 64) % 256, (128 + p % 64) % 256]
def wrP (p : Int) : ByteArray := strOfNums (wrNums (if isPt p then p else 65533))
def wrB (p : Int) : List Int := wrNums (if isPt p then p else 65533)
def txtB (l : List Int) : List Int := l.flatMap wrB
def txt (l : List Int) : ByteArray := strOfNums (txtB l)
theorem wrB_len (p : Int) : 1 ≤ (wrB p).length ∧ (wrB p).length ≤ 4 := by
 unfold wrB
 generalize (if isPt p = true then p else 65533) = q
 unfold wrNums
 repeat' split
 all_goals (simp only [List.length_cons, List.length_nil]; omega)
end Go.Proofs.YtfafjbolmeimmaaGreatDoor.P
namespace Go.Proofs.YtfafjbolmeimmaaGreatDoor.P
open Go.RowKit Go.Proofs.YtfafjbolmeimmaaGreatDoorW.PrintWords
set_option linter.unusedVariables false
def isDg (c : UInt8) : Bool := decide (48 ≤ c.toNat ∧ c.toNat ≤ 57)
def isSep (c : UInt8) : Bool := c == 38 || c == 124
def valD (l : List UInt8) : Nat := l.foldl (fun n c => n * 10 + (c.toNat - 48)) 0
def pNum : List UInt8 → Option (Nat × List UInt8)
 | [] => none
 | c :: r => if isDg c = false then none else if c = 48 then some (0, r)
  else if valD ((c :: r).takeWhile isDg) ≤ 1000000 then some (valD ((c :: r).takeWhile isDg), (c :: r).dropWhile isDg) else none
theorem pNum_cons (c : UInt8) (r : List UInt8) : pNum (c :: r) = if isDg c = false then none else if c = 48 then some (0, r)
  else if valD ((c :: r).takeWhile isDg) ≤ 1000000 then some (valD ((c :: r).takeWhile isDg), (c :: r).dropWhile isDg) else none := rfl
def pOpt (b : UInt8) : List UInt8 → Bool × List UInt8
 | [] => (false, [])
 | c :: r => if c = b then (true, r) else (false, c :: r)
def isOf (c : UInt8) : Bool := c == 105 || c == 102 || c == 118 || c == 110
def pMod (r : List UInt8) : Option (List UInt8) :=
 if (pOpt 37 r).1 = true then (match pNum (pOpt 37 r).2 with | none => none | some (m, q) => if m = 0 then none else some q) else some r
def pHigh (r : List UInt8) : Option (List UInt8) :=
 if (pOpt 46 r).1 = true then (if (pOpt 46 (pOpt 46 r).2).1 = true then (match pNum (pOpt 46 (pOpt 46 r).2).2 with | none => none | some (m, q) => some q) else none) else some r
def pEq (r : List UInt8) : Option (List UInt8) :=
 if (pOpt 61 (pOpt 33 r).2).1 = true then (match pNum (pOpt 61 (pOpt 33 r).2).2 with | none => none | some (m, q) => pHigh q) else none
def pTest : List UInt8 → Option (List UInt8)
 | [] => none
 | c :: r => if isOf c = true then (match pMod r with | none => none | some q => pEq q) else none
def Stop (r : List UInt8) : Prop := r = [] ∨ ∃ c q, r = c :: q ∧ isSep c = true
theorem pOpt_local (b : UInt8) (hb : isSep b = false) (x r : List UInt8) (hr : Stop r) : pOpt b (x ++ r) = ((pOpt b x).1, (pOpt b x).2 ++ r) := by
 cases x with
 | nil =>
  rcases hr with rfl | ⟨c, q, rfl, hc⟩
  ·rfl
  show (if c = b then (true, q) else (false, c :: q)) = (false, c :: q)
  rw [if_neg]
  rintro rfl
  rw [hb] at hc
  cases hc
 | cons c x =>
  show (if c = b then (true, x ++ r) else (false, c :: (x ++ r))) = ((if c = b then (true, x) else (false, c :: x)).1, (if c = b then (true, x) else (false, c :: x)).2 ++ r)
  split <;> rfl
theorem sep_dg {c : UInt8} (h : isSep c = true) : isDg c = false := by
 unfold isSep at h
 unfold isDg
 rcases (Bool.or_eq_true _ _).mp h with h | h
 ·rw [beq_iff_eq.1 h]; rfl
 rw [beq_iff_eq.1 h]; rfl
theorem take_local (x r : List UInt8) (hr : Stop r) : (x ++ r).takeWhile isDg = x.takeWhile isDg ∧ (x ++ r).dropWhile isDg = x.dropWhile isDg ++ r := by
 induction x with
 | nil =>
  rcases hr with rfl | ⟨c, q, rfl, hc⟩
  ·exact ⟨rfl, rfl⟩
  show (c :: q).takeWhile isDg = [] ∧ (c :: q).dropWhile isDg = c :: q
  rw [List.takeWhile_cons, List.dropWhile_cons, sep_dg hc]
  exact ⟨rfl, rfl⟩
 | cons c x ih =>
  rw [List.cons_append, List.takeWhile_cons, List.dropWhile_cons, List.takeWhile_cons, List.dropWhile_cons]
  cases isDg c
  ·exact ⟨rfl, rfl⟩
  exact ⟨by rw [if_pos rfl, if_pos rfl, ih.1], by rw [if_pos rfl, if_pos rfl, ih.2]⟩
theorem pNum_local (x r : List UInt8) (hr : Stop r) : pNum (x ++ r) = (pNum x).map (fun p => (p.1, p.2 ++ r)) := by
 cases x with
 | nil =>
  rcases hr with rfl | ⟨c, q, rfl, hc⟩
  ·rfl
  show (if isDg c = false then none else _) = none
  rw [if_pos (sep_dg hc)]
 | cons c x =>
  have e := take_local (c :: x) r hr
  rw [List.cons_append] at e ⊢
  rw [pNum_cons, pNum_cons, e.1, e.2]
  by_cases h1 : isDg c = false
  ·rw [if_pos h1, if_pos h1]; rfl
  rw [if_neg h1, if_neg h1]
  by_cases h2 : c = 48
  ·rw [if_pos h2, if_pos h2]; rfl
  rw [if_neg h2, if_neg h2]
  split <;> rfl
theorem pMod_local (x r : List UInt8) (hr : Stop r) : pMod (x ++ r) = (pMod x).map (· ++ r) := by
 unfold pMod
 rw [pOpt_local 37 rfl x r hr]
 dsimp only
 split
 ·rw [pNum_local _ r hr]
  cases pNum (pOpt 37 x).2 with
  | none => rfl
  | some p =>
   obtain ⟨m, q⟩ := p
   show (if m = 0 then none else some (q ++ r)) = _
   dsimp only
   split <;> rfl
 rfl
theorem pHigh_local (x r : List UInt8) (hr : Stop r) : pHigh (x ++ r) = (pHigh x).map (· ++ r) := by
 unfold pHigh
 rw [pOpt_local 46 rfl x r hr]
 dsimp only
 rw [pOpt_local 46 rfl _ r hr]
 dsimp only
 split
 ·split
  ·rw [pNum_local _ r hr]
   cases pNum (pOpt 46 (pOpt 46 x).2).2 with
   | none => rfl
   | some p => rfl
  rfl
 rfl
theorem pEq_local (x r : List UInt8) (hr : Stop r) : pEq (x ++ r) = (pEq x).map (· ++ r) := by
 unfold pEq
 rw [pOpt_local 33 rfl x r hr]
 dsimp only
 rw [pOpt_local 61 rfl _ r hr]
 dsimp only
 split
 ·rw [pNum_local _ r hr]
  cases pNum (pOpt 61 (pOpt 33 x).2).2 with
  | none => rfl
  | some p => exact pHigh_local _ r hr
 rfl
theorem pTest_local (x r : List UInt8) (hx : x ≠ []) (hr : Stop r) : pTest (x ++ r) = (pTest x).map (· ++ r) := by
 cases x with
 | nil => exact absurd rfl hx
 | cons c x =>
  show (if isOf c = true then (match pMod (x ++ r) with | none => none | some q => pEq q) else none) = Option.map _ (if isOf c = true then (match pMod x with | none => none | some q => pEq q) else none)
  rw [pMod_local x r hr]
  split
  ·cases pMod x with
   | none => rfl
   | some q => exact pEq_local q r hr
  rfl
theorem pTest_nil (r : List UInt8) (hr : Stop r) : pTest r = none := by
 rcases hr with rfl | ⟨c, q, rfl, hc⟩
 ·rfl
 show (if isOf c = true then _ else none) = none
 rw [if_neg]
 intro h
 unfold isSep at hc
 rcases (Bool.or_eq_true _ _).mp hc with h' | h'
 ·rw [beq_iff_eq.1 h'] at h; exact absurd h yq38
 rw [beq_iff_eq.1 h'] at h; exact absurd h yq38
theorem pOpt_len (b : UInt8) (l : List UInt8) : (pOpt b l).2.length ≤ l.length := by
 unfold pOpt
 split
 ·exact Nat.le_refl _
 split
 ·simp
 exact Nat.le_refl _
theorem pNum_len {l q : List UInt8} {m : Nat} (h : pNum l = some (m, q)) : q.length < l.length := by
 unfold pNum at h
 split at h
 ·cases h
 rename_i c r
 split at h
 ·cases h
 split at h
 ·cases h; simp
 split at h
 ·cases h
  rename_i hd _ _
  have : isDg c = true := by simpa using hd
  rw [List.dropWhile_cons, if_pos this, List.length_cons]
  have := (List.dropWhile_sublist (l := r) isDg).length_le
  omega
 cases h
theorem pTest_len {l q : List UInt8} (h : pTest l = some q) : q.length < l.length := by
 unfold pTest at h
 split at h
 ·cases h
 rename_i c r
 split at h
 ·split at h
  ·cases h
  rename_i q1 hq1
  have h1 : q1.length ≤ r.length := by
   unfold pMod at hq1
   split at hq1
   ·split at hq1
    ·cases hq1
    rename_i m q2 h2
    split at hq1
    ·cases hq1
    cases hq1
    have := pNum_len h2
    have := pOpt_len 37 r
    omega
   cases hq1; exact Nat.le_refl _
  have h2 : q.length ≤ q1.length := by
   unfold pEq at h
   split at h
   ·split at h
    ·cases h
    rename_i m q2 h2
    have a1 := pNum_len h2
    have a2 := pOpt_len 61 (pOpt 33 q1).2
    have a3 := pOpt_len 33 q1
    have h3 : q.length ≤ q2.length := by
     unfold pHigh at h
     split at h
     ·split at h
      ·split at h
       ·cases h
       rename_i m3 q3 h3
       cases h
       have b1 := pNum_len h3
       have b2 := pOpt_len 46 (pOpt 46 q2).2
       have b3 := pOpt_len 46 q2
       omega
      cases h
     cases h; exact Nat.le_refl _
    omega
   cases h
  rw [List.length_cons]
  omega
 cases h
def pRule (l : List UInt8) : Bool :=
 match h : pTest l with
 | none => false
 | some [] => true
 | some (c :: q) => if isSep c = true then pRule q else false
termination_by l.length
decreasing_by have := pTest_len h; rw [List.length_cons] at this; omega
def okI (x : List UInt8) : Bool := pTest x == some []
def allP : List UInt8 → List UInt8 → Bool
 | cur, [] => okI cur
 | cur, c :: r => if isSep c = true then okI cur && allP [] r else allP (cur ++ [c]) r
theorem pRule_none {l : List UInt8} (h : pTest l = none) : pRule l = false := by
 rw [pRule]; split
 ·rfl
 ·rename_i h2; rw [h] at h2; cases h2
 rename_i h2; rw [h] at h2; cases h2
theorem pRule_end {l : List UInt8} (h : pTest l = some []) : pRule l = true := by
 rw [pRule]; split
 ·rename_i h2; rw [h] at h2; cases h2
 ·rfl
 rename_i h2; rw [h] at h2; cases h2
theorem pRule_on {l q : List UInt8} {c : UInt8} (h : pTest l = some (c :: q)) : pRule l = if isSep c = true then pRule q else false := by
 rw [pRule]; split
 ·rename_i h2; rw [h] at h2; cases h2
 ·rename_i h2; rw [h] at h2; cases h2
 rename_i h2; rw [h] at h2; cases h2; rfl
def noSep (x : List UInt8) : Prop := ∀ c ∈ x, isSep c = false
theorem pTest_suf {l q : List UInt8} (h : pTest l = some q) : ∀ c ∈ q, c ∈ l := by
 have hO : ∀ (b : UInt8) (l : List UInt8), ∀ c ∈ (pOpt b l).2, c ∈ l := by
  intro b l c hc
  unfold pOpt at hc
  split at hc
  ·exact hc
  split at hc
  ·exact List.mem_cons_of_mem _ hc
  exact hc
 have hN : ∀ {l q : List UInt8} {m : Nat}, pNum l = some (m, q) → ∀ c ∈ q, c ∈ l := by
  intro l q m h c hc
  unfold pNum at h
  split at h
  ·cases h
  split at h
  ·cases h
  split at h
  ·cases h; exact List.mem_cons_of_mem _ hc
  split at h
  ·cases h
   exact (List.dropWhile_sublist isDg).subset hc
  cases h
 intro c hc
 unfold pTest at h
 split at h
 ·cases h
 rename_i c0 r
 refine List.mem_cons_of_mem _ ?_
 split at h
 ·split at h
  ·cases h
  rename_i q1 hq1
  have h1 : c ∈ q1 := by
   unfold pEq at h
   split at h
   ·split at h
    ·cases h
    rename_i m q2 h2
    refine hO 33 _ c (hO 61 _ c (hN h2 c ?_))
    unfold pHigh at h
    split at h
    ·split at h
     ·split at h
      ·cases h
      rename_i m3 q3 h3
      cases h
      exact hO 46 _ c (hO 46 _ c (hN h3 c hc))
     cases h
    cases h; exact hc
   cases h
  unfold pMod at hq1
  split at hq1
  ·split at hq1
   ·cases hq1
   rename_i m q2 h2
   split at hq1
   ·cases hq1
   cases hq1; exact hO 37 _ c (hN h2 c h1)
  cases hq1; exact h1
 cases h
theorem rule_eq : ∀ (l cur : List UInt8), noSep cur → pRule (cur ++ l) = allP cur l := by
 intro l
 induction l with
 | nil =>
  intro cur hc
  rw [List.append_nil]
  show _ = okI cur
  unfold okI
  cases h : pTest cur with
  | none => rw [pRule_none h]; rfl
  | some q =>
   cases q with
   | nil => rw [pRule_end h]; rfl
   | cons c q =>
    rw [pRule_on h, if_neg (by rw [hc c (pTest_suf h c (List.mem_cons_self ..))]; simp)]
    rfl
 | cons c r ih =>
  intro cur hc
  show _ = if isSep c = true then okI cur && allP [] r else allP (cur ++ [c]) r
  by_cases hs : isSep c = true
  ·rw [if_pos hs, ← ih [] (fun c hc => by cases hc), List.nil_append]
   have hst : Stop (c :: r) := .inr ⟨c, r, rfl, hs⟩
   cases cur with
   | nil =>
    rw [List.nil_append, pRule_none (pTest_nil _ hst)]
    rfl
   | cons c0 cur =>
    have hl := pTest_local (c0 :: cur) (c :: r) yq21 hst
    unfold okI
    cases h : pTest (c0 :: cur) with
    | none =>
     rw [h] at hl
     rw [pRule_none hl]; rfl
    | some q =>
     rw [h] at hl
     replace hl : pTest (c0 :: cur ++ c :: r) = some (q ++ c :: r) := hl
     cases q with
     | nil => rw [pRule_on hl, if_pos hs]; rfl
     | cons c1 q =>
      rw [pRule_on hl, if_neg (by rw [hc c1 (pTest_suf h c1 (List.mem_cons_self ..))]; simp)]
      rfl
  rw [if_neg hs, ← ih (cur ++ [c]) ?_, List.append_assoc]
  ·rfl
  intro d hd
  rcases List.mem_append.1 hd with h | h
  ·exact hc d h
  rw [List.mem_singleton.1 h]; simpa using hs
end Go.Proofs.YtfafjbolmeimmaaGreatDoor.P
namespace Go.Proofs.YtfafjbolmeimmaaGreatDoor.P
open Go.RowKit Go.Proofs.YtfafjbolmeimmaaGreatDoorW.PrintWords
set_option linter.unusedVariables false
theorem fold_ge (l : List UInt8) : ∀ a : Nat, a ≤ l.foldl (fun n c => n * 10 + (c.toNat - 48)) a := by
 induction l with
 | nil => intro a; exact Nat.le_refl _
 | cons c r ih =>
  intro a
  have := ih (a * 10 + (c.toNat - 48))
  rw [List.foldl_cons]
  omega
theorem pu_ok (M : Nat) (l : List UInt8) : ∀ (a u : Nat), Go.Lib.parseUintM M a l = .ok u → u = l.foldl (fun n c => n * 10 + (c.toNat - 48)) a := by
 induction l with
 | nil => intro a u h; unfold Go.Lib.parseUintM at h; injection h with h; exact h.symm
 | cons c r ih =>
  intro a u h
  unfold Go.Lib.parseUintM at h
  split at h
  ·split at h
   ·cases h
   split at h
   ·cases h
   exact ih _ _ h
  cases h
theorem pu_small (M : Nat) (hM : 1000000 ≤ M) (l : List UInt8) (hd : ∀ c ∈ l, isDg c = true) : ∀ a : Nat, l.foldl (fun n c => n * 10 + (c.toNat - 48)) a ≤ 1000000 → Go.Lib.parseUintM M a l = .ok (l.foldl (fun n c => n * 10 + (c.toNat - 48)) a) := by
 induction l with
 | nil => intro a h; rfl
 | cons c r ih =>
  intro a h
  rw [List.foldl_cons] at h ⊢
  have h1 := fold_ge r (a * 10 + (c.toNat - 48))
  have h2 : 48 ≤ c.toNat ∧ c.toNat ≤ 57 := by have := hd c (List.mem_cons_self ..); unfold isDg at this; exact of_decide_eq_true this
  unfold Go.Lib.parseUintM
  rw [if_pos h2, if_neg yq9, if_neg yq9]
  exact ih (fun c hc => hd c (List.mem_cons_of_mem _ hc)) _ h
theorem val_snoc (l : List UInt8) (c : UInt8) : valD (l ++ [c]) = valD l * 10 + (c.toNat - 48) := by
 unfold valD
 rw [List.foldl_append]
 rfl
theorem dg_of (c : UInt8) (h : isDg c = true) : 48 ≤ c.toNat ∧ c.toNat ≤ 57 := by unfold isDg at h; exact of_decide_eq_true h
theorem dec_back (l : List UInt8) (hd : ∀ c ∈ l, isDg c = true) : ∀ c r, l = c :: r → c ≠ 48 → 1 ≤ valD l ∧ Go.Lib.decDigits (valD l) = l := by
 obtain ⟨n, hn⟩ : ∃ n, l.length = n := ⟨_, rfl⟩
 induction n generalizing l with
 | zero => intro c r h; rw [h] at hn; simp at hn
 | succ n ih =>
  intro c r h hc
  rcases List.eq_nil_or_concat l with h' | ⟨p, z, h'⟩
  ·rw [h'] at h; cases h
  rw [List.concat_eq_append] at h'
  subst h'
  have hz := dg_of z (hd z yq21)
  have ez : UInt8.ofNat (48 + (z.toNat - 48)) = z := by rw [show 48 + (z.toNat - 48) = z.toNat by omega]; simp
  cases p with
  | nil =>
   simp only [List.nil_append, List.cons.injEq] at h
   obtain ⟨rfl, rfl⟩ := h
   have hv : valD ([] ++ [z]) = z.toNat - 48 := by rw [val_snoc]; show 0 * 10 + _ = _; omega
   have hne : z.toNat ≠ 48 := fun e => hc (by apply UInt8.toNat_inj.1; rw [e]; rfl)
   rw [hv]
   exact ⟨yq9, by rw [Go.Lib.decDigits_one yq9, ez]; rfl⟩
  | cons c' p' =>
   simp only [List.cons_append, List.cons.injEq] at h
   obtain ⟨rfl, h⟩ := h
   have hp : (c' :: p').length = n := by simpa using hn
   obtain ⟨h1, h2⟩ := ih (c' :: p') (fun c hc => hd c (List.mem_append_left _ hc)) hp c' p' rfl hc
   rw [val_snoc]
   refine ⟨yq9, ?_⟩
   rw [Go.Lib.decDigits, dif_neg yq9]
   rw [show (valD (c' :: p') * 10 + (z.toNat - 48)) / 10 = valD (c' :: p') by omega, show (valD (c' :: p') * 10 + (z.toNat - 48)) % 10 = z.toNat - 48 by omega, h2, ez]
theorem dec_head (u : Nat) : ∀ c r, Go.Lib.decDigits u = c :: r → c = 48 → r = [] := by
 induction u using Nat.strongRecOn with
 | ind u ih =>
  intro c r h hc
  rw [Go.Lib.decDigits] at h
  split at h
  ·cases h; rfl
  rename_i hu
  obtain ⟨c', r', e⟩ : ∃ c' r', Go.Lib.decDigits (u / 10) = c' :: r' := by
   rcases hd : Go.Lib.decDigits (u / 10) with _ | ⟨c', r'⟩
   ·rw [Go.Lib.decDigits] at hd
    split at hd <;> simp at hd
   exact ⟨c', r', rfl⟩
  rw [e] at h
  simp only [List.cons_append, List.cons.injEq] at h
  obtain ⟨rfl, h⟩ := h
  have e2 := ih (u / 10) yq9 c' r' e hc
  subst e2
  rw [hc, Go.Lib.decDigits] at e
  split at e
  ·rename_i h10
   simp only [List.cons.injEq, and_true] at e
   have := congrArg UInt8.toNat e
   rw [UInt8.toNat_ofNat'] at this
   have e3 : (48 : UInt8).toNat = 48 := rfl
   rw [e3] at this
   omega
  rename_i h10
  exfalso
  have := congrArg List.length e
  rw [List.length_append] at this
  have h0 : 0 < (Go.Lib.decDigits (u / 10 / 10)).length := by
   rw [Go.Lib.decDigits]
   split <;> simp
  simp only [List.length_cons, List.length_nil] at this
  omega
theorem num_ok (w : List UInt8) (hd : ∀ c ∈ w, isDg c = true) (v : Int) : (Go.Lib.parseIntB 64 w = .ok v ∧ Go.Lib.itoa v = w ∧ v ≤ 1000000) ↔ (∃ c r, w = c :: r ∧ (c = 48 → r = []) ∧ valD w ≤ 1000000 ∧ v = (valD w : Int)) := by
 constructor
 ·rintro ⟨h1, h2, h3⟩
  cases w with
  | nil => cases h1
  | cons c r =>
   have hc := dg_of c (hd c (List.mem_cons_self ..))
   unfold Go.Lib.parseIntB at h1
   dsimp only at h1
   rw [if_neg yq9] at h1
   unfold Go.Lib.parseUintB at h1
   rw [if_neg yq21] at h1
   split at h1
   ·cases h1
   ·cases h1
   rename_i u hu
   have hu := pu_ok _ _ _ _ hu
   split at h1
   ·cases h1
   split at h1
   ·cases h1
   rw [if_neg yq9] at h1
   injection h1 with h1
   subst h1
   have eu : u = valD (c :: r) := hu
   refine ⟨c, r, rfl, ?_, yq9, by rw [eu]⟩
   unfold Go.Lib.itoa at h2
   rw [if_neg yq9, Int.toNat_natCast] at h2
   exact dec_head u c r h2
 rintro ⟨c, r, rfl, h1, h2, rfl⟩
 have hc := dg_of c (hd c (List.mem_cons_self ..))
 refine ⟨?_, ?_, yq9⟩
 ·unfold Go.Lib.parseIntB
  dsimp only
  rw [if_neg yq9]
  unfold Go.Lib.parseUintB
  rw [if_neg yq21, pu_small _ yq38 _ hd 0 h2]
  dsimp only
  rw [if_neg (by intro h; have h4 := h.2; have : (2 : Nat) ^ (64 - 1) = 9223372036854775808 := yq38; rw [this] at h4; have : List.foldl (fun n (c : UInt8) => n * 10 + (c.toNat - 48)) 0 (c :: r) ≤ 1000000 := h2; omega), if_neg yq9, if_neg yq9]
  rfl
 unfold Go.Lib.itoa
 rw [if_neg yq9, Int.toNat_natCast]
 by_cases h0 : c = 48
 ·rw [h1 h0, h0]
  have : valD [48] = 0 := rfl
  rw [this, Go.Lib.decDigits_one yq9]
  rfl
 exact (dec_back _ hd c r rfl h0).2
end Go.Proofs.YtfafjbolmeimmaaGreatDoor.P
namespace Go.Proofs.YtfafjbolmeimmaaGreatDoor.P
open Go.RowKit Go.Proofs.YtfafjbolmeimmaaGreatDoorW.PrintWords
set_option linter.unusedVariables false
def numI (l : List UInt8) : Bool × Nat :=
 (match l.takeWhile isDg with | [] => false | c :: r => decide ((c = 48 → r = []) ∧ valD (l.takeWhile isDg) ≤ 1000000), valD (l.takeWhile isDg))
abbrev TI := Int × Int × Bool × Int × Int
def tI5 (c m : Int) (n : Bool) (lo hi : Int) (r : List UInt8) : Option TI := if r = [] then some (c, m, n, lo, hi) else none
def tI4 (c m : Int) (n : Bool) (lo : Int) (r : List UInt8) : Option TI :=
 if Lib.hasPrefix r [46, 46] = true then (if (numI (Lib.trimPrefix r [46, 46])).1 = true then tI5 c m n lo (numI (Lib.trimPrefix r [46, 46])).2 ((Lib.trimPrefix r [46, 46]).dropWhile isDg) else none) else tI5 c m n lo lo r
def tI3 (c m : Int) (n : Bool) (r : List UInt8) : Option TI :=
 if Lib.hasPrefix r [61] = true then (if (numI (r.drop 1)).1 = true then tI4 c m n (numI (r.drop 1)).2 ((r.drop 1).dropWhile isDg) else none) else none
def tI2 (c m : Int) (r : List UInt8) : Option TI := tI3 c m (Lib.hasPrefix r [33]) (Lib.trimPrefix r [33])
def tI1 (c : Int) (r : List UInt8) : Option TI :=
 if Lib.hasPrefix r [37] = true then (if (numI (Lib.trimPrefix r [37])).1 = true ∧ (numI (Lib.trimPrefix r [37])).2 ≠ 0 then tI2 c (numI (Lib.trimPrefix r [37])).2 ((Lib.trimPrefix r [37]).dropWhile isDg) else none) else tI2 c 0 r
def tI : List UInt8 → Option TI
 | [] => none
 | c :: r => if isOf c = true then tI1 c.toNat r else none
theorem pre_one (b : UInt8) (l : List UInt8) : Lib.hasPrefix l [b] = (pOpt b l).1 ∧ Lib.trimPrefix l [b] = (pOpt b l).2 := by
 cases l with
 | nil => exact ⟨rfl, rfl⟩
 | cons c r =>
  have h1 : Lib.hasPrefix (c :: r) [b] = (b == c) := by unfold Lib.hasPrefix; simp [List.isPrefixOf]
  have e : pOpt b (c :: r) = if c = b then (true, r) else (false, c :: r) := rfl
  unfold Lib.trimPrefix
  rw [h1, e]
  by_cases h : c = b
  ·subst h; simp
  have h2 : (b == c) = false := beq_eq_false_iff_ne.2 (fun x => h x.symm)
  rw [h2, if_neg h]
  exact ⟨rfl, rfl⟩
theorem num_same (l : List UInt8) : ((numI l).1 = true ∧ pNum l = some ((numI l).2, l.dropWhile isDg)) ∨ ((numI l).1 = false ∧ (pNum l = none ∨ ∃ c r, pNum l = some (0, c :: r) ∧ isDg c = true)) := by
 cases l with
 | nil => exact .inr ⟨rfl, .inl rfl⟩
 | cons c r =>
  rw [pNum_cons]
  unfold numI
  dsimp only
  by_cases hd : isDg c = true
  ·rw [if_neg (by simp [hd]), List.takeWhile_cons, if_pos hd, List.dropWhile_cons, if_pos hd]
   by_cases h0 : c = 48
   ·rw [if_pos h0]
    cases hr : r with
    | nil => subst h0; left; exact ⟨rfl, rfl⟩
    | cons c2 r2 =>
     by_cases hd2 : isDg c2 = true
     ·right
      refine ⟨decide_eq_false ?_, .inr ⟨c2, r2, rfl, hd2⟩⟩
      rintro ⟨h, _⟩
      have := h h0
      rw [List.takeWhile_cons, if_pos hd2] at this
      cases this
     left
     rw [List.takeWhile_cons, if_neg hd2, List.dropWhile_cons, if_neg hd2]
     subst h0
     exact ⟨rfl, rfl⟩
   rw [if_neg h0]
   by_cases hv : valD (c :: r.takeWhile isDg) ≤ 1000000
   ·left
    rw [if_pos hv]
    exact ⟨decide_eq_true ⟨fun h => absurd h h0, hv⟩, rfl⟩
   right
   rw [if_neg hv]
   exact ⟨decide_eq_false (fun h => hv h.2), .inl rfl⟩
  right
  rw [if_pos (by simpa using hd), List.takeWhile_cons, if_neg hd]
  exact ⟨rfl, .inl rfl⟩
theorem dg_ne {c : UInt8} (h : isDg c = true) : c ≠ 46 ∧ c ≠ 61 ∧ c ≠ 33 := by
 have := dg_of c h
 refine ⟨?_, ?_, ?_⟩ <;> (rintro rfl; revert this; decide)
def fin (o : Option (List UInt8)) : Bool := o == some []
theorem high_same (c m : Int) (n : Bool) (lo : Int) (r : List UInt8) : (tI4 c m n lo r).isSome = fin (pHigh r) := by
 have five : ∀ (hi : Int) (q : List UInt8), (tI5 c m n lo hi q).isSome = fin (some q) := by
  intro hi q
  unfold tI5 fin
  cases q with
  | nil => rfl
  | cons a b => rfl
 unfold tI4 pHigh
 cases r with
 | nil => rfl
 | cons a r =>
  have e1 : pOpt 46 (a :: r) = if a = 46 then (true, r) else (false, a :: r) := rfl
  have h1 : Lib.hasPrefix (a :: r) [46, 46] = (decide (a = 46) && Lib.hasPrefix r [46]) := by
   unfold Lib.hasPrefix
   show (46 == a && _) = _
   congr 1
   rw [Bool.eq_iff_iff, beq_iff_eq, decide_eq_true_iff]
   exact ⟨fun h => h.symm, fun h => h.symm⟩
  have h2 := pre_one 46 r
  unfold Lib.trimPrefix
  rw [h1, e1, h2.1]
  by_cases ha : a = 46
  ·rw [if_pos ha, decide_eq_true ha, Bool.true_and]
   dsimp only
   rw [if_pos rfl]
   cases hb : (pOpt 46 r).1 with
   | false =>
    rw [if_neg yq21, if_neg yq21, five]
    rfl
   | true =>
    rw [if_pos rfl, if_pos rfl, if_pos rfl]
    have e3 : (a :: r).drop [46, 46].length = (pOpt 46 r).2 := by
     cases r with
     | nil => cases hb
     | cons b r =>
      have e4 : pOpt 46 (b :: r) = if b = 46 then (true, r) else (false, b :: r) := rfl
      rw [e4] at hb ⊢
      by_cases hb2 : b = 46
      ·rw [if_pos hb2]; rfl
      rw [if_neg hb2] at hb; cases hb
    rw [show (46 :: [46] : List UInt8).length = [46, 46].length from rfl] at *
    rw [e3]
    rcases num_same (pOpt 46 r).2 with ⟨h3, h4⟩ | ⟨h3, h4⟩
    ·rw [if_pos h3, h4, five]
    rw [if_neg (by rw [h3]; simp)]
    rcases h4 with h4 | ⟨b, q, h4, _⟩
    ·rw [h4]; rfl
    rw [h4]; rfl
  rw [if_neg ha, decide_eq_false ha, Bool.false_and]
  rw [if_neg yq21, if_neg yq21, five]
theorem eq_same (c m : Int) (r : List UInt8) : (tI2 c m r).isSome = fin (pEq r) := by
 unfold tI2 tI3 pEq
 rw [(pre_one 33 r).2, (pre_one 61 _).1]
 cases hb : (pOpt 61 (pOpt 33 r).2).1 with
 | false => rw [if_neg yq21, if_neg yq21]; rfl
 | true =>
  rw [if_pos rfl, if_pos rfl]
  have e3 : (pOpt 33 r).2.drop 1 = (pOpt 61 (pOpt 33 r).2).2 := by
   generalize (pOpt 33 r).2 = q at hb ⊢
   cases q with
   | nil => cases hb
   | cons b q =>
    have e4 : pOpt 61 (b :: q) = if b = 61 then (true, q) else (false, b :: q) := rfl
    rw [e4] at hb ⊢
    by_cases hb2 : b = 61
    ·rw [if_pos hb2]; rfl
    rw [if_neg hb2] at hb; cases hb
  rw [e3]
  rcases num_same (pOpt 61 (pOpt 33 r).2).2 with ⟨h3, h4⟩ | ⟨h3, h4⟩
  ·rw [if_pos h3, h4, high_same]
  rw [if_neg (by rw [h3]; simp)]
  rcases h4 with h4 | ⟨b, q, h4, hd⟩
  ·rw [h4]; rfl
  rw [h4]
  have : pHigh (b :: q) = some (b :: q) := by
   unfold pHigh
   have e1 : pOpt 46 (b :: q) = if b = 46 then (true, q) else (false, b :: q) := rfl
   rw [e1, if_neg (dg_ne hd).1, if_neg yq21]
  show false = fin (pHigh (b :: q))
  rw [this]
  rfl
theorem mod_same (c : Int) (r : List UInt8) : (tI1 c r).isSome = fin (match pMod r with | none => none | some q => pEq q) := by
 unfold tI1 pMod
 rw [(pre_one 37 r).1, (pre_one 37 r).2]
 cases hb : (pOpt 37 r).1 with
 | false => rw [if_neg yq21, if_neg yq21, eq_same]
 | true =>
  rw [if_pos rfl, if_pos rfl]
  rcases num_same (pOpt 37 r).2 with ⟨h3, h4⟩ | ⟨h3, h4⟩
  ·rw [h4]
   dsimp only
   by_cases h0 : (numI (pOpt 37 r).2).2 = 0
   ·rw [if_neg (fun h => h.2 h0), if_pos h0]; rfl
   rw [if_pos ⟨h3, h0⟩, if_neg h0, eq_same]
  rw [if_neg (fun h => by rw [h3] at h; exact absurd h.1 yq21)]
  rcases h4 with h4 | ⟨b, q, h4, _⟩
  ·rw [h4]; rfl
  rw [h4]; rfl
theorem tI_ok (l : List UInt8) : (tI l).isSome = okI l := by
 cases l with
 | nil => rfl
 | cons c r =>
  show (if isOf c = true then tI1 c.toNat r else none).isSome = fin (if isOf c = true then (match pMod r with | none => none | some q => pEq q) else none)
  cases isOf c with
  | false => rfl
  | true => exact mod_same _ r
end Go.Proofs.YtfafjbolmeimmaaGreatDoor.P
namespace Go.Proofs.YtfafjbolmeimmaaGreatDoor.P
open Go.RowKit Go.Proofs.YtfafjbolmeimmaaGreatDoorW.PrintWords
set_option linter.unusedVariables false
def consHead (c : UInt8) : List (List UInt8) → List (List UInt8)
 | [] => []
 | h :: t => (c :: h) :: t
def sp (b : UInt8) : List UInt8 → List (List UInt8)
 | [] => [[]]
 | c :: r => if c = b then [] :: sp b r else consHead c (sp b r)
def spB : List UInt8 → List (List UInt8)
 | [] => [[]]
 | c :: r => if isSep c = true then [] :: spB r else consHead c (spB r)
theorem sp_ne (b : UInt8) (l : List UInt8) : ∃ h t, sp b l = h :: t := by
 induction l with
 | nil => exact ⟨[], [], rfl⟩
 | cons c r ih =>
  obtain ⟨h, t, e⟩ := ih
  show ∃ h t, (if c = b then [] :: sp b r else consHead c (sp b r)) = h :: t
  rw [e]
  split
  ·exact ⟨_, _, rfl⟩
  exact ⟨_, _, rfl⟩
theorem spB_eq (l : List UInt8) : (sp 124 l).flatMap (sp 38) = spB l := by
 induction l with
 | nil => rfl
 | cons c r ih =>
  obtain ⟨h, t, e⟩ := sp_ne 124 r
  rw [e, List.flatMap_cons] at ih
  show (if c = 124 then [] :: sp 124 r else consHead c (sp 124 r)).flatMap (sp 38) = if isSep c = true then [] :: spB r else consHead c (spB r)
  rw [← ih, e]
  by_cases h1 : c = 124
  ·subst h1
   rw [if_pos rfl, if_pos (show isSep 124 = true from rfl)]
   rfl
  rw [if_neg h1]
  show sp 38 (c :: h) ++ t.flatMap (sp 38) = _
  obtain ⟨h2, t2, e2⟩ := sp_ne 38 h
  by_cases h3 : c = 38
  ·subst h3
   rw [if_pos (show isSep 38 = true from rfl)]
   show (if (38 : UInt8) = 38 then [] :: sp 38 h else consHead 38 (sp 38 h)) ++ _ = _
   rw [if_pos rfl]
   rfl
  have hs : isSep c = false := by unfold isSep; rw [beq_eq_false_iff_ne.2 h1, beq_eq_false_iff_ne.2 h3]; rfl
  rw [if_neg (by rw [hs]; simp)]
  show (if c = 38 then [] :: sp 38 h else consHead c (sp 38 h)) ++ _ = _
  rw [if_neg h3, e2]
  rfl
theorem index_cons (b c : UInt8) (r : List UInt8) : Go.Lib.index (c :: r) [b] = if c = b then 0 else if Go.Lib.index r [b] = -1 then -1 else Go.Lib.index r [b] + 1 := by
 have : [b].isPrefixOf (c :: r) = (b == c) := by simp [List.isPrefixOf]
 show (if [b].isPrefixOf (c :: r) then 0 else if Go.Lib.index r [b] == -1 then -1 else Go.Lib.index r [b] + 1) = _
 rw [this]
 by_cases h : c = b
 ·subst h; simp
 have hb : ¬ b = c := fun e => h e.symm
 rw [if_neg h, if_neg (by simpa using hb)]
 by_cases h2 : Go.Lib.index r [b] = -1
 ·rw [if_pos h2, if_pos (by rw [h2]; rfl)]
 rw [if_neg h2, if_neg (by simpa using h2)]
theorem split_one (b : UInt8) (l : List UInt8) : Go.Lib.split l [b] = sp b l := by
 unfold Go.Lib.split
 induction l with
 | nil => rfl
 | cons c r ih =>
  have hi := index_cons b c r
  show _ = if c = b then [] :: sp b r else consHead c (sp b r)
  by_cases h : c = b
  ·rw [if_pos h] at hi ⊢
   rw [Go.Lib.count_hit (i := 0) yq21 hi, Nat.add_comm, ← ih]
   rw [show Go.Lib.splitK [b] 0 (Go.Lib.count (List.drop (0 + [b].length) (c :: r)) [b] + 1) (c :: r) = if Go.Lib.index (c :: r) [b] == -1 then [c :: r] else (c :: r).take ((Go.Lib.index (c :: r) [b]).toNat + 0) :: Go.Lib.splitK [b] 0 (Go.Lib.count (List.drop (0 + [b].length) (c :: r)) [b]) ((c :: r).drop ((Go.Lib.index (c :: r) [b]).toNat + [b].length)) from rfl]
   rw [if_neg (by rw [hi]; decide), hi]
   rfl
  rw [if_neg h] at hi ⊢
  by_cases h2 : Go.Lib.index r [b] = -1
  ·rw [if_pos h2] at hi
   rw [Go.Lib.count_miss hi]
   rw [Go.Lib.count_miss h2] at ih
   rw [← ih]
   rfl
  rw [if_neg h2] at hi
  have hg := Go.Lib.index_ge r [b]
  obtain ⟨i, hii⟩ : ∃ i : Nat, Go.Lib.index r [b] = i := ⟨(Go.Lib.index r [b]).toNat, yq9⟩
  rw [hii] at hi
  rw [Go.Lib.count_hit (i := i + 1) yq21 (by rw [hi]; rfl), Nat.add_comm]
  rw [Go.Lib.count_hit (i := i) yq21 hii, Nat.add_comm] at ih
  rw [← ih]
  unfold Go.Lib.splitK
  rw [if_neg (by rw [hi]; simp; omega), if_neg (by rw [hii]; simp), hi, hii]
  show _ = consHead c (_ :: _)
  unfold consHead
  have e1 : ((i : Int) + 1).toNat = i + 1 := by omega
  rw [e1, Int.toNat_natCast]
  have e2 : (c :: r).drop (i + 1 + [b].length) = r.drop (i + [b].length) := by rw [show i + 1 + [b].length = (i + [b].length) + 1 by omega]; rfl
  rw [e2]
  rfl
theorem allP_sp (cur l : List UInt8) : ∃ h t, spB l = h :: t ∧ allP cur l = ((cur ++ h) :: t).all okI := by
 induction l generalizing cur with
 | nil => exact ⟨[], [], rfl, by show okI cur = _; rw [List.append_nil]; simp⟩
 | cons c r ih =>
  show ∃ h t, (if isSep c = true then [] :: spB r else consHead c (spB r)) = h :: t ∧ (if isSep c = true then okI cur && allP [] r else allP (cur ++ [c]) r) = _
  by_cases hs : isSep c = true
  ·rw [if_pos hs, if_pos hs]
   obtain ⟨h, t, e, e2⟩ := ih []
   refine ⟨[], h :: t, by rw [e], ?_⟩
   rw [e2, List.append_nil]
   rfl
  rw [if_neg hs, if_neg hs]
  obtain ⟨h, t, e, e2⟩ := ih (cur ++ [c])
  refine ⟨c :: h, t, by rw [e]; rfl, ?_⟩
  rw [e2, List.append_assoc]
  rfl
theorem rule_split (l : List UInt8) : pRule l = ((Go.Lib.split l [124]).all fun row => (Go.Lib.split row [38]).all okI) := by
 have h1 := rule_eq l [] (fun c hc => by cases hc)
 rw [List.nil_append] at h1
 obtain ⟨h, t, e, e2⟩ := allP_sp [] l
 rw [h1, e2, List.nil_append, ← e, ← spB_eq, split_one]
 rw [List.all_flatMap]
 congr 1
 funext row
 rw [split_one]
end Go.Proofs.YtfafjbolmeimmaaGreatDoor.P
