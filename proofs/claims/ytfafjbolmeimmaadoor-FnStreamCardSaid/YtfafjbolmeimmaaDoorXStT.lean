/- Pieces read one behind the other: read in parts they are what they are at once. -/
import Derived.Test.YtfafjbolmeimmaaDoorWWords
namespace Go.Proofs.YtfafjbolmeimmaaDoor.P
open Go.RowKit Go.Proofs.YtfafjbolmeimmaaDoorW.PrintWords
set_option linter.unusedVariables false
abbrev Pc := Int × Nat × Bool × Bool
def stp (P : Nat → Nat → Pc) (e : Nat) (more : Bool) (i : Nat) : List Int × List Int × Nat :=
 if h : i < e ∧ 0 < (P i e).2.1 then
  if (P i e).2.2.2 = true ∧ more = true then ([], [], i)
  else ((P i e).1 :: (stp P e more (i + (P i e).2.1)).1, (if (P i e).2.2.1 = true then (i : Int) :: (stp P e more (i + (P i e).2.1)).2.1 else (stp P e more (i + (P i e).2.1)).2.1), (stp P e more (i + (P i e).2.1)).2.2)
 else ([], [], i)
termination_by e - i
decreasing_by all_goals omega
structure Good (P : Nat → Nat → Pc) (E : Nat) : Prop where
 pos : ∀ i e, i < e → e ≤ E → 0 < (P i e).2.1 ∧ i + (P i e).2.1 ≤ e
 stay : ∀ i e e', i < e → e ≤ e' → e' ≤ E → (P i e).2.2.2 = false → P i e' = P i e
 few : ∀ i e, i < e → e ≤ E → (P i e).2.2.2 = true → e ≤ i + 3
theorem stp_end {P : Nat → Nat → Pc} {e : Nat} {m : Bool} {i : Nat} (h : ¬ i < e) : stp P e m i = ([], [], i) := by
 rw [stp, dif_neg (fun h2 => h h2.1)]
theorem stp_wait {P : Nat → Nat → Pc} {e : Nat} {i : Nat} (h : (P i e).2.2.2 = true) : stp P e true i = ([], [], i) := by
 rw [stp]
 split
 ·rw [if_pos ⟨h, rfl⟩]
 rfl
theorem stp_go {P : Nat → Nat → Pc} {e : Nat} {m : Bool} {i : Nat} (h : i < e) (hp : 0 < (P i e).2.1) (hw : ¬ ((P i e).2.2.2 = true ∧ m = true)) :
  stp P e m i = ((P i e).1 :: (stp P e m (i + (P i e).2.1)).1, (if (P i e).2.2.1 = true then (i : Int) :: (stp P e m (i + (P i e).2.1)).2.1 else (stp P e m (i + (P i e).2.1)).2.1), (stp P e m (i + (P i e).2.1)).2.2) := by
 rw [stp, dif_pos ⟨h, hp⟩, if_neg hw]
theorem stp_ind {P : Nat → Nat → Pc} {E : Nat} (G : Good P E) {e : Nat} (he : e ≤ E) {motive : Nat → Prop} (end_ : ∀ i, ¬ i < e → motive i) (step : ∀ i, i < e → motive (i + (P i e).2.1) → motive i) : ∀ i, motive i := by
 have : ∀ d i, e - i ≤ d → motive i := by
  intro d
  induction d with
  | zero => intro i hi; exact end_ i (by omega)
  | succ d ih =>
   intro i hi
   by_cases h : i < e
   ·have := G.pos i e h he
    exact step i h (ih _ (by omega))
   exact end_ i h
 exact fun i => this _ i (Nat.le_refl _)
theorem stp_cat {P : Nat → Nat → Pc} {E : Nat} (G : Good P E) {e : Nat} {e' : Nat} (hee : e ≤ e') (he : e' ≤ E) (m : Bool) (i : Nat) (hi : i ≤ e) :
  stp P e' m i = ((stp P e true i).1 ++ (stp P e' m (stp P e true i).2.2).1, (stp P e true i).2.1 ++ (stp P e' m (stp P e true i).2.2).2.1, (stp P e' m (stp P e true i).2.2).2.2) := by
 revert hi
 refine stp_ind G (e := e) (by omega) (motive := fun i => i ≤ e → stp P e' m i = ((stp P e true i).1 ++ (stp P e' m (stp P e true i).2.2).1, (stp P e true i).2.1 ++ (stp P e' m (stp P e true i).2.2).2.1, (stp P e' m (stp P e true i).2.2).2.2)) ?_ ?_ i
 ·intro i h _
  rw [stp_end (e := e) h]
  rfl
 intro i h ih _
 have hp := G.pos i e h (by omega)
 cases hw : (P i e).2.2.2 with
 | true => rw [stp_wait (e := e) hw]; rfl
 | false =>
  have hs := G.stay i e e' h hee he hw
  have ih := ih hp.2
  rw [stp_go (e := e) h hp.1 (fun h2 => by rw [hw] at h2; exact absurd h2.1 (by simp)), stp_go (e := e') (by omega) (by rw [hs]; exact hp.1) (fun h2 => by rw [hs, hw] at h2; exact absurd h2.1 (by simp)), hs, ih]
  cases (P i e).2.2.1 <;> simp
theorem stp_le {P : Nat → Nat → Pc} {E : Nat} (G : Good P E) {e : Nat} (he : e ≤ E) (m : Bool) (i : Nat) (hi : i ≤ e) : i ≤ (stp P e m i).2.2 ∧ (stp P e m i).2.2 ≤ e := by
 revert hi
 refine stp_ind G he (motive := fun i => i ≤ e → i ≤ (stp P e m i).2.2 ∧ (stp P e m i).2.2 ≤ e) ?_ ?_ i
 ·intro i h hi
  rw [stp_end h]
  exact ⟨Nat.le_refl _, hi⟩
 intro i h ih hi
 have hp := G.pos i e h he
 by_cases hw : (P i e).2.2.2 = true ∧ m = true
 ·obtain ⟨h1, rfl⟩ := hw
  rw [stp_wait h1]
  exact ⟨Nat.le_refl _, hi⟩
 rw [stp_go h hp.1 hw]
 have := ih hp.2
 exact ⟨by show i ≤ (stp P e m (i + (P i e).2.1)).2.2; omega, this.2⟩
theorem stp_stop {P : Nat → Nat → Pc} {E : Nat} (G : Good P E) {e : Nat} (he : e ≤ E) (i : Nat) (hi : i ≤ e) : (stp P e true i).2.2 = e ∨ ((stp P e true i).2.2 < e ∧ (P (stp P e true i).2.2 e).2.2.2 = true ∧ e ≤ (stp P e true i).2.2 + 3) := by
 revert hi
 refine stp_ind G he (motive := fun i => i ≤ e → (stp P e true i).2.2 = e ∨ ((stp P e true i).2.2 < e ∧ (P (stp P e true i).2.2 e).2.2.2 = true ∧ e ≤ (stp P e true i).2.2 + 3)) ?_ ?_ i
 ·intro i h hi
  rw [stp_end h]
  exact .inl (show i = e by omega)
 intro i h ih hi
 have hp := G.pos i e h he
 cases hw : (P i e).2.2.2 with
 | true => rw [stp_wait hw]; exact .inr ⟨h, hw, G.few i e h he hw⟩
 | false =>
  rw [stp_go h hp.1 (fun h2 => by rw [hw] at h2; exact absurd h2.1 (by simp))]
  exact ih hp.2
theorem stp_all {P : Nat → Nat → Pc} {E : Nat} (G : Good P E) {e : Nat} (he : e ≤ E) (i : Nat) (hi : i ≤ e) : (stp P e false i).2.2 = e := by
 revert hi
 refine stp_ind G he (motive := fun i => i ≤ e → (stp P e false i).2.2 = e) ?_ ?_ i
 ·intro i h hi
  rw [stp_end h]
  exact (show i = e by omega)
 intro i h ih hi
 have hp := G.pos i e h he
 rw [stp_go h hp.1 (fun h2 => absurd h2.2 (by simp))]
 exact ih hp.2
theorem stp_len {P : Nat → Nat → Pc} {E : Nat} (G : Good P E) {e : Nat} (he : e ≤ E) (m : Bool) (i : Nat) (hi : i ≤ e) : (stp P e m i).1.length ≤ e - i ∧ (stp P e m i).2.1.length ≤ e - i := by
 revert hi
 refine stp_ind G he (motive := fun i => i ≤ e → (stp P e m i).1.length ≤ e - i ∧ (stp P e m i).2.1.length ≤ e - i) ?_ ?_ i
 ·intro i h hi
  rw [stp_end h]
  exact ⟨Nat.zero_le _, Nat.zero_le _⟩
 intro i h ih hi
 have hp := G.pos i e h he
 by_cases hw : (P i e).2.2.2 = true ∧ m = true
 ·obtain ⟨h1, rfl⟩ := hw
  rw [stp_wait h1]
  exact ⟨Nat.zero_le _, Nat.zero_le _⟩
 rw [stp_go h hp.1 hw]
 have := ih hp.2
 refine ⟨by rw [List.length_cons]; omega, ?_⟩
 dsimp only
 split
 ·rw [List.length_cons]; omega
 omega
def bN (D : ByteArray) (i : Nat) : Nat := (D.get! i).toNat
theorem bN_lt (D : ByteArray) (i : Nat) : bN D i < 256 := (D.get! i).toNat_lt
def u2 (big : Bool) (D : ByteArray) (i : Nat) : Nat := if big then bN D i * 256 + bN D (i + 1) else bN D (i + 1) * 256 + bN D i
def u4 (big : Bool) (D : ByteArray) (i : Nat) : Nat := if big then bN D i * 16777216 + bN D (i + 1) * 65536 + bN D (i + 2) * 256 + bN D (i + 3) else bN D (i + 3) * 16777216 + bN D (i + 2) * 65536 + bN D (i + 1) * 256 + bN D i
end Go.Proofs.YtfafjbolmeimmaaDoor.P
