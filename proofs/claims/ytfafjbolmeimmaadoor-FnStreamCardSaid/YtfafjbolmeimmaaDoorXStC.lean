/- One piece of bytes in each form, in plain words; where it stands, and how it is bounded. -/
import Derived.Test.YtfafjbolmeimmaaDoorXStT
import Derived.Test.YtfafjbolmeimmaaDoorXPuB
namespace Go.Proofs.YtfafjbolmeimmaaDoor.P
open Go.RowKit Go.Proofs.YtfafjbolmeimmaaDoorW.PrintWords
set_option linter.unusedVariables false
def need (c : Nat) : Nat := if c < 128 then 1 else if c < 194 then 0 else if c < 224 then 2 else if c < 240 then 3 else if c < 245 then 4 else 0
def loB (c : Nat) : Nat := if c = 224 then 160 else if c = 240 then 144 else 128
def hiB (c : Nat) : Nat := if c = 237 then 159 else if c = 244 then 143 else 191
def run1 (D : ByteArray) (i e : Nat) : Nat :=
 if need (bN D i) ≤ 1 then need (bN D i)
 else if ¬ (i + 1 < e ∧ loB (bN D i) ≤ bN D (i + 1) ∧ bN D (i + 1) ≤ hiB (bN D i)) then 1
 else if need (bN D i) = 2 then 2
 else if ¬ (i + 2 < e ∧ 128 ≤ bN D (i + 2) ∧ bN D (i + 2) ≤ 191) then 2
 else if need (bN D i) = 3 then 3
 else if ¬ (i + 3 < e ∧ 128 ≤ bN D (i + 3) ∧ bN D (i + 3) ≤ 191) then 3
 else 4
def pcEight (D : ByteArray) (i e : Nat) : Pc :=
 if run1 D i e = 0 then (65533, 1, true, false)
 else if run1 D i e = need (bN D i) then (((dec D i).1 : Int), run1 D i e, false, false)
 else (65533, run1 D i e, true, decide (i + run1 D i e = e))
def pcSixteen (big : Bool) (D : ByteArray) (i e : Nat) : Pc :=
 if e - i < 2 then (65533, e - i, true, true)
 else if u2 big D i < 55296 ∨ 57343 < u2 big D i then ((u2 big D i : Int), 2, false, false)
 else if 56320 ≤ u2 big D i then (65533, 2, true, false)
 else if e - i < 4 then (65533, 2, true, true)
 else if 56320 ≤ u2 big D (i + 2) ∧ u2 big D (i + 2) ≤ 57343 then (65536 + ((u2 big D i : Int) - 55296) * 1024 + (u2 big D (i + 2) : Int) - 56320, 4, false, false)
 else (65533, 2, true, false)
def pcWide (big : Bool) (D : ByteArray) (i e : Nat) : Pc :=
 if e - i < 4 then (65533, e - i, true, true)
 else if isPt (u4 big D i : Int) = true then ((u4 big D i : Int), 4, false, false)
 else (65533, 4, true, false)
def pcF (f : Int) (D : ByteArray) (i e : Nat) : Pc :=
 if f = 1 then pcEight D i e else if f ≤ 3 then pcSixteen (decide (f = 2)) D i e else pcWide (decide (f = 4)) D i e
theorem need_le (c : Nat) : need c ≤ 4 := by
 unfold need
 repeat' split
 all_goals omega
theorem run1_bd (D : ByteArray) (i e : Nat) (h : i < e) : run1 D i e ≤ need (bN D i) ∧ i + run1 D i e ≤ e := by
 unfold run1
 have := need_le (bN D i)
 repeat' split
 all_goals omega
theorem run1_stay (D : ByteArray) (i e e' : Nat) (h : i < e) (he : e ≤ e') (hw : run1 D i e = need (bN D i) ∨ i + run1 D i e ≠ e) : run1 D i e' = run1 D i e := by
 have hn := need_le (bN D i)
 unfold run1 at hw ⊢
 generalize need (bN D i) = n at *
 by_cases c0 : n ≤ 1
 ·rw [if_pos c0, if_pos c0]
 rw [if_neg c0] at hw
 rw [if_neg c0, if_neg c0]
 by_cases c1 : i + 1 < e ∧ loB (bN D i) ≤ bN D (i + 1) ∧ bN D (i + 1) ≤ hiB (bN D i)
 ·have k1 : ¬ ¬ (i + 1 < e ∧ loB (bN D i) ≤ bN D (i + 1) ∧ bN D (i + 1) ≤ hiB (bN D i)) := fun h => h c1
  have k1' : ¬ ¬ (i + 1 < e' ∧ loB (bN D i) ≤ bN D (i + 1) ∧ bN D (i + 1) ≤ hiB (bN D i)) := fun h => h ⟨by omega, c1.2⟩
  rw [if_neg k1] at hw
  rw [if_neg k1, if_neg k1']
  by_cases c2 : n = 2
  ·rw [if_pos c2, if_pos c2]
  rw [if_neg c2] at hw
  rw [if_neg c2, if_neg c2]
  by_cases c3 : i + 2 < e ∧ 128 ≤ bN D (i + 2) ∧ bN D (i + 2) ≤ 191
  ·have k2 : ¬ ¬ (i + 2 < e ∧ 128 ≤ bN D (i + 2) ∧ bN D (i + 2) ≤ 191) := fun h => h c3
   have k2' : ¬ ¬ (i + 2 < e' ∧ 128 ≤ bN D (i + 2) ∧ bN D (i + 2) ≤ 191) := fun h => h ⟨by omega, c3.2⟩
   rw [if_neg k2] at hw
   rw [if_neg k2, if_neg k2']
   by_cases c4 : n = 3
   ·rw [if_pos c4, if_pos c4]
   rw [if_neg c4] at hw
   rw [if_neg c4, if_neg c4]
   by_cases c5 : i + 3 < e ∧ 128 ≤ bN D (i + 3) ∧ bN D (i + 3) ≤ 191
   ·have k3 : ¬ ¬ (i + 3 < e ∧ 128 ≤ bN D (i + 3) ∧ bN D (i + 3) ≤ 191) := fun h => h c5
    have k3' : ¬ ¬ (i + 3 < e' ∧ 128 ≤ bN D (i + 3) ∧ bN D (i + 3) ≤ 191) := fun h => h ⟨by omega, c5.2⟩
    rw [if_neg k3, if_neg k3']
   have k3' : ¬ (i + 3 < e' ∧ 128 ≤ bN D (i + 3) ∧ bN D (i + 3) ≤ 191) := fun h => c5 ⟨by rw [if_pos c5] at hw; omega, h.2⟩
   rw [if_pos c5, if_pos k3']
  have k2' : ¬ (i + 2 < e' ∧ 128 ≤ bN D (i + 2) ∧ bN D (i + 2) ≤ 191) := fun h => c3 ⟨by rw [if_pos c3] at hw; omega, h.2⟩
  rw [if_pos c3, if_pos k2']
 have k1' : ¬ (i + 1 < e' ∧ loB (bN D i) ≤ bN D (i + 1) ∧ bN D (i + 1) ≤ hiB (bN D i)) := fun h => c1 ⟨by rw [if_pos c1] at hw; omega, h.2⟩
 rw [if_pos c1, if_pos k1']
theorem eight_good (D : ByteArray) (E : Nat) : Good (pcEight D) E where
 pos i e h he := by
  have := run1_bd D i e h
  unfold pcEight
  split
  ·exact ⟨by show 0 < 1; omega, by show i + 1 ≤ e; omega⟩
  split
  ·exact ⟨by show 0 < run1 D i e; omega, this.2⟩
  exact ⟨by show 0 < run1 D i e; omega, this.2⟩
 stay i e e' h he he' hw := by
  have hb := run1_bd D i e h
  unfold pcEight at hw ⊢
  by_cases c0 : run1 D i e = 0
  ·by_cases cn : need (bN D i) = 0
   ·rw [run1_stay D i e e' h he (.inl (by omega)), if_pos c0, if_pos c0]
   exfalso
   have : 1 ≤ run1 D i e := by
    unfold run1
    have := need_le (bN D i)
    repeat' split
    all_goals omega
   omega
  rw [if_neg c0] at hw
  by_cases c1 : run1 D i e = need (bN D i)
  ·rw [run1_stay D i e e' h he (.inl c1), if_neg c0, if_neg c0, if_pos c1, if_pos c1]
  rw [if_neg c1] at hw
  have : ¬ i + run1 D i e = e := by simpa using hw
  rw [run1_stay D i e e' h he (.inr this), if_neg c0, if_neg c0, if_neg c1, if_neg c1, decide_eq_false this, decide_eq_false (by omega)]
 few i e h he hw := by
  have hb := run1_bd D i e h
  unfold pcEight at hw
  by_cases c0 : run1 D i e = 0
  ·rw [if_pos c0] at hw; cases hw
  rw [if_neg c0] at hw
  by_cases c1 : run1 D i e = need (bN D i)
  ·rw [if_pos c1] at hw; cases hw
  rw [if_neg c1] at hw
  have : i + run1 D i e = e := by simpa using hw
  have := need_le (bN D i)
  omega
theorem sixteen_good (big : Bool) (D : ByteArray) (E : Nat) : Good (pcSixteen big D) E where
 pos i e h he := by
  unfold pcSixteen
  repeat' split
  all_goals (dsimp only; omega)
 stay i e e' h he he' hw := by
  unfold pcSixteen at hw ⊢
  by_cases c0 : e - i < 2
  ·rw [if_pos c0] at hw; cases hw
  rw [if_neg c0] at hw ⊢
  rw [if_neg (by omega)]
  by_cases c1 : u2 big D i < 55296 ∨ 57343 < u2 big D i
  ·rw [if_pos c1, if_pos c1]
  rw [if_neg c1] at hw ⊢
  rw [if_neg c1]
  by_cases c2 : 56320 ≤ u2 big D i
  ·rw [if_pos c2, if_pos c2]
  rw [if_neg c2] at hw ⊢
  rw [if_neg c2]
  by_cases c3 : e - i < 4
  ·rw [if_pos c3] at hw; cases hw
  rw [if_neg c3]
  rw [if_neg (by omega)]
 few i e h he hw := by
  unfold pcSixteen at hw
  by_cases c0 : e - i < 2
  ·omega
  rw [if_neg c0] at hw
  by_cases c1 : u2 big D i < 55296 ∨ 57343 < u2 big D i
  ·rw [if_pos c1] at hw; cases hw
  rw [if_neg c1] at hw
  by_cases c2 : 56320 ≤ u2 big D i
  ·rw [if_pos c2] at hw; cases hw
  rw [if_neg c2] at hw
  by_cases c3 : e - i < 4
  ·omega
  rw [if_neg c3] at hw
  split at hw <;> cases hw
theorem wide_good (big : Bool) (D : ByteArray) (E : Nat) : Good (pcWide big D) E where
 pos i e h he := by
  unfold pcWide
  repeat' split
  all_goals (dsimp only; omega)
 stay i e e' h he he' hw := by
  unfold pcWide at hw ⊢
  by_cases c0 : e - i < 4
  ·rw [if_pos c0] at hw; cases hw
  rw [if_neg c0]
  rw [if_neg (by omega)]
 few i e h he hw := by
  unfold pcWide at hw
  by_cases c0 : e - i < 4
  ·omega
  rw [if_neg c0] at hw
  split at hw <;> cases hw
theorem pcF_good (f : Int) (D : ByteArray) (E : Nat) : Good (pcF f D) E := by
 by_cases c1 : f = 1
 ·have : pcF f D = pcEight D := by funext i e; unfold pcF; rw [if_pos c1]
  rw [this]; exact eight_good D E
 by_cases c2 : f ≤ 3
 ·have : pcF f D = pcSixteen (decide (f = 2)) D := by funext i e; unfold pcF; rw [if_neg c1, if_pos c2]
  rw [this]; exact sixteen_good _ D E
 have : pcF f D = pcWide (decide (f = 4)) D := by funext i e; unfold pcF; rw [if_neg c1, if_neg c2]
 rw [this]; exact wide_good _ D E
theorem run1_dec (D : ByteArray) (i e : Nat) (h : i < e) (he : e ≤ D.size) (hn : need (bN D i) ≠ 0) (hr : run1 D i e = need (bN D i)) : (dec D i).2 = need (bN D i) ∧ ¬ ((dec D i).1 = 65533 ∧ (dec D i).2 = 1) := by
 rw [dec_eq]
 show (Lib.decodeN (D.size - i) (bN D i) (bN D (i + 1)) (bN D (i + 2)) (bN D (i + 3))).2 = _ ∧ _
 have hb0 := bN_lt D i
 have hb1 := bN_lt D (i + 1)
 unfold run1 at hr
 unfold bN at *
 generalize (D.get! i).toNat = b0 at *
 generalize (D.get! (i + 1)).toNat = b1 at *
 generalize (D.get! (i + 2)).toNat = b2 at *
 generalize (D.get! (i + 3)).toNat = b3 at *
 by_cases c1 : b0 < 128
 ·have e1 : need b0 = 1 := by unfold need; rw [if_pos c1]
  rw [dN1 c1, e1]
  exact ⟨rfl, by rintro ⟨a, _⟩; dsimp only at a; omega⟩
 by_cases c2 : b0 < 194 ∨ 245 ≤ b0
 ·exfalso
  apply hn
  unfold need
  rcases c2 with c2 | c2
  ·rw [if_neg c1, if_pos c2]
  rw [if_neg c1, if_neg (by omega), if_neg (by omega), if_neg (by omega), if_neg (by omega)]
 by_cases c3 : b0 < 224
 ·have e1 : need b0 = 2 := by unfold need; rw [if_neg c1, if_neg (by omega), if_pos c3]
  rw [e1] at hr ⊢
  rw [if_neg (by omega)] at hr
  split at hr
  ·omega
  rename_i g1
  have g1 := Classical.not_not.1 g1
  have el : loB b0 = 128 := by unfold loB; rw [if_neg (by omega), if_neg (by omega)]
  have eh : hiB b0 = 191 := by unfold hiB; rw [if_neg (by omega), if_neg (by omega)]
  rw [el, eh] at g1
  rw [dN2 (by omega), if_pos (by omega)]
  exact ⟨rfl, by rintro ⟨_, a⟩; dsimp only at a; omega⟩
 by_cases c4 : b0 < 240
 ·have e1 : need b0 = 3 := by unfold need; rw [if_neg c1, if_neg (by omega), if_neg c3, if_pos c4]
  rw [e1] at hr ⊢
  rw [if_neg (by omega)] at hr
  split at hr
  ·omega
  rename_i g1
  have g1 := Classical.not_not.1 g1
  rw [if_neg (by omega)] at hr
  split at hr
  ·omega
  rename_i g2
  have g2 := Classical.not_not.1 g2
  have hv : 128 ≤ b1 ∧ b1 ≤ 191 ∧ (b0 = 224 → 160 ≤ b1) ∧ (b0 = 237 → b1 ≤ 159) := by
   obtain ⟨_, h1, h2⟩ := g1
   unfold loB at h1
   unfold hiB at h2
   split at h1
   ·split at h2
    ·omega
    split at h2 <;> omega
   split at h1
   ·omega
   split at h2
   ·omega
   split at h2 <;> omega
  rw [dN3 (by omega), if_pos (by omega)]
  exact ⟨rfl, by rintro ⟨_, a⟩; dsimp only at a; omega⟩
 have e1 : need b0 = 4 := by unfold need; rw [if_neg c1, if_neg (by omega), if_neg c3, if_neg c4, if_pos (by omega)]
 rw [e1] at hr ⊢
 rw [if_neg (by omega)] at hr
 split at hr
 ·omega
 rename_i g1
 have g1 := Classical.not_not.1 g1
 rw [if_neg (by omega)] at hr
 split at hr
 ·omega
 rename_i g2
 have g2 := Classical.not_not.1 g2
 rw [if_neg (by omega)] at hr
 split at hr
 ·omega
 rename_i g3
 have g3 := Classical.not_not.1 g3
 have hv : 128 ≤ b1 ∧ b1 ≤ 191 ∧ (b0 = 240 → 144 ≤ b1) ∧ (b0 = 244 → b1 ≤ 143) := by
  obtain ⟨_, h1, h2⟩ := g1
  unfold loB at h1
  unfold hiB at h2
  split at h1
  ·omega
  split at h1
  ·split at h2
   ·omega
   split at h2 <;> omega
  split at h2
  ·omega
  split at h2 <;> omega
 rw [dN4 (by omega), if_pos (by omega)]
 exact ⟨rfl, by rintro ⟨_, a⟩; dsimp only at a; omega⟩
theorem run1_bad (D : ByteArray) (i : Nat) (h : i < D.size) (hr : need (bN D i) = 0 ∨ run1 D i D.size ≠ need (bN D i)) : dec D i = (65533, 1) := by
 rw [dec_eq]
 show Lib.decodeN (D.size - i) (bN D i) (bN D (i + 1)) (bN D (i + 2)) (bN D (i + 3)) = _
 unfold run1 at hr
 unfold bN at *
 have hb0 : (D.get! i).toNat < 256 := (D.get! i).toNat_lt
 have hb1 : (D.get! (i + 1)).toNat < 256 := (D.get! (i + 1)).toNat_lt
 generalize (D.get! i).toNat = b0 at *
 generalize (D.get! (i + 1)).toNat = b1 at *
 generalize (D.get! (i + 2)).toNat = b2 at *
 generalize (D.get! (i + 3)).toNat = b3 at *
 by_cases c1 : b0 < 128
 ·have e1 : need b0 = 1 := by unfold need; rw [if_pos c1]
  rw [e1] at hr
  rcases hr with hr | hr
  ·omega
  exact absurd (if_pos (by omega)) hr
 by_cases c2 : b0 < 194 ∨ 245 ≤ b0
 ·exact dN0 (by omega)
 by_cases c3 : b0 < 224
 ·have e1 : need b0 = 2 := by unfold need; rw [if_neg c1, if_neg (by omega), if_pos c3]
  rw [e1] at hr
  have el : loB b0 = 128 := by unfold loB; rw [if_neg (by omega), if_neg (by omega)]
  have eh : hiB b0 = 191 := by unfold hiB; rw [if_neg (by omega), if_neg (by omega)]
  rw [dN2 (by omega), if_neg]
  intro g
  rcases hr with hr | hr
  ·omega
  apply hr
  rw [if_neg (by omega), el, eh, if_neg (fun h => h (by omega)), if_pos rfl]
 have hlo : loB b0 = if b0 = 224 then 160 else if b0 = 240 then 144 else 128 := rfl
 have hhi : hiB b0 = if b0 = 237 then 159 else if b0 = 244 then 143 else 191 := rfl
 by_cases c4 : b0 < 240
 ·have e1 : need b0 = 3 := by unfold need; rw [if_neg c1, if_neg (by omega), if_neg c3, if_pos c4]
  rw [e1] at hr
  rw [dN3 (by omega), if_neg]
  intro g
  rcases hr with hr | hr
  ·omega
  apply hr
  have g1 : i + 1 < D.size ∧ loB b0 ≤ b1 ∧ b1 ≤ hiB b0 := by
   refine ⟨by omega, ?_, ?_⟩
   ·rw [hlo]
    split
    ·omega
    split <;> omega
   rw [hhi]
   split
   ·omega
   split <;> omega
  rw [if_neg (by omega), if_neg (fun h => h g1), if_neg (by omega), if_neg (fun h => h (by omega)), if_pos rfl]
 have e1 : need b0 = 4 := by unfold need; rw [if_neg c1, if_neg (by omega), if_neg c3, if_neg c4, if_pos (by omega)]
 rw [e1] at hr
 rw [dN4 (by omega), if_neg]
 intro g
 rcases hr with hr | hr
 ·omega
 apply hr
 have g1 : i + 1 < D.size ∧ loB b0 ≤ b1 ∧ b1 ≤ hiB b0 := by
  refine ⟨by omega, ?_, ?_⟩
  ·rw [hlo]
   split
   ·omega
   split <;> omega
  rw [hhi]
  split
  ·omega
  split <;> omega
 rw [if_neg (by omega), if_neg (fun h => h g1), if_neg (by omega), if_neg (fun h => h (by omega)), if_neg (by omega), if_neg (fun h => h (by omega))]
end Go.Proofs.YtfafjbolmeimmaaDoor.P
