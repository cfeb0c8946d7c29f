/- The text of points: the points of a text give it back just if it is well written. -/
import Derived.Test.YtfafjbolmeimmaaDoorF5
import Derived.Test.YtfafjbolmeimmaaDoorXPu
import Derived.Lib.ValidLaws
import Derived.Lib.ValidAsc
namespace Go.Proofs.YtfafjbolmeimmaaDoor.P
open Go.RowKit Go.Proofs.YtfafjbolmeimmaaDoorW.PrintWords
set_option linter.unusedVariables false
theorem wrNums_byte (p : Int) : ∀ b ∈ wrNums p, 0 ≤ b ∧ b ≤ 255 := by
 intro b hb
 unfold wrNums at hb
 split at hb
 ·simp only [List.mem_cons, List.mem_nil_iff, or_false] at hb; omega
 split at hb
 ·simp only [List.mem_cons, List.mem_nil_iff, or_false] at hb; omega
 split at hb <;> (simp only [List.mem_cons, List.mem_nil_iff, or_false] at hb; omega)
theorem bytesOf_strOfNums : ∀ (l : List Int), (∀ b ∈ l, 0 ≤ b ∧ b ≤ 255) → bytesOf (strOfNums l) = l := by
 intro l h
 unfold bytesOf strOfNums
 simp only [List.map_map]
 conv => rhs; rw [← List.map_id l]
 apply List.map_congr_left
 intro b hb
 have := h b hb
 simp only [Function.comp, id, UInt8.toNat_ofNat']
 omega
theorem bytesOf_wrP (p : Int) : bytesOf (wrP p) = wrB p := bytesOf_strOfNums _ (wrNums_byte _)
theorem text_l (l : List Int) (hl : l.length ≤ 1099511627776) : ∀ (d i : Nat), l.length - i = d → i ≤ l.length → ∀ acc : List Int, acc.length ≤ 4 * i → Ev (fun k => zbq.l0 k l acc (i : Int)) (strOfNums (acc ++ txtB (l.drop i))) := by
 intro d
 induction d with
 | zero =>
  intro i hd hi acc ha
  refine Ev.step (fun k => by rw [zbq.l0]) ?_
  refine Ev.neg (by omega) ((Ev.now _).to ?_)
  rw [List.drop_eq_nil_of_le (by omega)]
  simp [txtB]
 | succ d ih =>
  intro i hd hi acc ha
  have hlt : i < l.length := by omega
  refine Ev.step (fun k => by rw [zbq.l0]) ?_
  have e3 : rd l (i : Int) = l[i] := by simp [rd, hlt]
  have hw := wrB_len l[i]
  have hsz : (wrP l[i]).size = (wrB l[i]).length := by rw [← bytesOf_wrP, bytesOf_length]
  rw [e3]
  refine Ev.pos (by omega) (Ev.pos (by omega) (Ev.bind (wr_ev _) (Ev.pos (by omega) ?_)))
  have e2 := w_succ i (by omega)
  rw [e2, bytesOf_wrP]
  refine (ih (i + 1) (by omega) (by omega) _ (by rw [List.length_append]; omega)).to ?_
  rw [List.drop_eq_getElem_cons hlt]
  show _ = strOfNums (acc ++ (wrB l[i] ++ txtB (l.drop (i + 1))))
  rw [List.append_assoc]
theorem text_f (l : List Int) (hl : l.length ≤ 1099511627776) : Ev (fun k => zbq.f k l) (txt l) :=
 (text_l l hl _ 0 rfl (by omega) [] (by simp)).to (by simp [txt])
theorem bytesOf_drop (s : ByteArray) (i : Nat) (h : i < s.size) : (bytesOf s).drop i = ((s.get! i).toNat : Int) :: (bytesOf s).drop (i + 1) := by
 have hl : i < (bytesOf s).length := by rw [bytesOf_length]; exact h
 rw [List.drop_eq_getElem_cons hl]
 congr 1
 have := rd_bytesOf s (i : Int)
 rw [bt_get] at this
 rw [← this]
 simp [rd, hl]
theorem good_bytes (n b0 b1 b2 b3 v m : Nat) (hd : Lib.decodeN n b0 b1 b2 b3 = (v, m)) (hn : 1 ≤ n) (h0 : b0 < 256) (h1 : b1 < 256) (h2 : b2 < 256) (h3 : b3 < 256) (hg : ¬ (v = 65533 ∧ m = 1)) :
  (m = 1 ∧ wrB (v : Int) = [(b0 : Int)]) ∨ (m = 2 ∧ 1 < n ∧ wrB (v : Int) = [(b0 : Int), (b1 : Int)]) ∨ (m = 3 ∧ 2 < n ∧ wrB (v : Int) = [(b0 : Int), (b1 : Int), (b2 : Int)]) ∨ (m = 4 ∧ 3 < n ∧ wrB (v : Int) = [(b0 : Int), (b1 : Int), (b2 : Int), (b3 : Int)]) := by
 by_cases c1 : b0 < 128
 ·rw [dN1 c1] at hd
  cases hd
  left
  refine ⟨rfl, ?_⟩
  unfold wrB
  rw [isPt_iff.2 (by omega), if_pos rfl]
  unfold wrNums
  rw [if_pos (by omega)]
  congr 1
  omega
 by_cases c2 : b0 < 194 ∨ 245 ≤ b0
 ·rw [dN0 (by omega)] at hd
  cases hd
  exact absurd ⟨rfl, rfl⟩ hg
 by_cases c3 : b0 < 224
 ·rw [dN2 (by omega)] at hd
  split at hd
  ·cases hd
   right; left
   refine ⟨rfl, by omega, ?_⟩
   unfold wrB
   rw [isPt_iff.2 (by omega), if_pos rfl]
   unfold wrNums
   rw [if_neg (by omega), if_pos (by omega)]
   simp only [List.cons.injEq, and_true]
   omega
  cases hd
  exact absurd ⟨rfl, rfl⟩ hg
 by_cases c4 : b0 < 240
 ·rw [dN3 (by omega)] at hd
  split at hd
  ·cases hd
   right; right; left
   refine ⟨rfl, by omega, ?_⟩
   unfold wrB
   rw [isPt_iff.2 (by omega), if_pos rfl]
   unfold wrNums
   rw [if_neg (by omega), if_neg (by omega), if_pos (by omega)]
   simp only [List.cons.injEq, and_true]
   omega
  cases hd
  exact absurd ⟨rfl, rfl⟩ hg
 rw [dN4 (by omega)] at hd
 split at hd
 ·cases hd
  right; right; right
  refine ⟨rfl, by omega, ?_⟩
  unfold wrB
  rw [isPt_iff.2 (by omega), if_pos rfl]
  unfold wrNums
  rw [if_neg (by omega), if_neg (by omega), if_neg (by omega)]
  simp only [List.cons.injEq, and_true]
  omega
 cases hd
 exact absurd ⟨rfl, rfl⟩ hg
theorem good_at (s : ByteArray) (i : Nat) (h : i < s.size) (hg : badAt s i = false) : (bytesOf s).drop i = wrB ((dec s i).1 : Int) ++ (bytesOf s).drop (i + (dec s i).2) := by
 have hg' : ¬ ((dec s i).1 = 65533 ∧ (dec s i).2 = 1) := by
  rintro ⟨e1, e2⟩
  unfold badAt at hg
  rw [e1, e2] at hg
  cases hg
 obtain ⟨v, m, hd⟩ : ∃ v m, dec s i = (v, m) := ⟨_, _, rfl⟩
 rw [hd] at hg' ⊢
 rw [dec_eq] at hd
 rcases good_bytes _ _ _ _ _ v m hd (by omega) (s.get! i).toNat_lt (s.get! (i + 1)).toNat_lt (s.get! (i + 2)).toNat_lt (s.get! (i + 3)).toNat_lt hg' with ⟨rfl, e⟩ | ⟨rfl, h1, e⟩ | ⟨rfl, h1, e⟩ | ⟨rfl, h1, e⟩
 ·rw [e, bytesOf_drop s i h]; rfl
 ·rw [e, bytesOf_drop s i h, bytesOf_drop s (i + 1) (by omega)]; rfl
 ·rw [e, bytesOf_drop s i h, bytesOf_drop s (i + 1) (by omega), bytesOf_drop s (i + 2) (by omega)]; rfl
 rw [e, bytesOf_drop s i h, bytesOf_drop s (i + 1) (by omega), bytesOf_drop s (i + 2) (by omega), bytesOf_drop s (i + 3) (by omega)]; rfl
theorem bytesOf_inj {s t : ByteArray} (h : bytesOf s = bytesOf t) : s = t := by
 unfold bytesOf at h
 have h2 : s.data.toList = t.data.toList := by
  refine List.map_inj_right (f := fun b : UInt8 => (b.toNat : Int)) ?_ |>.1 h
  intro a b hab
  have : a.toNat = b.toNat := by omega
  exact UInt8.toNat_inj.1 this
 cases s with
 | mk a =>
  cases t with
  | mk b =>
   congr
   exact Array.toList_inj.1 h2
theorem bytesOf_txt (l : List Int) : bytesOf (txt l) = txtB l := by
 refine bytesOf_strOfNums _ ?_
 intro b hb
 obtain ⟨p, _, hp⟩ := List.mem_flatMap.1 hb
 exact wrNums_byte _ b hp
end Go.Proofs.YtfafjbolmeimmaaDoor.P
