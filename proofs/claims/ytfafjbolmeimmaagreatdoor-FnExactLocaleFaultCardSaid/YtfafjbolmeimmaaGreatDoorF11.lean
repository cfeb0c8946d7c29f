/- Parts of a proof: words of the print tool that this claim uses, or plain lists. -/
import Derived.Test.YtfafjbolmeimmaaGreatDoorY17
import Derived.Test.YtfafjbolmeimmaaGreatDoorY5
import Derived.Test.YtfafjbolmeimmaaGreatDoorF9
import Derived.Test.YtfafjbolmeimmaaGreatDoorXPuB
import Derived.Test.YtfafjbolmeimmaaGreatDoorF10
import Derived.Lib.ValidLaws
import Derived.Lib.ValidAsc
namespace Go.Proofs.YtfafjbolmeimmaaGreatDoor.P
open Go.RowKit Go.Proofs.YtfafjbolmeimmaaGreatDoorW.PrintWords
set_option linter.unusedVariables false
theorem points_l (l : List S89) (hl : l.length ≤ 1099511627776) : ∀ (d i : Nat), l.length - i = d → i ≤ l.length → ∀ acc : List Int, acc.length ≤ i → Ev (fun k => impl_points.l0 k acc l (l.length : Int) (i : Int)) (acc ++ (l.drop i).map (·.f0)) := by
 intro d
 induction d with
 | zero =>
  intro i hd hi acc ha
  refine Ev.step (fun k => by rw [impl_points.l0]) ?_
  refine Ev.neg (by omega) ((Ev.now _).to ?_)
  rw [List.drop_eq_nil_of_le (by omega)]
  simp
 | succ d ih =>
  intro i hd hi acc ha
  have hlt : i < l.length := by omega
  refine Ev.step (fun k => by rw [impl_points.l0]) ?_
  refine Ev.pos (by omega) (Ev.pos (by omega) (Ev.pos (by omega) (Ev.pos (by omega) ?_)))
  have e2 := w_succ i (by omega)
  have e3 : rd_T89 l (i : Int) = l[i] := by simp [rd_T89, hlt]
  rw [e2, e3]
  refine (ih (i + 1) (by omega) (by omega) _ (by rw [List.length_append, List.length_singleton]; omega)).to ?_
  rw [List.drop_eq_getElem_cons hlt, List.map_cons, List.append_assoc]
  rfl
theorem points_f (s : ByteArray) (hs : s.size ≤ 1099511627776) : Ev (fun k => impl_points.f k s) (pts s) := by
 refine Ev.bind (read_f s hs) ?_
 have := ats_len s 0
 refine (points_l (ats s) (by unfold ats; omega) _ 0 rfl (by omega) [] (by simp)).to ?_
 simp [ats, pts, ats_pts]
end Go.Proofs.YtfafjbolmeimmaaGreatDoor.P
namespace Go.Proofs.YtfafjbolmeimmaaGreatDoor.P
open Go.RowKit Go.Proofs.YtfafjbolmeimmaaGreatDoorW.PrintWords
set_option linter.unusedVariables false
theorem spoints_l (s : ByteArray) (hs : s.size ≤ 1099511627776) : ∀ i, ∀ acc : List Int, acc.length + (s.size - i) ≤ 1099511627776 → Ev (fun k => zaZ.l0 k s acc (i : Int)) (acc ++ ptsFrom s i) := by
 refine rec_places s (motive := fun i => ∀ acc : List Int, acc.length + (s.size - i) ≤ 1099511627776 → Ev (fun k => zaZ.l0 k s acc (i : Int)) (acc ++ ptsFrom s i)) ?_ ?_
 ·intro i h acc ha
  refine Ev.step (fun k => by rw [zaZ.l0]) ?_
  rw [ptsFrom_ge h, List.append_nil]
  exact Ev.neg (by omega) (Ev.now _)
 intro i h ih acc ha
 have hb := dec_bd s i h
 refine Ev.step (fun k => by rw [zaZ.l0]) ?_
 refine Ev.pos (by omega) (Ev.bind (next_f s hs i h) (Ev.pos (by omega) ?_))
 have e2 : wrap64 ((i : Int) + (nextR (dec s i)).2.1) = ((i + (dec s i).2 : Nat) : Int) := by
  show wrap64 ((i : Int) + ((dec s i).2 : Int)) = _
  rw [w64 (by omega) (by omega)]; omega
 rw [e2]
 refine (ih _ (by rw [List.length_append, List.length_singleton]; omega)).to ?_
 rw [ptsFrom_lt h]
 simp [nextR]
theorem spoints_f (s : ByteArray) (hs : s.size ≤ 1099511627776) : Ev (fun k => zaZ.f k s) (pts s) :=
 (spoints_l s hs 0 [] (by simp; omega)).to (by simp [pts])
end Go.Proofs.YtfafjbolmeimmaaGreatDoor.P
namespace Go.Proofs.YtfafjbolmeimmaaGreatDoor.P
open Go.RowKit Go.Proofs.YtfafjbolmeimmaaGreatDoorW.PrintWords
set_option linter.unusedVariables false
theorem wrNums_byte (p : Int) : ∀ b ∈ wrNums p, 0 ≤ b ∧ b ≤ 255 := by
 intro b hb
 unfold wrNums at hb
 split at hb
 ·simp only [List.mem_cons, List.mem_nil_iff, or_false] at hb; omega
 split at hb
 ·simp only [List.mem_cons, List.mem_nil_iff, or_false] at hb; omega
 split at hb <;> (simp only [List.mem_cons, List.mem_nil_iff, or_false] at hb; omega)
theorem bytesOf_strOfNums : ∀ (l : List Int), (∀ b ∈ l, 0 ≤ b ∧ b ≤ 255) → bytesOf (strOfNums l) = l := by
 intro l h
 unfold bytesOf strOfNums
 simp only [List.map_map]
 conv => rhs; rw [← List.map_id l]
 apply List.map_congr_left
 intro b hb
 have := h b hb
 simp only [Function.comp, id, UInt8.toNat_ofNat']
 omega
theorem bytesOf_wrP (p : Int) : bytesOf (wrP p) = wrB p := bytesOf_strOfNums _ (wrNums_byte _)
theorem text_l (l : List Int) (hl : l.length ≤ 1099511627776) : ∀ (d i : Nat), l.length - i = d → i ≤ l.length → ∀ acc : List Int, acc.length ≤ 4 * i → Ev (fun k => za7.l0 k l acc (i : Int)) (strOfNums (acc ++ txtB (l.drop i))) := by
 intro d
 induction d with
 | zero =>
  intro i hd hi acc ha
  refine Ev.step (fun k => by rw [za7.l0]) ?_
  refine Ev.neg (by omega) ((Ev.now _).to ?_)
  rw [List.drop_eq_nil_of_le (by omega)]
  simp [txtB]
 | succ d ih =>
  intro i hd hi acc ha
  have hlt : i < l.length := by omega
  refine Ev.step (fun k => by rw [za7.l0]) ?_
  have e3 : rd l (i : Int) = l[i] := by simp [rd, hlt]
  have hw := wrB_len l[i]
  have hsz : (wrP l[i]).size = (wrB l[i]).length := by rw [← bytesOf_wrP, bytesOf_length]
  rw [e3]
  refine Ev.pos (by omega) (Ev.pos (by omega) (Ev.bind (wr_ev _) (Ev.pos (by omega) ?_)))
  have e2 := w_succ i (by omega)
  rw [e2, bytesOf_wrP]
  refine (ih (i + 1) (by omega) (by omega) _ (by rw [List.length_append]; omega)).to ?_
  rw [List.drop_eq_getElem_cons hlt]
  show _ = strOfNums (acc ++ (wrB l[i] ++ txtB (l.drop (i + 1))))
  rw [List.append_assoc]
theorem text_f (l : List Int) (hl : l.length ≤ 1099511627776) : Ev (fun k => za7.f k l) (txt l) :=
 (text_l l hl _ 0 rfl (by omega) [] (by simp)).to (by simp [txt])
theorem bytesOf_drop (s : ByteArray) (i : Nat) (h : i < s.size) : (bytesOf s).drop i = ((s.get! i).toNat : Int) :: (bytesOf s).drop (i + 1) := by
 have hl : i < (bytesOf s).length := by rw [bytesOf_length]; exact h
 rw [List.drop_eq_getElem_cons hl]
 congr 1
 have := rd_bytesOf s (i : Int)
 rw [bt_get] at this
 rw [← this]
 simp [rd, hl]
theorem good_bytes (n b0 b1 b2 b3 v m : Nat) (hd : Lib.decodeN n b0 b1 b2 b3 = (v, m)) (hn : 1 ≤ n) (h0 : b0 < 256) (h1 : b1 < 256) (h2 : b2 < 256) (h3 : b3 < 256) (hg : ¬ (v = 65533 ∧ m = 1)) :
  (m = 1 ∧ wrB (v : Int) = [(b0 : Int)]) ∨ (m = 2 ∧ 1 < n ∧ wrB (v : Int) = [(b0 : Int), (b1 : Int)]) ∨ (m = 3 ∧ 2 < n ∧ wrB (v : Int) = [(b0 : Int), (b1 : Int), (b2 : Int)]) ∨ (m = 4 ∧ 3 < n ∧ wrB (v : Int) = [(b0 : Int), (b1 : Int), (b2 : Int), (b3 : Int)]) := by
 by_cases c1 : b0 < 128
 ·rw [dN1 c1] at hd
  cases hd
  left
  refine ⟨rfl, ?_⟩
  unfold wrB
  rw [isPt_iff.2 (by omega), if_pos rfl]
  unfold wrNums
  rw [if_pos (by omega)]
  congr 1
  omega
 by_cases c2 : b0 < 194 ∨ 245 ≤ b0
 ·rw [dN0 (by omega)] at hd
  cases hd
  exact absurd ⟨rfl, rfl⟩ hg
 by_cases c3 : b0 < 224
 ·rw [dN2 (by omega)] at hd
  split at hd
  ·cases hd
   right; left
   refine ⟨rfl, by omega, ?_⟩
   unfold wrB
   rw [isPt_iff.2 (by omega), if_pos rfl]
   unfold wrNums
   rw [if_neg (by omega), if_pos (by omega)]
   simp only [List.cons.injEq, and_true]
   omega
  cases hd
  exact absurd ⟨rfl, rfl⟩ hg
 by_cases c4 : b0 < 240
 ·rw [dN3 (by omega)] at hd
  split at hd
  ·cases hd
   right; right; left
   refine ⟨rfl, by omega, ?_⟩
   unfold wrB
   rw [isPt_iff.2 (by omega), if_pos rfl]
   unfold wrNums
   rw [if_neg (by omega), if_neg (by omega), if_pos (by omega)]
   simp only [List.cons.injEq, and_true]
   omega
  cases hd
  exact absurd ⟨rfl, rfl⟩ hg
 rw [dN4 (by omega)] at hd
 split at hd
 ·cases hd
  right; right; right
  refine ⟨rfl, by omega, ?_⟩
  unfold wrB
  rw [isPt_iff.2 (by omega), if_pos rfl]
  unfold wrNums
  rw [if_neg (by omega), if_neg (by omega), if_neg (by omega)]
  simp only [List.cons.injEq, and_true]
  omega
 cases hd
 exact absurd ⟨rfl, rfl⟩ hg
theorem good_at (s : ByteArray) (i : Nat) (h : i < s.size) (hg : badAt s i = false) : (bytesOf s).drop i = wrB ((dec s i).1 : Int) ++ (bytesOf s).drop (i + (dec s i).2) := by
 have hg' : ¬ ((dec s i).1 = 65533 ∧ (dec s i).2 = 1) := by
  rintro ⟨e1, e2⟩
  unfold badAt at hg
  rw [e1, e2] at hg
  cases hg
 obtain ⟨v, m, hd⟩ : ∃ v m, dec s i = (v, m) := ⟨_, _, rfl⟩
 rw [hd] at hg' ⊢
 rw [dec_eq] at hd
 rcases good_bytes _ _ _ _ _ v m hd (by omega) (s.get! i).toNat_lt (s.get! (i + 1)).toNat_lt (s.get! (i + 2)).toNat_lt (s.get! (i + 3)).toNat_lt hg' with ⟨rfl, e⟩ | ⟨rfl, h1, e⟩ | ⟨rfl, h1, e⟩ | ⟨rfl, h1, e⟩
 ·rw [e, bytesOf_drop s i h]; rfl
 ·rw [e, bytesOf_drop s i h, bytesOf_drop s (i + 1) (by omega)]; rfl
 ·rw [e, bytesOf_drop s i h, bytesOf_drop s (i + 1) (by omega), bytesOf_drop s (i + 2) (by omega)]; rfl
 rw [e, bytesOf_drop s i h, bytesOf_drop s (i + 1) (by omega), bytesOf_drop s (i + 2) (by omega), bytesOf_drop s (i + 3) (by omega)]; rfl
def goodFrom (s : ByteArray) (i : Nat) : Bool :=
 if h : i < s.size then !badAt s i && goodFrom s (i + (dec s i).2) else true
termination_by s.size - i
decreasing_by have := dec_bd s i h; omega
theorem goodFrom_lt {s : ByteArray} {i : Nat} (h : i < s.size) : goodFrom s i = (!badAt s i && goodFrom s (i + (dec s i).2)) := by rw [goodFrom, dif_pos h]
theorem goodFrom_ge {s : ByteArray} {i : Nat} (h : ¬ i < s.size) : goodFrom s i = true := by rw [goodFrom, dif_neg h]
theorem bad_bytes (s : ByteArray) (i : Nat) (h : i < s.size) (hb : badAt s i = true) (r : List Int) : (bytesOf s).drop i ≠ wrB 65533 ++ r := by
 intro e
 have e0 : wrB 65533 = [239, 191, 189] := by decide
 rw [e0] at e
 have hl := congrArg List.length e
 rw [List.length_drop, bytesOf_length, List.length_append] at hl
 simp only [List.length_cons, List.length_nil] at hl
 rw [bytesOf_drop s i h, bytesOf_drop s (i + 1) (by omega), bytesOf_drop s (i + 2) (by omega)] at e
 simp only [List.cons_append, List.nil_append, List.cons.injEq] at e
 obtain ⟨e1, e2, e3, _⟩ := e
 have hd := dec_eq s i
 rw [show (s.get! i).toNat = 239 by omega, show (s.get! (i + 1)).toNat = 191 by omega, show (s.get! (i + 2)).toNat = 189 by omega, dN3 (by omega), if_pos (by omega)] at hd
 unfold badAt at hb
 rw [hd] at hb
 cases hb
theorem bad_at (s : ByteArray) (i : Nat) (hb : badAt s i = true) : (dec s i).1 = 65533 ∧ (dec s i).2 = 1 := by
 unfold badAt at hb
 simpa using hb
theorem back_from (s : ByteArray) : ∀ i, (txtB (ptsFrom s i) = (bytesOf s).drop i ↔ goodFrom s i = true) := by
 refine rec_places s (motive := fun i => (txtB (ptsFrom s i) = (bytesOf s).drop i ↔ goodFrom s i = true)) ?_ ?_
 ·intro i h
  show _ ↔ _
  rw [ptsFrom_ge h, goodFrom_ge h, List.drop_eq_nil_of_le (by rw [bytesOf_length]; omega)]
  simp [txtB]
 intro i h ih
 show _ ↔ _
 rw [ptsFrom_lt h, goodFrom_lt h]
 have e : txtB (((dec s i).1 : Int) :: ptsFrom s (i + (dec s i).2)) = wrB ((dec s i).1 : Int) ++ txtB (ptsFrom s (i + (dec s i).2)) := rfl
 rw [e]
 cases hb : badAt s i with
 | false =>
  rw [good_at s i h hb, List.append_cancel_left_eq, ih]
  simp
 | true =>
  constructor
  ·intro he
   exfalso
   rw [(bad_at s i hb).1] at he
   exact bad_bytes s i h hb _ he.symm
  intro he
  simp at he
theorem bytesOf_inj {s t : ByteArray} (h : bytesOf s = bytesOf t) : s = t := by
 unfold bytesOf at h
 have h2 : s.data.toList = t.data.toList := by
  refine List.map_inj_right (f := fun b : UInt8 => (b.toNat : Int)) ?_ |>.1 h
  intro a b hab
  have : a.toNat = b.toNat := by omega
  exact UInt8.toNat_inj.1 this
 cases s with
 | mk a =>
  cases t with
  | mk b =>
   congr
   exact Array.toList_inj.1 h2
theorem bytesOf_txt (l : List Int) : bytesOf (txt l) = txtB l := by
 refine bytesOf_strOfNums _ ?_
 intro b hb
 obtain ⟨p, _, hp⟩ := List.mem_flatMap.1 hb
 exact wrNums_byte _ b hp
theorem txt_back (s : ByteArray) : txt (pts s) = s ↔ goodFrom s 0 = true := by
 rw [← back_from s 0, List.drop_zero]
 constructor
 ·intro h
  have := congrArg bytesOf h
  rw [bytesOf_txt] at this
  exact this
 intro h
 apply bytesOf_inj
 rw [bytesOf_txt]
 exact h
theorem decodeL_at (s : ByteArray) (i : Nat) : Lib.decodeL (s.data.toList.drop i) = dec s i := by
 have h := Lib.tail_decode s i 0
 rw [Nat.add_zero] at h
 unfold dec
 rw [← h, ← Lib.ext_list]
 rfl
theorem valid_from (s : ByteArray) : ∀ i, Lib.validD (s.data.toList.drop i) = goodFrom s i := by
 refine rec_places s (motive := fun i => Lib.validD (s.data.toList.drop i) = goodFrom s i) ?_ ?_
 ·intro i h
  show _ = _
  rw [goodFrom_ge h, List.drop_eq_nil_of_le (by rw [data_length]; omega)]
  rfl
 intro i h ih
 show _ = _
 have hne : s.data.toList.drop i ≠ [] := by
  intro e
  have := congrArg List.length e
  rw [List.length_drop, data_length] at this
  simp at this
  omega
 rw [Lib.validD_step _ hne, decodeL_at, List.drop_drop, goodFrom_lt h, ih]
 cases hb : badAt s i with
 | true =>
  rw [if_pos (bad_at s i hb)]
  rfl
 | false =>
  rw [if_neg]
  ·rfl
  rintro ⟨e1, e2⟩
  unfold badAt at hb
  rw [e1, e2] at hb
  cases hb
theorem valid_eq (s : ByteArray) : Lib.validD s.data.toList = goodFrom s 0 := by
 have := valid_from s 0
 rw [List.drop_zero] at this
 exact this
end Go.Proofs.YtfafjbolmeimmaaGreatDoor.P
