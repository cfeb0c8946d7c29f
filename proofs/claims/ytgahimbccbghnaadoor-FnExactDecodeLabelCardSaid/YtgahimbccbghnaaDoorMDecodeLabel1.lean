/- The law of FnExactDecodeLabel: for every input it returns true. No condition beside those of the statement. -/
import Derived.Test.YtgahimbccbghnaaDoorD1
import Derived.Test.YtgahimbccbghnaaDoorXPu
import Derived.Lib.ValidLaws
import Derived.Test.YtgahimbccbghnaaDoorD5
import Derived.Test.YtgahimbccbghnaaDoorD4
import Derived.Test.YtgahimbccbghnaaDoorD3
import Derived.Test.YtgahimbccbghnaaDoorXEnc
import Derived.Test.YtgahimbccbghnaaDoorD11
import Derived.Test.YtgahimbccbghnaaDoorD6
import Derived.Test.YtgahimbccbghnaaDoorD12
import Derived.Test.YtgahimbccbghnaaDoorXDec
import Derived.Test.YtgahimbccbghnaaDoorD13
import Derived.Test.YtgahimbccbghnaaDoorD14
import Derived.Test.YtgahimbccbghnaaDoorTie
import Derived.Test.YtgahimbccbghnaaDoorD0
import Derived.Test.YtgahimbccbghnaaDoorXG
import Derived.Lib.LaidU8T
import Derived.PinnedBridge
import Derived.Lay
import Derived.SevenTiedAt
import Derived.ProofKit
import Derived.OpenShut
import Derived.ShutString
import Derived.ChangeOld
import Derived.SliceStrings
import Derived.Deep.Fields
import Derived.SizedLaws
import Derived.Test.YtgahimbccbghnaaDoorCards
namespace Go.Proofs.YtgahimbccbghnaaDoor.P
open Go.RowKit Go.Proofs.YtgahimbccbghnaaDoorW.PrintWords
set_option linter.unusedVariables false
theorem wrNums_byte (p : Int) : ∀ b ∈ wrNums p, 0 ≤ b ∧ b ≤ 255 := by
  intro b hb
  unfold wrNums at hb
  split at hb
  · simp only [List.mem_cons, List.mem_nil_iff, or_false] at hb; omega
  · split at hb
    · simp only [List.mem_cons, List.mem_nil_iff, or_false] at hb; omega
    · split at hb <;> (simp only [List.mem_cons, List.mem_nil_iff, or_false] at hb; omega)
theorem bytesOf_strOfNums : ∀ (l : List Int), (∀ b ∈ l, 0 ≤ b ∧ b ≤ 255) → bytesOf (strOfNums l) = l := by
  intro l h
  unfold bytesOf strOfNums
  simp only [List.map_map]
  conv => rhs; rw [← List.map_id l]
  apply List.map_congr_left
  intro b hb
  have := h b hb
  simp only [Function.comp, id, UInt8.toNat_ofNat']
  omega
theorem bytesOf_wrP (p : Int) : bytesOf (wrP p) = wrB p := bytesOf_strOfNums _ (wrNums_byte _)
theorem text_l (l : List Int) (hl : l.length ≤ 1099511627776) : ∀ (d i : Nat), l.length - i = d → i ≤ l.length → ∀ acc : List Int, acc.length ≤ 4 * i → Ev (fun k => spec_l01Text.l0 k l acc (i : Int)) (strOfNums (acc ++ txtB (l.drop i))) := by
  intro d
  induction d with
  | zero =>
    intro i hd hi acc ha
    refine Ev.step (fun k => by rw [spec_l01Text.l0]) ?_
    refine Ev.neg (by omega) ((Ev.now _).to ?_)
    rw [List.drop_eq_nil_of_le (by omega)]
    simp [txtB]
  | succ d ih =>
    intro i hd hi acc ha
    have hlt : i < l.length := by omega
    refine Ev.step (fun k => by rw [spec_l01Text.l0]) ?_
    have e3 : rd l (i : Int) = l[i] := by simp [rd, hlt]
    have hw := wrB_len l[i]
    have hsz : (wrP l[i]).size = (wrB l[i]).length := by rw [← bytesOf_wrP, bytesOf_length]
    rw [e3]
    refine Ev.pos (by omega) (Ev.pos (by omega) (Ev.bind (wr_ev _) (Ev.pos (by omega) ?_)))
    have e2 := w_succ i (by omega)
    rw [e2, bytesOf_wrP]
    refine (ih (i + 1) (by omega) (by omega) _ (by rw [List.length_append]; omega)).to ?_
    rw [List.drop_eq_getElem_cons hlt]
    show _ = strOfNums (acc ++ (wrB l[i] ++ txtB (l.drop (i + 1))))
    rw [List.append_assoc]
theorem text_f (l : List Int) (hl : l.length ≤ 1099511627776) : Ev (fun k => spec_l01Text.f k l) (txt l) :=
  (text_l l hl _ 0 rfl (by omega) [] (by simp)).to (by simp [txt])
/-! ### back and forth -/
theorem bytesOf_drop (s : ByteArray) (i : Nat) (h : i < s.size) : (bytesOf s).drop i = ((s.get! i).toNat : Int) :: (bytesOf s).drop (i + 1) := by
  have hl : i < (bytesOf s).length := by rw [bytesOf_length]; exact h
  rw [List.drop_eq_getElem_cons hl]
  congr 1
  have := rd_bytesOf s (i : Int)
  rw [bt_get] at this
  rw [← this]
  simp [rd, hl]
theorem good_bytes (n b0 b1 b2 b3 v m : Nat) (hd : Lib.decodeN n b0 b1 b2 b3 = (v, m)) (hn : 1 ≤ n) (h0 : b0 < 256) (h1 : b1 < 256) (h2 : b2 < 256) (h3 : b3 < 256) (hg : ¬ (v = 65533 ∧ m = 1)) :
    (m = 1 ∧ wrB (v : Int) = [(b0 : Int)]) ∨ (m = 2 ∧ 1 < n ∧ wrB (v : Int) = [(b0 : Int), (b1 : Int)]) ∨ (m = 3 ∧ 2 < n ∧ wrB (v : Int) = [(b0 : Int), (b1 : Int), (b2 : Int)]) ∨ (m = 4 ∧ 3 < n ∧ wrB (v : Int) = [(b0 : Int), (b1 : Int), (b2 : Int), (b3 : Int)]) := by
  by_cases c1 : b0 < 128
  · rw [dN1 c1] at hd
    cases hd
    left
    refine ⟨rfl, ?_⟩
    unfold wrB
    rw [isPt_iff.2 (by omega), if_pos rfl]
    unfold wrNums
    rw [if_pos (by omega)]
    congr 1
    omega
  by_cases c2 : b0 < 194 ∨ 245 ≤ b0
  · rw [dN0 (by omega)] at hd
    cases hd
    exact absurd ⟨rfl, rfl⟩ hg
  by_cases c3 : b0 < 224
  · rw [dN2 (by omega)] at hd
    split at hd
    · cases hd
      right; left
      refine ⟨rfl, by omega, ?_⟩
      unfold wrB
      rw [isPt_iff.2 (by omega), if_pos rfl]
      unfold wrNums
      rw [if_neg (by omega), if_pos (by omega)]
      simp only [List.cons.injEq, and_true]
      omega
    · cases hd
      exact absurd ⟨rfl, rfl⟩ hg
  by_cases c4 : b0 < 240
  · rw [dN3 (by omega)] at hd
    split at hd
    · cases hd
      right; right; left
      refine ⟨rfl, by omega, ?_⟩
      unfold wrB
      rw [isPt_iff.2 (by omega), if_pos rfl]
      unfold wrNums
      rw [if_neg (by omega), if_neg (by omega), if_pos (by omega)]
      simp only [List.cons.injEq, and_true]
      omega
    · cases hd
      exact absurd ⟨rfl, rfl⟩ hg
  · rw [dN4 (by omega)] at hd
    split at hd
    · cases hd
      right; right; right
      refine ⟨rfl, by omega, ?_⟩
      unfold wrB
      rw [isPt_iff.2 (by omega), if_pos rfl]
      unfold wrNums
      rw [if_neg (by omega), if_neg (by omega), if_neg (by omega)]
      simp only [List.cons.injEq, and_true]
      omega
    · cases hd
      exact absurd ⟨rfl, rfl⟩ hg
theorem good_at (s : ByteArray) (i : Nat) (h : i < s.size) (hg : badAt s i = false) : (bytesOf s).drop i = wrB ((dec s i).1 : Int) ++ (bytesOf s).drop (i + (dec s i).2) := by
  have hg' : ¬ ((dec s i).1 = 65533 ∧ (dec s i).2 = 1) := by
    rintro ⟨e1, e2⟩
    unfold badAt at hg
    rw [e1, e2] at hg
    cases hg
  obtain ⟨v, m, hd⟩ : ∃ v m, dec s i = (v, m) := ⟨_, _, rfl⟩
  rw [hd] at hg' ⊢
  rw [dec_eq] at hd
  rcases good_bytes _ _ _ _ _ v m hd (by omega) (s.get! i).toNat_lt (s.get! (i + 1)).toNat_lt (s.get! (i + 2)).toNat_lt (s.get! (i + 3)).toNat_lt hg' with ⟨rfl, e⟩ | ⟨rfl, h1, e⟩ | ⟨rfl, h1, e⟩ | ⟨rfl, h1, e⟩
  · rw [e, bytesOf_drop s i h]; rfl
  · rw [e, bytesOf_drop s i h, bytesOf_drop s (i + 1) (by omega)]; rfl
  · rw [e, bytesOf_drop s i h, bytesOf_drop s (i + 1) (by omega), bytesOf_drop s (i + 2) (by omega)]; rfl
  · rw [e, bytesOf_drop s i h, bytesOf_drop s (i + 1) (by omega), bytesOf_drop s (i + 2) (by omega), bytesOf_drop s (i + 3) (by omega)]; rfl
/-- No byte from a place on that is no point's. -/
def goodFrom (s : ByteArray) (i : Nat) : Bool :=
  if h : i < s.size then !badAt s i && goodFrom s (i + (dec s i).2) else true
termination_by s.size - i
decreasing_by have := dec_bd s i h; omega
theorem goodFrom_lt {s : ByteArray} {i : Nat} (h : i < s.size) : goodFrom s i = (!badAt s i && goodFrom s (i + (dec s i).2)) := by rw [goodFrom, dif_pos h]
theorem goodFrom_ge {s : ByteArray} {i : Nat} (h : ¬ i < s.size) : goodFrom s i = true := by rw [goodFrom, dif_neg h]
theorem bad_bytes (s : ByteArray) (i : Nat) (h : i < s.size) (hb : badAt s i = true) (r : List Int) : (bytesOf s).drop i ≠ wrB 65533 ++ r := by
  intro e
  have e0 : wrB 65533 = [239, 191, 189] := by decide
  rw [e0] at e
  have hl := congrArg List.length e
  rw [List.length_drop, bytesOf_length, List.length_append] at hl
  simp only [List.length_cons, List.length_nil] at hl
  rw [bytesOf_drop s i h, bytesOf_drop s (i + 1) (by omega), bytesOf_drop s (i + 2) (by omega)] at e
  simp only [List.cons_append, List.nil_append, List.cons.injEq] at e
  obtain ⟨e1, e2, e3, _⟩ := e
  have hd := dec_eq s i
  rw [show (s.get! i).toNat = 239 by omega, show (s.get! (i + 1)).toNat = 191 by omega, show (s.get! (i + 2)).toNat = 189 by omega, dN3 (by omega), if_pos (by omega)] at hd
  unfold badAt at hb
  rw [hd] at hb
  cases hb
theorem bad_at (s : ByteArray) (i : Nat) (hb : badAt s i = true) : (dec s i).1 = 65533 ∧ (dec s i).2 = 1 := by
  unfold badAt at hb
  simpa using hb
theorem back_from (s : ByteArray) : ∀ i, (txtB (ptsFrom s i) = (bytesOf s).drop i ↔ goodFrom s i = true) := by
  refine rec_places s (motive := fun i => (txtB (ptsFrom s i) = (bytesOf s).drop i ↔ goodFrom s i = true)) ?_ ?_
  · intro i h
    show _ ↔ _
    rw [ptsFrom_ge h, goodFrom_ge h, List.drop_eq_nil_of_le (by rw [bytesOf_length]; omega)]
    simp [txtB]
  · intro i h ih
    show _ ↔ _
    rw [ptsFrom_lt h, goodFrom_lt h]
    have e : txtB (((dec s i).1 : Int) :: ptsFrom s (i + (dec s i).2)) = wrB ((dec s i).1 : Int) ++ txtB (ptsFrom s (i + (dec s i).2)) := rfl
    rw [e]
    cases hb : badAt s i with
    | false =>
      rw [good_at s i h hb, List.append_cancel_left_eq, ih]
      simp
    | true =>
      constructor
      · intro he
        exfalso
        rw [(bad_at s i hb).1] at he
        exact bad_bytes s i h hb _ he.symm
      · intro he
        simp at he
theorem bytesOf_inj {s t : ByteArray} (h : bytesOf s = bytesOf t) : s = t := by
  unfold bytesOf at h
  have h2 : s.data.toList = t.data.toList := by
    refine List.map_inj_right (f := fun b : UInt8 => (b.toNat : Int)) ?_ |>.1 h
    intro a b hab
    have : a.toNat = b.toNat := by omega
    exact UInt8.toNat_inj.1 this
  cases s with
  | mk a =>
    cases t with
    | mk b =>
      congr
      exact Array.toList_inj.1 h2
theorem bytesOf_txt (l : List Int) : bytesOf (txt l) = txtB l := by
  refine bytesOf_strOfNums _ ?_
  intro b hb
  obtain ⟨p, _, hp⟩ := List.mem_flatMap.1 hb
  exact wrNums_byte _ b hp
theorem txt_back (s : ByteArray) : txt (pts s) = s ↔ goodFrom s 0 = true := by
  rw [← back_from s 0, List.drop_zero]
  constructor
  · intro h
    have := congrArg bytesOf h
    rw [bytesOf_txt] at this
    exact this
  · intro h
    apply bytesOf_inj
    rw [bytesOf_txt]
    exact h
theorem decodeL_at (s : ByteArray) (i : Nat) : Lib.decodeL (s.data.toList.drop i) = dec s i := by
  have h := Lib.tail_decode s i 0
  rw [Nat.add_zero] at h
  unfold dec
  rw [← h, ← Lib.ext_list]
  rfl
theorem valid_from (s : ByteArray) : ∀ i, Lib.validD (s.data.toList.drop i) = goodFrom s i := by
  refine rec_places s (motive := fun i => Lib.validD (s.data.toList.drop i) = goodFrom s i) ?_ ?_
  · intro i h
    show _ = _
    rw [goodFrom_ge h, List.drop_eq_nil_of_le (by rw [data_length]; omega)]
    rfl
  · intro i h ih
    show _ = _
    have hne : s.data.toList.drop i ≠ [] := by
      intro e
      have := congrArg List.length e
      rw [List.length_drop, data_length] at this
      simp at this
      omega
    rw [Lib.validD_step _ hne, decodeL_at, List.drop_drop, goodFrom_lt h, ih]
    cases hb : badAt s i with
    | true =>
      rw [if_pos (bad_at s i hb)]
      rfl
    | false =>
      rw [if_neg]
      · rfl
      · rintro ⟨e1, e2⟩
        unfold badAt at hb
        rw [e1, e2] at hb
        cases hb
theorem valid_eq (s : ByteArray) : Lib.validD s.data.toList = goodFrom s 0 := by
  have := valid_from s 0
  rw [List.drop_zero] at this
  exact this
end Go.Proofs.YtgahimbccbghnaaDoor.P
namespace Go.Proofs.YtgahimbccbghnaaDoor.P
open Go.RowKit Go.Proofs.YtgahimbccbghnaaDoorW.PrintWords
set_option linter.unusedVariables false
theorem drop_cons {s : ByteArray} {i : Nat} {a : Int} {r : List Int} (h : (bytesOf s).drop i = a :: r) : i < s.size ∧ ((s.get! i).toNat : Int) = a ∧ (bytesOf s).drop (i + 1) = r := by
  have hi : i < s.size := by
    rcases Nat.lt_or_ge i s.size with h' | h'
    · exact h'
    · rw [List.drop_eq_nil_of_le (by rw [bytesOf_length]; exact h')] at h
      cases h
  rw [bytesOf_drop s i hi] at h
  injection h with h1 h2
  exact ⟨hi, h1, h2⟩
/-- Where a point is written it is read. -/
theorem dec_wr (s : ByteArray) (i : Nat) (p : Int) (hp : isPt p = true) (r : List Int) (h : (bytesOf s).drop i = wrB p ++ r) : i < s.size ∧ ((dec s i).1 : Int) = p ∧ (dec s i).2 = (wrB p).length ∧ (bytesOf s).drop (i + (wrB p).length) = r ∧ badAt s i = false := by
  obtain ⟨p0, p1, p2⟩ := isPt_iff.1 hp
  have hb : ∀ v n : Nat, dec s i = (v, n) → ¬ (v = 65533 ∧ n = 1) → badAt s i = false := by
    intro v n h1 h2
    unfold badAt
    rw [h1]
    simp only [Bool.and_eq_false_iff, beq_eq_false_iff_ne]
    by_cases a : v = 65533
    · exact .inr fun hh => h2 ⟨a, hh⟩
    · exact .inl a
  have e : wrB p = wrNums p := by unfold wrB; rw [if_pos hp]
  rw [e] at h ⊢
  unfold wrNums at h ⊢
  by_cases h1 : p < 128
  · rw [if_pos h1] at h ⊢
    obtain ⟨a1, a2, a3⟩ := drop_cons h
    have hd : dec s i = ((s.get! i).toNat, 1) := by rw [dec_eq, dN1 (by omega)]
    refine ⟨a1, by rw [hd]; simp only; omega, by rw [hd]; rfl, a3, hb _ _ hd (by omega)⟩
  · rw [if_neg h1] at h ⊢
    by_cases h2 : p < 2048
    · rw [if_pos h2] at h ⊢
      obtain ⟨a1, a2, a3⟩ := drop_cons h
      obtain ⟨b1, b2, b3⟩ := drop_cons a3
      have hd : dec s i = (p.toNat, 2) := by
        rw [dec_eq, dN2 (by omega), if_pos (by omega)]
        congr 1
        omega
      refine ⟨a1, by rw [hd]; simp only; omega, by rw [hd]; rfl, b3, hb _ _ hd (by omega)⟩
    · rw [if_neg h2] at h ⊢
      by_cases h3 : p < 65536
      · rw [if_pos h3] at h ⊢
        obtain ⟨a1, a2, a3⟩ := drop_cons h
        obtain ⟨b1, b2, b3⟩ := drop_cons a3
        obtain ⟨c1, c2, c3⟩ := drop_cons b3
        replace c2 : ((s.get! (i + 2)).toNat : Int) = _ := c2
        have hd : dec s i = (p.toNat, 3) := by
          rw [dec_eq, dN3 (by omega), if_pos (by omega)]
          congr 1
          omega
        refine ⟨a1, by rw [hd]; simp only; omega, by rw [hd]; rfl, c3, hb _ _ hd (by omega)⟩
      · rw [if_neg h3] at h ⊢
        obtain ⟨a1, a2, a3⟩ := drop_cons h
        obtain ⟨b1, b2, b3⟩ := drop_cons a3
        obtain ⟨c1, c2, c3⟩ := drop_cons b3
        obtain ⟨d1, d2, d3⟩ := drop_cons c3
        replace c2 : ((s.get! (i + 2)).toNat : Int) = _ := c2
        replace d2 : ((s.get! (i + 3)).toNat : Int) = _ := d2
        have hd : dec s i = (p.toNat, 4) := by
          rw [dec_eq, dN4 (by omega), if_pos (by omega)]
          congr 1
          omega
        refine ⟨a1, by rw [hd]; simp only; omega, by rw [hd]; rfl, d3, hb _ _ hd (by omega)⟩
theorem pts_wr (s : ByteArray) : ∀ (l : List Int) (i : Nat), (∀ p ∈ l, isPt p = true) → (bytesOf s).drop i = txtB l → ptsFrom s i = l ∧ goodFrom s i = true
  | [], i, _, h => by
    have hi : ¬ i < s.size := fun hi => by rw [bytesOf_drop s i hi] at h; cases h
    exact ⟨ptsFrom_ge hi, goodFrom_ge hi⟩
  | p :: l, i, hp, h => by
    have h' : (bytesOf s).drop i = wrB p ++ txtB l := h
    obtain ⟨a1, a2, a3, a4, a5⟩ := dec_wr s i p (hp p (List.mem_cons_self ..)) (txtB l) h'
    obtain ⟨b1, b2⟩ := pts_wr s l (i + (wrB p).length) (fun q hq => hp q (List.mem_cons_of_mem _ hq)) a4
    rw [ptsFrom_lt a1, goodFrom_lt a1, a2, a3, b1, b2, a5]
    exact ⟨rfl, rfl⟩
theorem pts_txt (l : List Int) (hp : ∀ p ∈ l, isPt p = true) : pts (txt l) = l ∧ goodFrom (txt l) 0 = true :=
  pts_wr (txt l) l 0 hp (by rw [List.drop_zero, bytesOf_txt])
end Go.Proofs.YtgahimbccbghnaaDoor.P
namespace Go.Proofs.YtgahimbccbghnaaDoor.P
open Go.RowKit Go.Proofs.YtgahimbccbghnaaDoorW.PrintWords Go.Proofs.YtgahimbccbghnaaDoorW.PrintMore
set_option linter.unusedVariables false
theorem clamp_bd (b kk : Int) : 1 ≤ mn (mx (wrap64 (kk - b)) 1) 26 ∧ mn (mx (wrap64 (kk - b)) 1) 26 ≤ 26 := by
  generalize wrap64 (kk - b) = x
  unfold mn mx
  constructor <;> (repeat' split) <;> omega
theorem least_f (b kk : Int) (hb0 : 0 ≤ b) (hb : b ≤ 1000000000000) (hk0 : 0 ≤ kk) (hk : kk ≤ 1152921504606846976) : spec_l19Least.f kk b = some (mn (mx (wrap64 (kk - b)) 1) 26) := by
  unfold spec_l19Least.f
  rw [w64 (x := kk - b) (by omega) (by omega), w64 (x := b + 26) (by omega) (by omega)]
  unfold mn mx
  by_cases h1 : kk ≤ b
  · rw [if_pos h1]
    have e : (if kk - b < 1 then (1 : Int) else kk - b) = 1 := if_pos (by omega)
    rw [e, if_neg (by omega)]
  · rw [if_neg h1]
    have e : (if kk - b < 1 then (1 : Int) else kk - b) = kk - b := if_neg (by omega)
    rw [e]
    by_cases h2 : kk ≥ b + 26
    · rw [if_pos h2]
      by_cases h3 : 26 < kk - b
      · rw [if_pos h3]
      · rw [if_neg h3]; congr 1; omega
    · rw [if_neg h2, if_neg (by omega)]
theorem digit_f (x : Int) (h0 : 0 ≤ x) (h1 : x < 36) : spec_l19Digit.f x = some (bt (⟨#[97, 98, 99, 100, 101, 102, 103, 104, 105, 106, 107, 108, 109, 110, 111, 112, 113, 114, 115, 116, 117, 118, 119, 120, 121, 122, 48, 49, 50, 51, 52, 53, 54, 55, 56, 57]⟩ : ByteArray) x) := by
  unfold spec_l19Digit.f
  rw [if_pos h0, if_pos h1]
theorem dig_ev (b : Int) (hb0 : 0 ≤ b) (hb : b ≤ 1000000000000) : ∀ (n : Nat) (q kk : Int), 0 ≤ q → q ≤ n → 0 ≤ kk → kk + 36 * q ≤ 1152921504606846976 →
    ∃ ds : List Int, ds.length ≤ n + 1 ∧ ∀ y : List Int, y.length + n ≤ 100000000000000 → Ev (fun k => encDig b k y q kk) (y ++ ds) ∧ Ev (fun k => spec_l19Number.l0 k b y q kk) (y ++ ds) := by
  intro n
  induction n with
  | zero =>
    intro q kk hq hqn hk hkk
    obtain rfl : q = 0 := by omega
    obtain ⟨t1, t2⟩ := clamp_bd b kk
    refine ⟨[bt (⟨#[97, 98, 99, 100, 101, 102, 103, 104, 105, 106, 107, 108, 109, 110, 111, 112, 113, 114, 115, 116, 117, 118, 119, 120, 121, 122, 48, 49, 50, 51, 52, 53, 54, 55, 56, 57]⟩ : ByteArray) 0], by simp, fun y hy => ⟨?_, ?_⟩⟩
    · exact Ev.step (fun k => by rw [encDig]) (Ev.pos (by omega) (Ev.pos (by omega) (Ev.pos (by omega) (Ev.now _))))
    · refine Ev.step (fun k => by rw [spec_l19Number.l0]) (Ev.bind (Ev.done (least_f b kk hb0 hb hk (by omega))) ?_)
      refine Ev.pos (by omega) ?_
      refine Ev.bind (Ev.done (digit_f 0 (by omega) (by omega))) ?_
      exact Ev.pos (by omega) (Ev.now _)
  | succ n ih =>
    intro q kk hq hqn hk hkk
    obtain ⟨t1, t2⟩ := clamp_bd b kk
    have hl := least_f b kk hb0 hb hk (by omega)
    generalize ht : mn (mx (wrap64 (kk - b)) 1) 26 = t at *
    by_cases hqt : q < t
    · refine ⟨[bt (⟨#[97, 98, 99, 100, 101, 102, 103, 104, 105, 106, 107, 108, 109, 110, 111, 112, 113, 114, 115, 116, 117, 118, 119, 120, 121, 122, 48, 49, 50, 51, 52, 53, 54, 55, 56, 57]⟩ : ByteArray) q], by simp, fun y hy => ⟨?_, ?_⟩⟩
      · exact Ev.step (fun k => by rw [encDig, ht]) (Ev.pos (by omega) (Ev.pos hqt (Ev.pos (by omega) (Ev.now _))))
      · refine Ev.step (fun k => by rw [spec_l19Number.l0]) (Ev.bind (Ev.done hl) ?_)
        refine Ev.pos hqt ?_
        refine Ev.bind (Ev.done (digit_f q (by omega) (by omega))) ?_
        exact Ev.pos (by omega) (Ev.now _)
    · have e1 : wrap64 (q - t) = q - t := w64 (by omega) (by omega)
      have e2 : wrap64 (36 - t) = 36 - t := w64 (by omega) (by omega)
      have e3 : Int.tmod (q - t) (36 - t) = (q - t) % (36 - t) := Int.tmod_eq_emod_of_nonneg (by omega)
      have e4 : Int.tdiv (q - t) (36 - t) = (q - t) / (36 - t) := Int.tdiv_eq_ediv_of_nonneg (by omega)
      have m0 : 0 ≤ (q - t) % (36 - t) := Int.emod_nonneg _ (by omega)
      have m1 : (q - t) % (36 - t) < 36 - t := Int.emod_lt_of_pos _ (by omega)
      have d0 : 0 ≤ (q - t) / (36 - t) := Int.ediv_nonneg (by omega) (by omega)
      have d1 : (q - t) / (36 - t) ≤ q - t := Int.ediv_le_self _ (by omega)
      have e5 : wrap64 (t + (q - t) % (36 - t)) = t + (q - t) % (36 - t) := w64 (by omega) (by omega)
      have e6 : wrap64 ((q - t) / (36 - t)) = (q - t) / (36 - t) := w64 (by omega) (by omega)
      have e7 : wrap64 (kk + 36) = kk + 36 := w64 (by omega) (by omega)
      obtain ⟨ds, hds, hev⟩ := ih ((q - t) / (36 - t)) (kk + 36) d0 (by omega) (by omega) (by omega)
      refine ⟨bt (⟨#[97, 98, 99, 100, 101, 102, 103, 104, 105, 106, 107, 108, 109, 110, 111, 112, 113, 114, 115, 116, 117, 118, 119, 120, 121, 122, 48, 49, 50, 51, 52, 53, 54, 55, 56, 57]⟩ : ByteArray) (t + (q - t) % (36 - t)) :: ds, by simp; omega, fun y hy => ?_⟩
      obtain ⟨v1, v2⟩ := hev (y ++ [bt (⟨#[97, 98, 99, 100, 101, 102, 103, 104, 105, 106, 107, 108, 109, 110, 111, 112, 113, 114, 115, 116, 117, 118, 119, 120, 121, 122, 48, 49, 50, 51, 52, 53, 54, 55, 56, 57]⟩ : ByteArray) (t + (q - t) % (36 - t))]) (by simp; omega)
      rw [List.append_assoc] at v1 v2
      refine ⟨?_, ?_⟩
      · refine Ev.step (fun k => by rw [encDig, ht, e1, e2, e3, e4, e5, e6, e7]) (Ev.pos (by omega) (Ev.neg hqt (Ev.neg (by omega) (Ev.pos (by omega) v1))))
      · refine Ev.step (fun k => by rw [spec_l19Number.l0]) (Ev.bind (Ev.done hl) ?_)
        rw [e1, e2, e3, e4, e5, e6, e7]
        refine Ev.neg hqt (Ev.neg (by omega) ?_)
        refine Ev.bind (Ev.done (digit_f _ (by omega) (by omega))) ?_
        exact Ev.pos (by omega) v2
theorem bias_small (x kk : Int) (h0 : 0 ≤ x) (hx : ¬ x > 455) (h2 : 0 ≤ kk) (h3 : kk + 36 * x ≤ 500000000000) : ∃ r, 0 ≤ r ∧ r ≤ 1000000000000 ∧ Ev (fun k => spec_l19Bias.l0 k x kk) r := by
  have e4 : Int.tdiv (36 * x) (x + 38) = 36 * x / (x + 38) := Int.tdiv_eq_ediv_of_nonneg (by omega)
  have d0 : 0 ≤ 36 * x / (x + 38) := Int.ediv_nonneg (by omega) (by omega)
  have d1 : 36 * x / (x + 38) ≤ 36 * x := Int.ediv_le_self _ (by omega)
  exact ⟨kk + 36 * x / (x + 38), by omega, by omega, Ev.step (fun k => by rw [spec_l19Bias.l0, w64 (x := 36 * x) (by omega) (by omega), w64 (x := x + 38) (by omega) (by omega), e4, w64 (x := 36 * x / (x + 38)) (by omega) (by omega), w64 (x := kk + 36 * x / (x + 38)) (by omega) (by omega)]) (Ev.neg hx (Ev.neg (by omega) (Ev.now _)))⟩
theorem bias_l : ∀ (n : Nat) (x kk : Int), 0 ≤ x → x ≤ n → 0 ≤ kk → kk + 36 * x ≤ 500000000000 → ∃ r, 0 ≤ r ∧ r ≤ 1000000000000 ∧ Ev (fun k => spec_l19Bias.l0 k x kk) r := by
  intro n
  induction n with
  | zero => exact fun x kk h0 h1 h2 h3 => bias_small x kk h0 (by omega) h2 h3
  | succ n ih =>
    intro x kk h0 h1 h2 h3
    by_cases hx : x > 455
    · have e4 : Int.tdiv x 35 = x / 35 := Int.tdiv_eq_ediv_of_nonneg (by omega)
      obtain ⟨r, r0, r1, hr⟩ := ih (x / 35) (kk + 36) (by omega) (by omega) (by omega) (by omega)
      refine ⟨r, r0, r1, Ev.step (fun k => by rw [spec_l19Bias.l0, e4, w64 (x := x / 35) (by omega) (by omega), w64 (x := kk + 36) (by omega) (by omega)]) (Ev.pos hx hr)⟩
    · exact bias_small x kk h0 hx h2 h3
theorem bias_ev (d c : Int) (f : Bool) (d0 : 0 ≤ d) (d1 : d ≤ 2000000000) (c0 : 1 ≤ c) : ∃ r, 0 ≤ r ∧ r ≤ 1000000000000 ∧ Ev (fun k => spec_l19Bias.f k d c f) r := by
  have key : ∀ x : Int, 0 ≤ x → x ≤ 2000000000 → ∃ r, 0 ≤ r ∧ r ≤ 1000000000000 ∧ Ev (fun k => spec_l19Bias.j0 k x c) r := by
    intro x x0 x1
    have e : Int.tdiv x c = x / c := Int.tdiv_eq_ediv_of_nonneg x0
    have q0 : 0 ≤ x / c := Int.ediv_nonneg x0 (by omega)
    have q1 : x / c ≤ x := Int.ediv_le_self _ x0
    obtain ⟨r, r0, r1, hr⟩ := bias_l (x + x / c).toNat (x + x / c) 0 (by omega) (by omega) (by omega) (by omega)
    refine ⟨r, r0, r1, Ev.step (fun k => by rw [spec_l19Bias.j0, e, w64 (x := x / c) (by omega) (by omega), w64 (x := x + x / c) (by omega) (by omega)]) (Ev.neg (by omega) hr)⟩
  cases f with
  | true =>
    have e : Int.tdiv d 700 = d / 700 := Int.tdiv_eq_ediv_of_nonneg d0
    obtain ⟨r, r0, r1, hr⟩ := key (d / 700) (by omega) (by omega)
    exact ⟨r, r0, r1, Ev.congr (fun k => by unfold spec_l19Bias.f; rw [if_pos rfl, e, w64 (x := d / 700) (by omega) (by omega)]) hr⟩
  | false =>
    have e : Int.tdiv d 2 = d / 2 := Int.tdiv_eq_ediv_of_nonneg d0
    obtain ⟨r, r0, r1, hr⟩ := key (d / 2) (by omega) (by omega)
    exact ⟨r, r0, r1, Ev.congr (fun k => by unfold spec_l19Bias.f; rw [if_neg (by simp), e, w64 (x := d / 2) (by omega) (by omega)]) hr⟩
theorem encMin_fact (n : Int) : ∀ (l : List Int) (m : Int), (encMin n l m = m ∨ (encMin n l m ∈ l ∧ n ≤ encMin n l m)) ∧ encMin n l m ≤ m ∧ ∀ p ∈ l, n ≤ p → encMin n l m ≤ p
  | [], m => ⟨.inl rfl, Int.le_refl _, by simp⟩
  | p :: r, m => by
    unfold encMin
    obtain ⟨h1, h2, h3⟩ := encMin_fact n r (if n ≤ p then mn m p else m)
    by_cases hp : n ≤ p
    · rw [if_pos hp] at h1 h2 h3 ⊢
      have hm : (mn m p = m ∧ m ≤ p) ∨ (mn m p = p ∧ p < m) := by
        unfold mn
        by_cases h : p < m
        · rw [if_pos h]; exact .inr ⟨rfl, h⟩
        · rw [if_neg h]; exact .inl ⟨rfl, by omega⟩
      refine ⟨?_, by omega, fun p' hp' hn => ?_⟩
      · rcases h1 with h1 | ⟨h1, h1'⟩
        · rcases hm with ⟨e, _⟩ | ⟨e, _⟩
          · exact .inl (by omega)
          · exact .inr ⟨by rw [h1, e]; simp, by omega⟩
        · exact .inr ⟨List.mem_cons_of_mem _ h1, h1'⟩
      · rcases List.mem_cons.1 hp' with rfl | hp'
        · omega
        · exact h3 p' hp' hn
    · rw [if_neg hp] at h1 h2 h3 ⊢
      refine ⟨?_, h2, fun p' hp' hn => ?_⟩
      · rcases h1 with h1 | ⟨h1, h1'⟩
        · exact .inl h1
        · exact .inr ⟨List.mem_cons_of_mem _ h1, h1'⟩
      · rcases List.mem_cons.1 hp' with rfl | hp'
        · omega
        · exact h3 p' hp' hn
theorem encMin_eq (n : Int) (l : List Int) (h : ∃ p ∈ l, n ≤ p ∧ p ≤ 1114111) : encMin n l 1114112 = encMin n l 1114111 ∧ encMin n l 1114111 ∈ l ∧ n ≤ encMin n l 1114111 ∧ encMin n l 1114111 ≤ 1114111 := by
  obtain ⟨p, hp, h1, h2⟩ := h
  obtain ⟨a1, a2, a3⟩ := encMin_fact n l 1114112
  obtain ⟨b1, b2, b3⟩ := encMin_fact n l 1114111
  have a4 := a3 p hp h1
  have b4 := b3 p hp h1
  rcases a1 with a1 | ⟨a1, a1'⟩
  · omega
  have b5 := b3 _ a1 a1'
  have e : encMin n l 1114112 = encMin n l 1114111 := by
    rcases b1 with b1 | ⟨b1, b1'⟩
    · omega
    · have := a3 _ b1 b1'; omega
  rw [e] at a1 a1'
  exact ⟨e, a1, a1', by omega⟩
end Go.Proofs.YtgahimbccbghnaaDoor.P
namespace Go.Proofs.YtgahimbccbghnaaDoor.P
open Go.RowKit Go.Proofs.YtgahimbccbghnaaDoorW.PrintWords Go.Proofs.YtgahimbccbghnaaDoorW.PrintMore
set_option linter.unusedVariables false
theorem rdI (l : List Int) (i : Nat) (h : i < l.length) : rd l (i : Int) = l[i] := by simp [rd, h]
/-- The loop over the points within one round: both leave alike. -/
theorem in_ev (l : List Int) (basic n : Int) (hl : l.length ≤ 1000) : ∀ (m i : Nat), l.length - i = m → i ≤ l.length → ∀ (y : List Int) (d h b : Int),
    0 ≤ b → b ≤ 1000000000000 → 0 ≤ d → d + (l.length - i : Nat) ≤ 1500000000 → 0 ≤ h → h + (l.drop i).count n ≤ l.length → y.length ≤ 1001 + 2000000000 * h →
    ∃ z : List Int × Int × Int × Int, Ev (fun k => encIn k basic n (l.drop i) y d h b) z ∧
      (∀ r, Ev (fun k => spec_l19Encode.l1 k l z.1 z.2.2.1 basic (wrap64 (n + 1)) (wrap64 (z.2.1 + 1)) z.2.2.2) r → Ev (fun k => spec_l19Encode.l3 k l y h basic n d b (i : Int)) r) ∧
      0 ≤ z.2.2.2 ∧ z.2.2.2 ≤ 1000000000000 ∧ 0 ≤ z.2.1 ∧ (z.2.1 ≤ (l.length - i : Nat) ∨ ((l.drop i).count n = 0 ∧ z.2.1 ≤ d + (l.length - i : Nat))) ∧ z.2.2.1 = h + (l.drop i).count n ∧ z.1.length ≤ 1001 + 2000000000 * z.2.2.1 := by
  intro m
  induction m with
  | zero =>
    intro i hm hi y d h b hb0 hb hd0 hd hh0 hh hy
    rw [List.drop_eq_nil_of_le (by omega)]
    refine ⟨(y, d, h, b), Ev.congr (fun k => by rw [encIn]) (Ev.now _), fun r hr => ?_, hb0, hb, hd0, .inr ⟨by simp, by show d ≤ _; omega⟩, by simp, hy⟩
    exact Ev.step (fun k => by rw [spec_l19Encode.l3]) (Ev.neg (by omega) hr)
  | succ m ih =>
    intro i hm hi y d h b hb0 hb hd0 hd hh0 hh hy
    have hlt : i < l.length := by omega
    have hr := rdI l i hlt
    rw [List.drop_eq_getElem_cons hlt] at hh ⊢
    generalize l[i] = c at *
    have HS : Aside0 (wrap64 ((i : Int) + 1) = ((i + 1 : Nat) : Int)) := ⟨w_succ i (by omega)⟩
    by_cases h1 : c < n
    · have hcn : (c :: l.drop (i + 1)).count n = (l.drop (i + 1)).count n := List.count_cons_of_ne (by omega)
      rw [hcn] at hh ⊢
      have e1 : wrap64 (d + 1) = d + 1 := w64 (by omega) (by omega)
      obtain ⟨z, z1, z2, z3, z4, z5, z6, z7, z8⟩ := ih (i + 1) (by omega) (by omega) y (d + 1) h b hb0 hb (by omega) (by omega) hh0 hh hy
      refine ⟨z, Ev.congr (fun k => by rw [encIn, if_pos h1, e1]) z1, fun r hr' => ?_, z3, z4, z5, ?_, z7, z8⟩
      · refine Ev.step (fun k => by rw [spec_l19Encode.l3]) (Ev.pos (by omega) (Ev.pos (by omega) ?_))
        rw [hr]
        refine Ev.pos h1 (Ev.step (fun k => by rw [spec_l19Encode.j5, hr, HS.out, e1]) (Ev.pos (by omega) (Ev.pos (by omega) (Ev.neg (by omega) (z2 r hr')))))
      · rcases z6 with z6 | ⟨z6, z6'⟩
        · exact .inl (by omega)
        · exact .inr ⟨z6, by omega⟩
    · by_cases h2 : c = n
      · have hcn : (c :: l.drop (i + 1)).count n = (l.drop (i + 1)).count n + 1 := by rw [h2]; exact List.count_cons_self
        rw [hcn] at hh ⊢
        have e1 : wrap64 (h + 1) = h + 1 := w64 (by omega) (by omega)
        obtain ⟨ds, hds, hev⟩ := dig_ev b hb0 hb d.toNat d 36 hd0 (by omega) (by omega) (by omega)
        obtain ⟨v1, _⟩ := hev y (by omega)
        obtain ⟨_, v2⟩ := hev [] (by simp; omega)
        rw [List.nil_append] at v2
        obtain ⟨b2, b20, b21, hb2⟩ := bias_ev d (h + 1) (h == basic) hd0 (by omega) (by omega)
        obtain ⟨z, z1, z2, z3, z4, z5, z6, z7, z8⟩ := ih (i + 1) (by omega) (by omega) (y ++ ds) 0 (h + 1) b2 b20 b21 (by omega) (by omega) (by omega) (by omega) (by rw [List.length_append]; omega)
        refine ⟨z, ?_, fun r hr' => ?_, z3, z4, z5, ?_, by omega, z8⟩
        · refine Ev.congr (fun k => by rw [encIn, if_neg h1, if_pos h2, e1]) (Ev.bind v1 (Ev.bind hb2 z1))
        · refine Ev.step (fun k => by rw [spec_l19Encode.l3]) (Ev.pos (by omega) (Ev.pos (by omega) ?_))
          rw [hr]
          refine Ev.neg h1 (Ev.step (fun k => by rw [spec_l19Encode.j5, hr, HS.out, e1]) (Ev.pos (by omega) (Ev.pos (by omega) (Ev.pos h2 ?_))))
          have v3 : Ev (fun k => spec_l19Number.f k d b) ds := v2
          refine Ev.bind v3 ?_
          refine Ev.pos (by omega) ?_
          exact Ev.bind hb2 (z2 r hr')
        · rcases z6 with z6 | ⟨z6, z6'⟩
          · exact .inl (by omega)
          · exact .inl (by omega)
      · have hcn : (c :: l.drop (i + 1)).count n = (l.drop (i + 1)).count n := List.count_cons_of_ne h2
        rw [hcn] at hh ⊢
        obtain ⟨z, z1, z2, z3, z4, z5, z6, z7, z8⟩ := ih (i + 1) (by omega) (by omega) y d h b hb0 hb (by omega) (by omega) hh0 hh hy
        refine ⟨z, Ev.congr (fun k => by rw [encIn, if_neg h1, if_neg h2]) z1, fun r hr' => ?_, z3, z4, z5, ?_, z7, z8⟩
        · refine Ev.step (fun k => by rw [spec_l19Encode.l3]) (Ev.pos (by omega) (Ev.pos (by omega) ?_))
          rw [hr]
          refine Ev.neg h1 (Ev.step (fun k => by rw [spec_l19Encode.j5, hr, HS.out]) (Ev.pos (by omega) (Ev.pos (by omega) (Ev.neg h2 (z2 r hr')))))
        · rcases z6 with z6 | ⟨z6, z6'⟩
          · exact .inl (by omega)
          · exact .inr ⟨z6, by omega⟩
/-- The loop that seeks the least point not yet written. -/
theorem min_ev (l : List Int) (hl : l.length ≤ 1000) (y : List Int) (h basic n d b : Int) (r : ByteArray) : ∀ (j i : Nat), l.length - i = j → i ≤ l.length → ∀ m : Int,
    Ev (fun k => spec_l19Encode.l3 k l y h basic (encMin n (l.drop i) m) (wrap64 (d + (wrap64 ((wrap64 (encMin n (l.drop i) m - n)) * (wrap64 (h + 1)))))) b 0) r →
    Ev (fun k => spec_l19Encode.l2 k l y h basic n d b m (i : Int)) r := by
  intro j
  induction j with
  | zero =>
    intro i hj hi m hr
    rw [List.drop_eq_nil_of_le (by omega)] at hr
    unfold encMin at hr
    exact Ev.step (fun k => by rw [spec_l19Encode.l2]) (Ev.neg (by omega) hr)
  | succ j ih =>
    intro i hj hi m hr
    have hlt : i < l.length := by omega
    have hrd := rdI l i hlt
    rw [List.drop_eq_getElem_cons hlt] at hr
    have HS : Aside0 (wrap64 ((i : Int) + 1) = ((i + 1 : Nat) : Int)) := ⟨w_succ i (by omega)⟩
    refine Ev.step (fun k => by rw [spec_l19Encode.l2, hrd, HS.out]) (Ev.pos (by omega) (Ev.pos (by omega) ?_))
    unfold encMin at hr
    by_cases h1 : l[i] ≥ n
    · refine Ev.pos h1 ?_
      rw [if_pos h1] at hr
      by_cases h2 : l[i] < m
      · have e : mn m l[i] = l[i] := if_pos h2
        rw [e] at hr
        exact Ev.pos h2 (ih (i + 1) (by omega) (by omega) _ hr)
      · have e : mn m l[i] = m := if_neg h2
        rw [e] at hr
        exact Ev.neg h2 (ih (i + 1) (by omega) (by omega) _ hr)
    · rw [if_neg h1] at hr
      exact Ev.neg h1 (ih (i + 1) (by omega) (by omega) _ hr)
theorem count_lt (n M : Int) (hnM : n ≤ M) : ∀ l : List Int, (∀ p ∈ l, n ≤ p → M ≤ p) → l.countP (fun p => decide (p < M + 1)) = l.countP (fun p => decide (p < n)) + l.count M
  | [], _ => by simp
  | p :: r, h => by
    have ih := count_lt n M hnM r (fun q hq => h q (List.mem_cons_of_mem _ hq))
    have hp := h p (by simp)
    rw [List.countP_cons, List.countP_cons, List.count_cons, ih]
    by_cases h1 : p < n
    · rw [if_pos (by simp; omega), if_pos (by simp; omega), if_neg (by simp; omega)]; omega
    · by_cases h2 : p = M
      · rw [if_pos (by simp; omega), if_neg (by simp; omega), if_pos (by simp; omega)]; omega
      · rw [if_neg (by simp; omega), if_neg (by simp; omega), if_neg (by simp; omega)]; omega
theorem exists_ge (n : Int) (l : List Int) (h : l.countP (fun p => decide (p < n)) < l.length) : ∃ p ∈ l, n ≤ p := by
  apply Classical.byContradiction
  intro hn
  have : l.countP (fun p => decide (p < n)) = l.length := by
    rw [List.countP_eq_length]
    intro a ha
    apply decide_eq_true
    apply Classical.byContradiction
    intro h2
    exact hn ⟨a, ha, by omega⟩
  omega
theorem out_ev (l : List Int) (hl : l.length ≤ 1000) (hp : ∀ p ∈ l, 0 ≤ p ∧ p ≤ 1114111) (basic : Int) : ∀ (j : Nat) (y : List Int) (h n d b : Int),
    l.length - h ≤ j → h = l.countP (fun p => decide (p < n)) → 0 ≤ n → n ≤ 1114112 → 0 ≤ b → b ≤ 1000000000000 → 0 ≤ d → d ≤ 1001 → y.length ≤ 1001 + 2000000000 * h →
    ∃ yf : List Int, Ev (fun k => encOut basic l k y h n d b) yf ∧ Ev (fun k => spec_l19Encode.l1 k l y h basic n d b) (strOfNums yf) := by
  intro j
  induction j with
  | zero =>
    intro y h n d b hj hh hn0 hn hb0 hb hd0 hd hy
    exact ⟨y, Ev.step (fun k => by rw [encOut]) (Ev.neg (by omega) (Ev.now _)), Ev.step (fun k => by rw [spec_l19Encode.l1]) (Ev.neg (by omega) (Ev.now _))⟩
  | succ j ih =>
    intro y h n d b hj hh hn0 hn hb0 hb hd0 hd hy
    by_cases hlt : h < l.length
    · obtain ⟨p, hpl, hpn⟩ := exists_ge n l (by omega)
      obtain ⟨e, m1, m2, m3⟩ := encMin_eq n l ⟨p, hpl, hpn, (hp p hpl).2⟩
      have m4 := (encMin_fact n l 1114111).2.2
      have hcl : l.countP (fun p => decide (p < n)) ≤ l.length := List.countP_le_length
      have hcnt := count_lt n _ m2 l m4
      have hcl2 : l.countP (fun p => decide (p < encMin n l 1114111 + 1)) ≤ l.length := List.countP_le_length
      have hpos : 0 < l.count (encMin n l 1114111) := List.count_pos_iff.2 m1
      have hspec := min_ev l hl y h basic n d b
      generalize hM : encMin n l 1114111 = M at *
      have k1 : (M - n) * (h + 1) ≤ 1114111 * 1001 := Int.mul_le_mul (by omega) (by omega) (by omega) (by omega)
      have k0 : 0 ≤ (M - n) * (h + 1) := Int.mul_nonneg (by omega) (by omega)
      have e1 : wrap64 (M - n) = M - n := w64 (by omega) (by omega)
      have e2 : wrap64 (h + 1) = h + 1 := w64 (by omega) (by omega)
      have e3 : wrap64 ((M - n) * (h + 1)) = (M - n) * (h + 1) := w64 (by omega) (by omega)
      have e4 : wrap64 (d + (M - n) * (h + 1)) = d + (M - n) * (h + 1) := w64 (by omega) (by omega)
      have e5 : wrap64 (M + 1) = M + 1 := w64 (by omega) (by omega)
      have d0 : ((l.drop 0).count M) = l.count M := by rw [List.drop_zero]
      obtain ⟨z, z1, z2, z3, z4, z5, z6, z7, z8⟩ := in_ev l basic M hl _ 0 rfl (by omega) y (d + (M - n) * (h + 1)) h b hb0 hb (by omega) (by omega) (by omega) (by rw [d0]; omega) hy
      rw [d0] at z6 z7
      have z9 : z.2.1 ≤ 1000 := by rcases z6 with z6 | ⟨z6, _⟩ <;> omega
      have e6 : wrap64 (z.2.1 + 1) = z.2.1 + 1 := w64 (by omega) (by omega)
      obtain ⟨yf, f1, f2⟩ := ih z.1 z.2.2.1 (M + 1) (z.2.1 + 1) z.2.2.2 (by omega) (by omega) (by omega) (by omega) z3 z4 (by omega) (by omega) z8
      refine ⟨yf, ?_, ?_⟩
      · refine Ev.step (fun k => by rw [encOut, e, e1, e2, e3, e4, e5]) (Ev.pos hlt (Ev.bind (by rw [List.drop_zero] at z1; exact z1) ?_))
        rw [e6]
        exact f1
      · refine Ev.step (fun k => by rw [spec_l19Encode.l1]) (Ev.pos hlt ?_)
        refine hspec _ _ 0 rfl (by omega) 1114111 ?_
        rw [List.drop_zero, hM, e1, e2, e3, e4]
        refine z2 _ ?_
        rw [e5, e6]
        exact f2
    · exact ⟨y, Ev.step (fun k => by rw [encOut]) (Ev.neg hlt (Ev.now _)), Ev.step (fun k => by rw [spec_l19Encode.l1]) (Ev.neg hlt (Ev.now _))⟩
theorem encLow_count : ∀ (l y : List Int), (encLow l y).length = y.length + l.countP (fun p => decide (p < 128))
  | [], y => by simp [encLow]
  | p :: r, y => by
    unfold encLow
    rw [encLow_count r, List.countP_cons]
    by_cases h : p < 128
    · rw [if_pos h, if_pos (by simpa using h)]; simp; omega
    · rw [if_neg h, if_neg (by simpa using h)]; simp
theorem low_ev (l : List Int) (hl : l.length ≤ 1000) (r : ByteArray) : ∀ (j i : Nat), l.length - i = j → i ≤ l.length → ∀ y : List Int, y.length ≤ i →
    Ev (fun k => spec_l19Encode.j1 k l (if 0 < (encLow (l.drop i) y).length then encLow (l.drop i) y ++ [45] else encLow (l.drop i) y) (encLow (l.drop i) y).length (encLow (l.drop i) y).length) r →
    Ev (fun k => spec_l19Encode.l0 k l y (i : Int)) r := by
  intro j
  induction j with
  | zero =>
    intro i hj hi y hy hr
    rw [List.drop_eq_nil_of_le (by omega)] at hr
    unfold encLow at hr
    refine Ev.step (fun k => by rw [spec_l19Encode.l0]) (Ev.neg (by omega) ?_)
    by_cases h0 : 0 < y.length
    · rw [if_pos h0] at hr
      exact Ev.pos (by omega) (Ev.pos (by omega) hr)
    · rw [if_neg h0] at hr
      exact Ev.neg (by omega) hr
  | succ j ih =>
    intro i hj hi y hy hr
    have hlt : i < l.length := by omega
    have hrd := rdI l i hlt
    rw [List.drop_eq_getElem_cons hlt] at hr
    have HS : Aside0 (wrap64 ((i : Int) + 1) = ((i + 1 : Nat) : Int)) := ⟨w_succ i (by omega)⟩
    refine Ev.step (fun k => by rw [spec_l19Encode.l0, hrd, HS.out]) (Ev.pos (by omega) (Ev.pos (by omega) ?_))
    unfold encLow at hr
    by_cases h1 : l[i] < 128
    · rw [if_pos h1] at hr
      exact Ev.pos h1 (Ev.pos (by omega) (ih (i + 1) (by omega) (by omega) _ (by simp; omega) hr))
    · rw [if_neg h1] at hr
      exact Ev.neg h1 (ih (i + 1) (by omega) (by omega) _ (by omega) hr)
theorem label_ev (l : List Int) (hl : l.length ≤ 1000) (hp : ∀ p ∈ l, 0 ≤ p ∧ p ≤ 1114111) : ∃ r, Ev (fun k => impl_encodeLabel.f k l) r ∧ Ev (fun k => spec_l19Encode.f k l) r := by
  have hc := encLow_count l []
  have hcl : l.countP (fun p => decide (p < 128)) ≤ l.length := List.countP_le_length
  simp only [List.length_nil, Nat.zero_add] at hc
  have hy : (if 0 < (encLow l []).length then encLow l [] ++ [45] else encLow l []).length ≤ 1001 := by
    by_cases h : 0 < (encLow l []).length
    · rw [if_pos h]; simp; omega
    · rw [if_neg h]; omega
  obtain ⟨yf, f1, f2⟩ := out_ev l hl hp ((encLow l []).length : Int) l.length (if 0 < (encLow l []).length then encLow l [] ++ [45] else encLow l []) ((encLow l []).length : Int) 128 0 72 (by omega) (by omega) (by omega) (by omega) (by omega) (by omega) (by omega) (by omega) (by omega)
  refine ⟨strOfNums yf, ?_, ?_⟩
  · unfold impl_encodeLabel.f
    exact Ev.pos (by omega) (Ev.bind f1 (Ev.now _))
  · refine low_ev l hl _ _ 0 rfl (by omega) [] (by simp) ?_
    rw [List.drop_zero]
    exact Ev.step (fun k => by rw [spec_l19Encode.j1]) f2
/-- What both answer to a text. -/
theorem enc_both (s : ByteArray) (hs : s.size ≤ 1048576) : ∃ r, Ev (fun k => impl_EncodeLabel.f k s) r ∧ Ev (fun k => spec_EncodeLabel.f k s) r := by
  have ij (x : List Int) : Ev (fun k => impl_EncodeLabel.j0 k x true) ⟨#[]⟩ := Ev.step (fun k => by rw [impl_EncodeLabel.j0]) (Ev.pos rfl (Ev.now _))
  have sj (x : List Int) : Ev (fun k => spec_EncodeLabel.j0 k x true) ⟨#[]⟩ := Ev.step (fun k => by rw [spec_EncodeLabel.j0]) (Ev.pos rfl (Ev.now _))
  unfold impl_EncodeLabel.f spec_EncodeLabel.f spec_l09Few.f
  have hpt := points_f s (by omega)
  by_cases h1 : (s.size : Int) > 65536
  · refine ⟨⟨#[]⟩, ?_, ?_⟩
    · refine Ev.bind hpt (Ev.bind (Ev.done (show impl_long.f s = some true by unfold impl_long.f; rw [decide_eq_true h1])) (Ev.pos rfl (ij _)))
    · exact Ev.bind (a := (([] : List Int), false)) (Ev.pos h1 (Ev.now _)) (Ev.neg (by simp) (sj _))
  have il : impl_long.f s = some false := by unfold impl_long.f; rw [decide_eq_false h1]
  have hpl : (pts s).length ≤ s.size - 0 := pts_len s 0
  have few : Ev (fun k => if (s.size : Int) > 65536 then some (([] : List Int), false) else (spec_l01Points.f k s).bind fun t220 => some (t220, decide ((t220.length : Int) ≤ 1000))) (pts s, decide (((pts s).length : Int) ≤ 1000)) := Ev.neg h1 (Ev.bind (spoints_f s (by omega)) (Ev.now _))
  have iw : impl_well.f s = some (goodFrom s 0) := by
    unfold impl_well.f utf8_ValidString.f
    rw [if_pos (by omega), valid_eq]
    rfl
  by_cases h2 : (pts s).length ≤ 1000
  · have e2 : decide (((pts s).length : Int) ≤ 1000) = true := decide_eq_true (by omega)
    have e3 : decide (((pts s).length : Int) > 1000) = false := decide_eq_false (by omega)
    rw [e2] at few
    have ht : Ev (fun k => spec_l01Text.f k (pts s)) (txt (pts s)) := text_f (pts s) (by omega)
    by_cases hg : goodFrom s 0 = true
    · have hb := (txt_back s).2 hg
      obtain ⟨r, r1, r2⟩ := label_ev (pts s) h2 (fun p hp => ⟨(pts_range s 0 p hp).1, (pts_range s 0 p hp).2.1⟩)
      obtain ⟨q, q1, q2⟩ : ∃ q, impl_short.f r = some q ∧ spec_l01Small.f r = some q := by
        unfold impl_short.f spec_l01Small.f impl_long.f
        by_cases h : (r.size : Int) > 65536
        · exact ⟨⟨#[]⟩, by rw [decide_eq_true h]; rfl, if_pos h⟩
        · exact ⟨r, by rw [decide_eq_false h]; rfl, if_neg h⟩
      refine ⟨q, ?_, ?_⟩
      · refine Ev.bind hpt (Ev.bind (Ev.done il) (Ev.neg (by simp) (Ev.bind (Ev.done iw) (Ev.pos hg ?_))))
        rw [e3]
        exact Ev.step (fun k => by rw [impl_EncodeLabel.j0]) (Ev.neg (by simp) (Ev.bind r1 (Ev.bind (Ev.done q1) (Ev.now _))))
      · refine Ev.bind few (Ev.pos rfl (Ev.bind ht ?_))
        rw [hb, show (s.toList != s.toList) = false by simp]
        exact Ev.step (fun k => by rw [spec_EncodeLabel.j0]) (Ev.neg (by simp) (Ev.bind r2 (Ev.bind (Ev.done q2) (Ev.now _))))
    · have hb : (txt (pts s)).toList ≠ s.toList := by
        intro h
        apply hg
        rw [← txt_back]
        rw [Lib.toList_data, Lib.toList_data] at h
        cases h1 : txt (pts s) with
        | mk x =>
          cases h2 : s with
          | mk y =>
            rw [h1, h2] at h
            congr
            exact Array.toList_inj.1 h
      refine ⟨⟨#[]⟩, ?_, ?_⟩
      · exact Ev.bind hpt (Ev.bind (Ev.done il) (Ev.neg (by simp) (Ev.bind (Ev.done iw) (Ev.neg hg (ij _)))))
      · refine Ev.bind few (Ev.pos rfl (Ev.bind ht ?_))
        rw [show ((txt (pts s)).toList != s.toList) = true from bne_iff_ne.2 hb]
        exact sj _
  · have e2 : decide (((pts s).length : Int) ≤ 1000) = false := decide_eq_false (by omega)
    have e3 : decide (((pts s).length : Int) > 1000) = true := decide_eq_true (by omega)
    rw [e2] at few
    refine ⟨⟨#[]⟩, ?_, Ev.bind few (Ev.neg (by simp) (sj _))⟩
    refine Ev.bind hpt (Ev.bind (Ev.done il) (Ev.neg (by simp) (Ev.bind (Ev.done iw) ?_)))
    by_cases hg : goodFrom s 0 = true
    · refine Ev.pos hg ?_
      rw [e3]
      exact ij _
    · exact Ev.neg hg (ij _)
theorem law_EncodeLabel (s : ByteArray) : ∃ k, laws_FnExactEncodeLabel.f k s = some true := by
  apply Ev.rounds
  unfold laws_FnExactEncodeLabel.f
  by_cases h : (s.size : Int) > 1048576
  · exact Ev.pos h (Ev.now _)
  · obtain ⟨r, r1, r2⟩ := enc_both s (by omega)
    exact Ev.neg h (Ev.bind r2 (Ev.bind r1 (Ev.pos rfl (Ev.now _))))
end Go.Proofs.YtgahimbccbghnaaDoor.P
namespace Go.Proofs.YtgahimbccbghnaaDoor.P
open Go.RowKit Go.Proofs.YtgahimbccbghnaaDoorW.PrintWords
set_option linter.unusedVariables false
set_option linter.unusedSimpArgs false
theorem bias_small2 (M x kk : Int) (hM : M ≤ 1000000000000000000) (h0 : 0 ≤ x) (hx : ¬ x > 455) (h2 : 0 ≤ kk) (h3 : 10 * kk + x ≤ M) : ∃ r, 0 ≤ r ∧ 10 * r ≤ M + 200000 ∧ Ev (fun k => spec_l19Bias.l0 k x kk) r := by
  have e4 : Int.tdiv (36 * x) (x + 38) = 36 * x / (x + 38) := Int.tdiv_eq_ediv_of_nonneg (by omega)
  have d0 : 0 ≤ 36 * x / (x + 38) := Int.ediv_nonneg (by omega) (by omega)
  have d1 : 36 * x / (x + 38) ≤ 36 * x := Int.ediv_le_self _ (by omega)
  exact ⟨kk + 36 * x / (x + 38), by omega, by omega, Ev.step (fun k => by rw [spec_l19Bias.l0, w64 (x := 36 * x) (by omega) (by omega), w64 (x := x + 38) (by omega) (by omega), e4, w64 (x := 36 * x / (x + 38)) (by omega) (by omega), w64 (x := kk + 36 * x / (x + 38)) (by omega) (by omega)]) (Ev.neg hx (Ev.neg (by omega) (Ev.now _)))⟩
theorem bias_l2 (M : Int) (hM : M ≤ 1000000000000000000) : ∀ (n : Nat) (x kk : Int), 0 ≤ x → x ≤ n → 0 ≤ kk → 10 * kk + x ≤ M → ∃ r, 0 ≤ r ∧ 10 * r ≤ M + 200000 ∧ Ev (fun k => spec_l19Bias.l0 k x kk) r := by
  intro n
  induction n with
  | zero => exact fun x kk h0 h1 h2 h3 => bias_small2 M x kk hM h0 (by omega) h2 h3
  | succ n ih =>
    intro x kk h0 h1 h2 h3
    by_cases hx : x > 455
    · have e4 : Int.tdiv x 35 = x / 35 := Int.tdiv_eq_ediv_of_nonneg (by omega)
      obtain ⟨r, r0, r1, hr⟩ := ih (x / 35) (kk + 36) (by omega) (by omega) (by omega) (by omega)
      refine ⟨r, r0, r1, Ev.step (fun k => by rw [spec_l19Bias.l0, e4, w64 (x := x / 35) (by omega) (by omega), w64 (x := kk + 36) (by omega) (by omega)]) (Ev.pos hx hr)⟩
    · exact bias_small2 M x kk hM h0 hx h2 h3
theorem bias_ev2 (M d c : Int) (f : Bool) (hM : M ≤ 1000000000000000000) (d0 : 0 ≤ d) (d1 : 2 * d ≤ M) (c0 : 1 ≤ c) : ∃ r, 0 ≤ r ∧ 10 * r ≤ M + 200000 ∧ Ev (fun k => spec_l19Bias.f k d c f) r := by
  have key : ∀ x : Int, 0 ≤ x → 2 * x ≤ M → ∃ r, 0 ≤ r ∧ 10 * r ≤ M + 200000 ∧ Ev (fun k => spec_l19Bias.j0 k x c) r := by
    intro x x0 x1
    have e : Int.tdiv x c = x / c := Int.tdiv_eq_ediv_of_nonneg x0
    have q0 : 0 ≤ x / c := Int.ediv_nonneg x0 (by omega)
    have q1 : x / c ≤ x := Int.ediv_le_self _ x0
    obtain ⟨r, r0, r1, hr⟩ := bias_l2 M hM (x + x / c).toNat (x + x / c) 0 (by omega) (by omega) (by omega) (by omega)
    refine ⟨r, r0, r1, Ev.step (fun k => by rw [spec_l19Bias.j0, e, w64 (x := x / c) (by omega) (by omega), w64 (x := x + x / c) (by omega) (by omega)]) (Ev.neg (by omega) hr)⟩
  cases f with
  | true =>
    have e : Int.tdiv d 700 = d / 700 := Int.tdiv_eq_ediv_of_nonneg d0
    obtain ⟨r, r0, r1, hr⟩ := key (d / 700) (by omega) (by omega)
    exact ⟨r, r0, r1, Ev.congr (fun k => by unfold spec_l19Bias.f; rw [if_pos rfl, e, w64 (x := d / 700) (by omega) (by omega)]) hr⟩
  | false =>
    have e : Int.tdiv d 2 = d / 2 := Int.tdiv_eq_ediv_of_nonneg d0
    obtain ⟨r, r0, r1, hr⟩ := key (d / 2) (by omega) (by omega)
    exact ⟨r, r0, r1, Ev.congr (fun k => by unfold spec_l19Bias.f; rw [if_neg (by simp), e, w64 (x := d / 2) (by omega) (by omega)]) hr⟩
/-- What a digit tells. -/
def valD (c : Int) : Int := Lib.indexByte (⟨(97 :: 98 :: 99 :: 100 :: 101 :: 102 :: 103 :: 104 :: 105 :: 106 :: 107 :: 108 :: 109 :: 110 :: 111 :: 112 :: 113 :: 114 :: 115 :: 116 :: 117 :: 118 :: 119 :: 120 :: 121 :: 122 :: 48 :: 49 :: 50 :: 51 :: 52 :: 53 :: 54 :: 55 :: 56 :: 57 :: ([] : List UInt8)).toArray⟩ : ByteArray).data.toList c.toNat.toUInt8
theorem val_all : ∀ c : Fin 256, spec_l19Value.f 3 (c.val : Int) = some (valD (c.val : Int)) ∧ -1 ≤ valD (c.val : Int) ∧ valD (c.val : Int) ≤ 35 := by decide +kernel
theorem val_ev (c : Int) (h0 : 0 ≤ c) (h1 : c ≤ 255) : Ev (fun k => spec_l19Value.f k c) (valD c) ∧ -1 ≤ valD c ∧ valD c ≤ 35 := by
  have := val_all ⟨c.toNat, by omega⟩
  have e : ((c.toNat : Nat) : Int) = c := by omega
  simp only [e] at this
  exact ⟨Ev.of (fun k => spec_l19Value.mono c k) this.1, this.2⟩
theorem cut_size (s : ByteArray) (j : Nat) : (s.extract j s.size).size = s.size - j := by simp [ByteArray.size_extract]
theorem cut_bt (s : ByteArray) (j : Nat) (h : j < s.size) : bt (s.extract j s.size) 0 = bt s (j : Int) := by
  unfold bt
  rw [dif_pos (by rw [cut_size]; show (0 : Nat) < s.size - j; omega), dif_pos (by simpa using h)]
  simp [ByteArray.getElem_extract]
theorem cut_cut (s : ByteArray) (j : Nat) : (s.extract j s.size).extract 1 (s.extract j s.size).size = s.extract (j + 1) s.size := by
  rw [cut_size]
  cases s with
  | mk d =>
    apply ByteArray.ext
    show ((ByteArray.mk d).extract j d.size |>.extract 1 (d.size - j)).data = ((ByteArray.mk d).extract (j + 1) d.size).data
    simp only [ByteArray.data_extract, Array.extract_extract]
    congr 1
    omega
theorem d_fin (a0 : ByteArray) (l : List Int) (hl : l.length ≤ 1000) (J basic n b was : Int) (hb0 : 0 ≤ b) (hb : b ≤ 1000000000000) (hn0 : 0 ≤ n) (hn : n ≤ 1114112) (hw0 : 0 ≤ was) (p p' d w kk : Int) (he : wrap64 (p + wrap64 (d * w)) = p') (hp : was ≤ p') (hp2 : p' ≤ 100000000000000000) (hk0 : 0 ≤ kk) (hk : kk ≤ 1152921504606846976)
    (hdt : d < mn (mx (wrap64 (kk - b)) 1) 26) (R : List Int × Bool) (b' : Int) (hbi : Ev (fun k => spec_l19Bias.f k (p' - was) ((l.length : Int) + 1) ((l.length : Int) == basic)) b')
    (h1 : isPt (n + p' / ((l.length : Int) + 1)) = false → R = ([], false))
    (h2 : isPt (n + p' / ((l.length : Int) + 1)) = true → Ev (fun k => spec_l19Decode.l2 k a0 (insAt l (p' % ((l.length : Int) + 1)).toNat (n + p' / ((l.length : Int) + 1))) J basic (n + p' / ((l.length : Int) + 1)) (p' % ((l.length : Int) + 1) + 1) b') R) :
    Ev (fun k => spec_l19Decode.j5 k a0 l J basic n p b was w kk d false) R := by
  have e1 : wrap64 ((l.length : Int) + 1) = (l.length : Int) + 1 := w64 (by omega) (by omega)
  have e2 : wrap64 (p' - was) = p' - was := w64 (by omega) (by omega)
  have e3 : Int.tdiv p' ((l.length : Int) + 1) = p' / ((l.length : Int) + 1) := Int.tdiv_eq_ediv_of_nonneg (by omega)
  have e4 : Int.tmod p' ((l.length : Int) + 1) = p' % ((l.length : Int) + 1) := Int.tmod_eq_emod_of_nonneg (by omega)
  have q0 : 0 ≤ p' / ((l.length : Int) + 1) := Int.ediv_nonneg (by omega) (by omega)
  have q1 : p' / ((l.length : Int) + 1) ≤ p' := Int.ediv_le_self _ (by omega)
  have r0 : 0 ≤ p' % ((l.length : Int) + 1) := Int.emod_nonneg _ (by omega)
  have r1 : p' % ((l.length : Int) + 1) < (l.length : Int) + 1 := Int.emod_lt_of_pos _ (by omega)
  have e5 : wrap64 (p' / ((l.length : Int) + 1)) = p' / ((l.length : Int) + 1) := w64 (by omega) (by omega)
  have e6 : wrap64 (n + p' / ((l.length : Int) + 1)) = n + p' / ((l.length : Int) + 1) := w64 (by omega) (by omega)
  have e7 : wrap64 (p' % ((l.length : Int) + 1) + 1) = p' % ((l.length : Int) + 1) + 1 := w64 (by omega) (by omega)
  have hlz : ¬ ((l.length : Int) + 1 = 0) := by clear e1 e2 e5 e6 e7 he; omega
  refine Ev.step (fun k => by rw [spec_l19Decode.j5, he, e1, e2, e3, e4, e5, e6, e7]) (Ev.neg (by simp) (Ev.bind (Ev.done (least_f b kk hb0 hb hk0 hk)) (Ev.pos hdt (Ev.bind hbi (Ev.neg hlz (Ev.bind (Ev.done (isPoint_eq _)) ?_))))))
  clear e1 e2 e5 e6 e7 he
  generalize n + p' / ((l.length : Int) + 1) = N at *
  obtain ⟨i, hi⟩ : ∃ i : Nat, p' % ((l.length : Int) + 1) = (i : Int) := ⟨(p' % ((l.length : Int) + 1)).toNat, by omega⟩
  rw [hi] at h2 r1 ⊢
  cases hq : isPt N with
  | false =>
    rw [h1 hq]
    exact Ev.neg (by simp) (Ev.now _)
  | true =>
    refine Ev.pos rfl ?_
    have ht : (l.take i).length = i := by rw [List.length_take]; omega
    have h3 := h2 hq
    rw [Int.toNat_natCast] at h3
    simp only [Option.bind_some, Int.toNat_natCast, List.nil_append, List.length_append, List.length_nil, List.length_cons, List.length_drop, ht]
    refine Ev.pos (by omega) (Ev.pos (by omega) (Ev.pos (by omega) (Ev.pos (by omega) (Ev.pos (by omega) ?_))))
    have ei : l.take i ++ [N] ++ l.drop i = insAt l i N := by unfold insAt; rw [List.append_assoc, List.singleton_append]
    rw [ei]
    exact h3
/-- A cut that goes on too far is refused, later. -/
theorem d_flag (a0 : ByteArray) (l : List Int) (J basic n p b was w kk d : Int) : Ev (fun k => spec_l19Decode.j5 k a0 l J basic n p b was w kk d true) ([], false) :=
  Ev.step (fun k => by rw [spec_l19Decode.j5]) (Ev.pos rfl (Ev.now _))
theorem d_failw (a0 : ByteArray) (hN : a0.size ≤ 1000) (l : List Int) (basic n p b was w kk : Int) (hw : 1099511627776 < w) (j : Nat) : Ev (fun k => spec_l19Decode.l3 k a0 l (j : Int) basic n p b was w kk) ([], false) := by
  by_cases hj : j < a0.size
  · obtain ⟨v1, v2, v3⟩ := val_ev (bt a0 (j : Int)) (bt_range _ _).1 (bt_range _ _).2
    refine Ev.step (fun k => by rw [spec_l19Decode.l3]) (Ev.neg (by omega) (Ev.pos (by omega) (Ev.pos (by omega) (Ev.bind v1 ?_))))
    by_cases hd : valD (bt a0 (j : Int)) < 0
    · exact Ev.pos hd (d_flag ..)
    · refine Ev.neg hd ?_
      rw [decide_eq_true (show w > 1099511627776 from hw)]
      exact d_flag ..
  · exact Ev.step (fun k => by rw [spec_l19Decode.l3]) (Ev.pos (by omega) (Ev.now _))
theorem step_bd (d w p : Int) (B : Int) (d0 : 0 ≤ d) (d1 : d ≤ 35) (w1 : 1 ≤ w) (w2 : w ≤ B) : p ≤ p + d * w ∧ d * w ≤ 35 * B ∧ 0 ≤ d * w := by
  have a : 0 ≤ d * w := Int.mul_nonneg d0 (by omega)
  have b : d * w ≤ 35 * B := Int.mul_le_mul d1 w2 (by omega) (by omega)
  omega
theorem w_bd (w t B : Int) (w1 : 1 ≤ w) (w2 : w ≤ B) (t1 : 1 ≤ t) (t2 : t ≤ 26) : 1 ≤ w * (36 - t) ∧ w * (36 - t) ≤ B * 35 := by
  have a : 1 * 1 ≤ w * (36 - t) := Int.mul_le_mul w1 (by omega) (by omega) (by omega)
  have b : w * (36 - t) ≤ B * 35 := Int.mul_le_mul w2 (by omega) (by omega) (by omega)
  omega
theorem d_fail (a0 : ByteArray) (hN : a0.size ≤ 1000) (l : List Int) (hl : l.length ≤ 1000) (basic n b was : Int) (hb0 : 0 ≤ b) (hb : b ≤ 1000000000000) (hn0 : 0 ≤ n) (hn : n ≤ 1114112) (hw0 : 0 ≤ was) (hw1 : was ≤ 1001) :
    ∀ (m j : Nat), a0.size - j = m → j ≤ a0.size → ∀ (p w kk : Int), 1099511627776 < p → p + 40000000000000 * m ≤ 100000000000000000 → 1 ≤ w → 0 ≤ kk → kk + 36 * m ≤ 1000000 → Ev (fun k => spec_l19Decode.l3 k a0 l (j : Int) basic n p b was w kk) ([], false) := by
  intro m
  induction m with
  | zero =>
    intro j hj hj2 p w kk h1 h2 h3 h4 h5
    exact Ev.step (fun k => by rw [spec_l19Decode.l3]) (Ev.pos (by omega) (Ev.now _))
  | succ m ih =>
    intro j hj hj2 p w kk h1 h2 h3 h4 h5
    by_cases hw : 1099511627776 < w
    · exact d_failw a0 hN l basic n p b was w kk hw j
    obtain ⟨v1, v2, v3⟩ := val_ev (bt a0 (j : Int)) (bt_range _ _).1 (bt_range _ _).2
    generalize valD (bt a0 (j : Int)) = d at *
    refine Ev.step (fun k => by rw [spec_l19Decode.l3, w_succ j (by omega)]) (Ev.neg (by omega) (Ev.pos (by omega) (Ev.pos (by omega) (Ev.bind v1 ?_))))
    by_cases hd : d < 0
    · exact Ev.pos hd (d_flag ..)
    · refine Ev.neg hd ?_
      rw [decide_eq_false (show ¬ w > 1099511627776 from hw)]
      obtain ⟨s1, s2, s3⟩ := step_bd d w p 1099511627776 (by omega) v3 h3 (by omega)
      obtain ⟨t1, t2⟩ := clamp_bd b kk
      have he : wrap64 (p + wrap64 (d * w)) = p + d * w := by rw [w64 (x := d * w) (by omega) (by omega), w64 (by omega) (by omega)]
      by_cases hdt : d < mn (mx (wrap64 (kk - b)) 1) 26
      · obtain ⟨b', _, _, hb'⟩ := bias_ev2 300000000000000000 (p + d * w - was) ((l.length : Int) + 1) ((l.length : Int) == basic) (by omega) (by omega) (by omega) (by omega)
        have hpt : isPt (n + (p + d * w) / ((l.length : Int) + 1)) = false := by
          rw [Bool.eq_false_iff]
          intro h
          have h6 := (isPt_iff.1 h).2.1
          have h7 : (1099511627776 : Int) / 1001 ≤ (p + d * w) / ((l.length : Int) + 1) := by
            refine Int.le_ediv_of_mul_le (by omega) ?_
            have : (1099511627776 : Int) / 1001 * ((l.length : Int) + 1) ≤ (1099511627776 : Int) / 1001 * 1001 := Int.mul_le_mul_of_nonneg_left (by omega) (by decide)
            omega
          omega
        exact d_fin a0 l hl _ basic n b was hb0 hb hn0 hn hw0 p _ d w kk he (by omega) (by omega) h4 (by omega) hdt _ b' hb' (fun _ => rfl) (fun h => by rw [hpt] at h; cases h)
      · obtain ⟨u1, u2⟩ := w_bd w (mn (mx (wrap64 (kk - b)) 1) 26) 1099511627776 h3 (by omega) t1 t2
        have e2 : wrap64 (w * wrap64 (36 - mn (mx (wrap64 (kk - b)) 1) 26)) = w * (36 - mn (mx (wrap64 (kk - b)) 1) 26) := by rw [w64 (x := 36 - mn (mx (wrap64 (kk - b)) 1) 26) (by omega) (by omega), w64 (by omega) (by omega)]
        have e3 : wrap64 (kk + 36) = kk + 36 := w64 (by omega) (by omega)
        refine Ev.step (fun k => by rw [spec_l19Decode.j5, he, e3]) (Ev.neg (by simp) (Ev.bind (Ev.done (least_f b kk hb0 hb h4 (by clear he e2 e3; omega))) (Ev.neg hdt ?_)))
        rw [e2]
        clear he e2 e3
        have := ih (j + 1) (by omega) (by omega) (p + d * w) (w * (36 - mn (mx (wrap64 (kk - b)) 1) 26)) (kk + 36) (by omega) (by omega) u1 (by omega) (by omega)
        exact this
/-- The digits of one cut: refused by both, or read alike. -/
theorem d_in (a0 : ByteArray) (hN : a0.size ≤ 1000) (l : List Int) (hl : l.length ≤ 1000) (basic n b was : Int) (hb0 : 0 ≤ b) (hb : b ≤ 1000000000000) (hn0 : 0 ≤ n) (hn : n ≤ 1114112) (hw0 : 0 ≤ was) (hw1 : was ≤ 1001) :
    ∀ (m j : Nat), a0.size - j = m → j ≤ a0.size → ∀ (p w kk : Int), was ≤ p → p ≤ 1099511627776 → 1 ≤ w → w ≤ 1099511627776 → 0 ≤ kk → kk + 36 * m ≤ 1000000 →
    (Ev (fun k => decIn b k (a0.extract j a0.size) p w kk) none ∧ Ev (fun k => spec_l19Decode.l3 k a0 l (j : Int) basic n p b was w kk) ([], false)) ∨
    (∃ (j' : Nat) (p' : Int), j < j' ∧ j' ≤ a0.size ∧ was ≤ p' ∧ p' ≤ 1099511627776 ∧ Ev (fun k => decIn b k (a0.extract j a0.size) p w kk) (some (a0.extract j' a0.size, p')) ∧
      ∀ (R : List Int × Bool) (b' : Int), Ev (fun k => spec_l19Bias.f k (p' - was) ((l.length : Int) + 1) ((l.length : Int) == basic)) b' →
        (isPt (n + p' / ((l.length : Int) + 1)) = false → R = ([], false)) →
        (isPt (n + p' / ((l.length : Int) + 1)) = true → Ev (fun k => spec_l19Decode.l2 k a0 (insAt l (p' % ((l.length : Int) + 1)).toNat (n + p' / ((l.length : Int) + 1))) (j' : Int) basic (n + p' / ((l.length : Int) + 1)) (p' % ((l.length : Int) + 1) + 1) b') R) →
        Ev (fun k => spec_l19Decode.l3 k a0 l (j : Int) basic n p b was w kk) R) := by
  intro m
  induction m with
  | zero =>
    intro j hj hj2 p w kk h1 h2 h3 h3' h4 h5
    refine .inl ⟨Ev.step (fun k => by rw [decIn]) (Ev.pos (by rw [cut_size]; omega) (Ev.now _)), ?_⟩
    exact Ev.step (fun k => by rw [spec_l19Decode.l3]) (Ev.pos (by omega) (Ev.now _))
  | succ m ih =>
    intro j hj hj2 p w kk h1 h2 h3 h3' h4 h5
    obtain ⟨v1, v2, v3⟩ := val_ev (bt a0 (j : Int)) (bt_range _ _).1 (bt_range _ _).2
    have hdd : Lib.indexByte (⟨(97 :: 98 :: 99 :: 100 :: 101 :: 102 :: 103 :: 104 :: 105 :: 106 :: 107 :: 108 :: 109 :: 110 :: 111 :: 112 :: 113 :: 114 :: 115 :: 116 :: 117 :: 118 :: 119 :: 120 :: 121 :: 122 :: 48 :: 49 :: 50 :: 51 :: 52 :: 53 :: 54 :: 55 :: 56 :: 57 :: ([] : List UInt8)).toArray⟩ : ByteArray).data.toList (bt (a0.extract j a0.size) 0).toNat.toUInt8 = valD (bt a0 (j : Int)) := by rw [cut_bt a0 j (by omega)]; rfl
    generalize valD (bt a0 (j : Int)) = d at *
    have hsz : ¬ (a0.extract j a0.size).size = 0 := by rw [cut_size]; omega
    by_cases hd : d < 0
    · refine .inl ⟨Ev.step (fun k => by rw [decIn, hdd]) (Ev.neg hsz (Ev.pos hd (Ev.now _))), ?_⟩
      exact Ev.step (fun k => by rw [spec_l19Decode.l3]) (Ev.neg (by omega) (Ev.pos (by omega) (Ev.pos (by omega) (Ev.bind v1 (Ev.pos hd (d_flag ..))))))
    obtain ⟨s1, s2, s3⟩ := step_bd d w p 1099511627776 (by omega) v3 h3 (by omega)
    obtain ⟨t1, t2⟩ := clamp_bd b kk
    have he : wrap64 (p + wrap64 (d * w)) = p + d * w := by rw [w64 (x := d * w) (by omega) (by omega), w64 (by omega) (by omega)]
    have e3 : wrap64 (kk + 36) = kk + 36 := w64 (by clear he; omega) (by clear he; omega)
    obtain ⟨u1, u2⟩ := w_bd w (mn (mx (wrap64 (kk - b)) 1) 26) 1099511627776 h3 (by omega) t1 t2
    have e2 : wrap64 (w * wrap64 (36 - mn (mx (wrap64 (kk - b)) 1) 26)) = w * (36 - mn (mx (wrap64 (kk - b)) 1) 26) := by clear he e3; rw [w64 (x := 36 - mn (mx (wrap64 (kk - b)) 1) 26) (by omega) (by omega), w64 (by omega) (by omega)]
    have HE := Aside0.mk he
    have HE2 := Aside0.mk e2
    have HE3 := Aside0.mk e3
    have HDD := Aside0.mk hdd
    have hl3 : ∀ R : List Int × Bool, Ev (fun k => spec_l19Decode.j5 k a0 l ((j + 1 : Nat) : Int) basic n p b was w kk d false) R → Ev (fun k => spec_l19Decode.l3 k a0 l (j : Int) basic n p b was w kk) R := by
      intro R hR
      clear he e2 e3 hdd
      refine Ev.step (fun k => by rw [spec_l19Decode.l3, w_succ j (by omega)]) (Ev.neg (by omega) (Ev.pos (by omega) (Ev.pos (by omega) (Ev.bind v1 (Ev.neg hd ?_)))))
      rw [decide_eq_false (show ¬ w > 1099511627776 by omega)]
      exact hR
    clear he e2 e3 hdd
    by_cases hbig : p + d * w > 1099511627776
    · refine .inl ⟨Ev.step (fun k => by rw [decIn, HDD.out, HE.out]) (Ev.neg hsz (Ev.neg hd (Ev.pos hbig (Ev.now _)))), hl3 _ ?_⟩
      by_cases hdt : d < mn (mx (wrap64 (kk - b)) 1) 26
      · obtain ⟨b', _, _, hb'⟩ := bias_ev2 300000000000000000 (p + d * w - was) ((l.length : Int) + 1) ((l.length : Int) == basic) (by omega) (by omega) (by omega) (by omega)
        have hpt : isPt (n + (p + d * w) / ((l.length : Int) + 1)) = false := by
          rw [Bool.eq_false_iff]
          intro h
          have h6 := (isPt_iff.1 h).2.1
          have h7 : (1099511627776 : Int) / 1001 ≤ (p + d * w) / ((l.length : Int) + 1) := by
            refine Int.le_ediv_of_mul_le (by omega) ?_
            have : (1099511627776 : Int) / 1001 * ((l.length : Int) + 1) ≤ (1099511627776 : Int) / 1001 * 1001 := Int.mul_le_mul_of_nonneg_left (by omega) (by decide)
            omega
          omega
        exact d_fin a0 l hl _ basic n b was hb0 hb hn0 hn hw0 p _ d w kk HE.out (by omega) (by omega) h4 (by omega) hdt _ b' hb' (fun _ => rfl) (fun h => by rw [hpt] at h; cases h)
      · refine Ev.step (fun k => by rw [spec_l19Decode.j5, HE.out, HE3.out]) (Ev.neg (by simp) (Ev.bind (Ev.done (least_f b kk hb0 hb h4 (by omega))) (Ev.neg hdt ?_)))
        rw [HE2.out]
        exact d_fail a0 hN l hl basic n b was hb0 hb hn0 hn hw0 hw1 m (j + 1) (by omega) (by omega) (p + d * w) (w * (36 - mn (mx (wrap64 (kk - b)) 1) 26)) (kk + 36) (by omega) (by omega) u1 (by omega) (by omega)
    by_cases hdt : d < mn (mx (wrap64 (kk - b)) 1) 26
    · refine .inr ⟨j + 1, p + d * w, by omega, by omega, by omega, by omega, ?_, ?_⟩
      · refine Ev.step (fun k => by rw [decIn, HDD.out, HE.out, cut_cut]) (Ev.neg hsz (Ev.neg hd (Ev.neg hbig (Ev.pos hdt (Ev.now _)))))
      · intro R b' hb' g1 g2
        exact hl3 _ (d_fin a0 l hl _ basic n b was hb0 hb hn0 hn hw0 p _ d w kk HE.out (by omega) (by omega) h4 (by omega) hdt _ b' hb' g1 g2)
    · have hdin : ∀ z, Ev (fun k => decIn b k (a0.extract (j + 1) a0.size) (p + d * w) (w * (36 - mn (mx (wrap64 (kk - b)) 1) 26)) (kk + 36)) z → ¬ w * (36 - mn (mx (wrap64 (kk - b)) 1) 26) > 1099511627776 → Ev (fun k => decIn b k (a0.extract j a0.size) p w kk) z := by
        intro z hz hw'
        exact Ev.step (fun k => by rw [decIn, HDD.out, HE.out, HE2.out, HE3.out, cut_cut]) (Ev.neg hsz (Ev.neg hd (Ev.neg hbig (Ev.neg hdt (Ev.neg hw' hz)))))
      have hl4 : ∀ R : List Int × Bool, Ev (fun k => spec_l19Decode.l3 k a0 l ((j + 1 : Nat) : Int) basic n (p + d * w) b was (w * (36 - mn (mx (wrap64 (kk - b)) 1) 26)) (kk + 36)) R → Ev (fun k => spec_l19Decode.l3 k a0 l (j : Int) basic n p b was w kk) R := by
        intro R hR
        refine hl3 R (Ev.step (fun k => by rw [spec_l19Decode.j5, HE.out, HE3.out]) (Ev.neg (by simp) (Ev.bind (Ev.done (least_f b kk hb0 hb h4 (by omega))) (Ev.neg hdt ?_))))
        rw [HE2.out]
        exact hR
      by_cases hw' : w * (36 - mn (mx (wrap64 (kk - b)) 1) 26) > 1099511627776
      · refine .inl ⟨Ev.step (fun k => by rw [decIn, HDD.out, HE.out, HE2.out]) (Ev.neg hsz (Ev.neg hd (Ev.neg hbig (Ev.neg hdt (Ev.pos hw' (Ev.now _)))))), hl4 _ (d_failw a0 hN l basic n _ b was _ _ hw' (j + 1))⟩
      · rcases ih (j + 1) (by omega) (by omega) (p + d * w) (w * (36 - mn (mx (wrap64 (kk - b)) 1) 26)) (kk + 36) (by omega) (by omega) u1 (by omega) (by omega) (by omega) with ⟨g1, g2⟩ | ⟨j', p', c1, c2, c3, c4, g1, g2⟩
        · exact .inl ⟨hdin _ g1 hw', hl4 _ g2⟩
        · exact .inr ⟨j', p', by omega, c2, c3, c4, hdin _ g1 hw', fun R b' hb' x1 x2 => hl4 _ (g2 R b' hb' x1 x2)⟩
end Go.Proofs.YtgahimbccbghnaaDoor.P
namespace Go.Proofs.YtgahimbccbghnaaDoor.P
open Go.RowKit Go.Proofs.YtgahimbccbghnaaDoorW.PrintWords
set_option linter.unusedVariables false
set_option linter.unusedSimpArgs false
/-- Bytes that are no '-'. -/
def Dry (y : List Int) : Prop := ∀ x ∈ y, 0 ≤ x ∧ x ≤ 255 ∧ x ≠ 45
theorem dry_snoc {y : List Int} {x : Int} (h : Dry y) (h1 : 0 ≤ x ∧ x ≤ 255 ∧ x ≠ 45) : Dry (y ++ [x]) := by
  intro z hz
  rcases List.mem_append.1 hz with hz | hz
  · exact h z hz
  · rw [List.mem_singleton] at hz
    subst hz
    exact h1
theorem dry_dig : ∀ c : Fin 36, 0 ≤ bt (⟨#[97, 98, 99, 100, 101, 102, 103, 104, 105, 106, 107, 108, 109, 110, 111, 112, 113, 114, 115, 116, 117, 118, 119, 120, 121, 122, 48, 49, 50, 51, 52, 53, 54, 55, 56, 57]⟩ : ByteArray) (c.val : Int) ∧ bt (⟨#[97, 98, 99, 100, 101, 102, 103, 104, 105, 106, 107, 108, 109, 110, 111, 112, 113, 114, 115, 116, 117, 118, 119, 120, 121, 122, 48, 49, 50, 51, 52, 53, 54, 55, 56, 57]⟩ : ByteArray) (c.val : Int) ≤ 255 ∧ bt (⟨#[97, 98, 99, 100, 101, 102, 103, 104, 105, 106, 107, 108, 109, 110, 111, 112, 113, 114, 115, 116, 117, 118, 119, 120, 121, 122, 48, 49, 50, 51, 52, 53, 54, 55, 56, 57]⟩ : ByteArray) (c.val : Int) ≠ 45 := by decide +kernel
theorem dry_bt (x : Int) (h0 : 0 ≤ x) (h1 : x < 36) : 0 ≤ bt (⟨#[97, 98, 99, 100, 101, 102, 103, 104, 105, 106, 107, 108, 109, 110, 111, 112, 113, 114, 115, 116, 117, 118, 119, 120, 121, 122, 48, 49, 50, 51, 52, 53, 54, 55, 56, 57]⟩ : ByteArray) x ∧ bt (⟨#[97, 98, 99, 100, 101, 102, 103, 104, 105, 106, 107, 108, 109, 110, 111, 112, 113, 114, 115, 116, 117, 118, 119, 120, 121, 122, 48, 49, 50, 51, 52, 53, 54, 55, 56, 57]⟩ : ByteArray) x ≤ 255 ∧ bt (⟨#[97, 98, 99, 100, 101, 102, 103, 104, 105, 106, 107, 108, 109, 110, 111, 112, 113, 114, 115, 116, 117, 118, 119, 120, 121, 122, 48, 49, 50, 51, 52, 53, 54, 55, 56, 57]⟩ : ByteArray) x ≠ 45 := by
  have h := dry_dig ⟨x.toNat, by omega⟩
  have e : ((x.toNat : Nat) : Int) = x := by omega
  simp only [e] at h
  exact h
theorem dry_encDig (b : Int) : ∀ (f : Nat) (y : List Int) (q kk : Int) (z : List Int), encDig b f y q kk = some z → Dry y → Dry z
  | 0, _, _, _, _, h, _ => by simp [encDig] at h
  | f + 1, y, q, kk, z, h, hy => by
    unfold encDig at h
    by_cases h1 : y.length < 140737488355328
    · rw [if_pos h1] at h
      by_cases h2 : q < mn (mx (wrap64 (kk - b)) 1) 26
      · rw [if_pos h2] at h
        by_cases h3 : 0 ≤ q ∧ q < 36
        · rw [if_pos h3] at h
          obtain rfl := Option.some.inj h
          exact dry_snoc hy (dry_bt _ h3.1 h3.2)
        · rw [if_neg h3] at h; cases h
      · rw [if_neg h2] at h
        by_cases h4 : wrap64 (36 - mn (mx (wrap64 (kk - b)) 1) 26) = 0
        · rw [if_pos h4] at h; cases h
        · rw [if_neg h4] at h
          by_cases h5 : 0 ≤ wrap64 (mn (mx (wrap64 (kk - b)) 1) 26 + Int.tmod (wrap64 (q - mn (mx (wrap64 (kk - b)) 1) 26)) (wrap64 (36 - mn (mx (wrap64 (kk - b)) 1) 26))) ∧ wrap64 (mn (mx (wrap64 (kk - b)) 1) 26 + Int.tmod (wrap64 (q - mn (mx (wrap64 (kk - b)) 1) 26)) (wrap64 (36 - mn (mx (wrap64 (kk - b)) 1) 26))) < 36
          · rw [if_pos h5] at h
            exact dry_encDig b f _ _ _ z h (dry_snoc hy (dry_bt _ h5.1 h5.2))
          · rw [if_neg h5] at h; cases h
    · rw [if_neg h1] at h; cases h
theorem dry_encIn (k : Nat) (basic n : Int) : ∀ (l y : List Int) (d h b : Int) (z : List Int × Int × Int × Int), encIn k basic n l y d h b = some z → Dry y → Dry z.1
  | [], _, _, _, _, z, h, hy => by
    unfold encIn at h
    obtain rfl := Option.some.inj h
    exact hy
  | c :: r, y, d, h', b, z, h, hy => by
    unfold encIn at h
    by_cases h1 : c < n
    · rw [if_pos h1] at h
      exact dry_encIn k basic n r y _ _ _ z h hy
    · rw [if_neg h1] at h
      by_cases h2 : c = n
      · rw [if_pos h2] at h
        obtain ⟨y', e1, h3⟩ := Option.bind_eq_some_iff.mp h
        obtain ⟨b', e2, h4⟩ := Option.bind_eq_some_iff.mp h3
        exact dry_encIn k basic n r y' _ _ _ z h4 (dry_encDig b k y d 36 y' e1 hy)
      · rw [if_neg h2] at h
        exact dry_encIn k basic n r y _ _ _ z h hy
theorem dry_encOut (basic : Int) (l : List Int) : ∀ (f : Nat) (y : List Int) (h n d b : Int) (z : List Int), encOut basic l f y h n d b = some z → Dry y → Dry z
  | 0, _, _, _, _, _, _, h, _ => by simp [encOut] at h
  | f + 1, y, h', n, d, b, z, h, hy => by
    unfold encOut at h
    by_cases h1 : h' < (l.length : Int)
    · rw [if_pos h1] at h
      obtain ⟨q, e1, h2⟩ := Option.bind_eq_some_iff.mp h
      exact dry_encOut basic l f _ _ _ _ _ z h2 (dry_encIn f _ _ l y _ _ _ q e1 hy)
    · rw [if_neg h1] at h
      obtain rfl := Option.some.inj h
      exact hy
theorem encLow_none : ∀ (l y : List Int), (∀ p ∈ l, 128 ≤ p) → encLow l y = y
  | [], _, _ => rfl
  | p :: r, y, h => by
    unfold encLow
    rw [if_neg (by have := h p (List.mem_cons_self ..); omega)]
    exact encLow_none r y fun q hq => h q (List.mem_cons_of_mem _ hq)
/-- A label of points beyond ASCII alone holds no '-'. -/
theorem dry_label (k : Nat) (l : List Int) (r : ByteArray) (h : impl_encodeLabel.f k l = some r) (hl : ∀ p ∈ l, 128 ≤ p) : ∃ y, Dry y ∧ r = strOfNums y := by
  unfold impl_encodeLabel.f at h
  by_cases h1 : l.length < 140737488355328 - 1
  · rw [if_pos h1, encLow_none l [] hl] at h
    obtain ⟨y, e1, h2⟩ := Option.bind_eq_some_iff.mp h
    obtain rfl := Option.some.inj h2
    refine ⟨y, dry_encOut _ l k _ _ _ _ _ y e1 ?_, rfl⟩
    simp [Dry]
  · rw [if_neg h1] at h; cases h
theorem toList_size (s : ByteArray) : s.toList.length = s.size := by rw [Lib.toList_data]; simp
/-- What the program and the reference compare with the data is alike. -/
theorem enc_cmp (a0 : ByteArray) (hN : a0.size ≤ 1000) (l : List Int) (hl : l.length ≤ 1000) (hp : ∀ p ∈ l, isPt p = true) (h0 : a0.size = 0 → l = []) :
    ∃ (e e' : ByteArray), Ev (fun k => impl_EncodeLabel.f k (txt l)) e ∧ Ev (fun k => spec_l19Encode.f k l) e' ∧ (e.toList == a0.toList) = (e'.toList == a0.toList) ∧ ((e.toList == a0.toList) = true → Ev (fun k => impl_encodeLabel.f k l) e) := by
  obtain ⟨p1, p2⟩ := pts_txt l hp
  obtain ⟨r, r1, r2⟩ := label_ev l hl (fun p h => by have := isPt_iff.1 (hp p h); omega)
  have hsz : (txt l).size ≤ 4000 := by
    have h1 := txtB_len l
    have h2 : (txt l).size = (txtB l).length := size_strOfNums _
    omega
  have hpt := points_f (txt l) (by omega)
  rw [p1] at hpt
  have il : impl_long.f (txt l) = some false := by unfold impl_long.f; rw [decide_eq_false (by omega)]
  have iw : impl_well.f (txt l) = some true := by
    unfold impl_well.f utf8_ValidString.f
    rw [if_pos (by omega), valid_eq, p2]
    rfl
  have e3 : decide ((l.length : Int) > 1000) = false := decide_eq_false (by omega)
  have hE : ∀ q, impl_short.f r = some q → Ev (fun k => impl_EncodeLabel.f k (txt l)) q := by
    intro q hq
    unfold impl_EncodeLabel.f
    refine Ev.bind hpt (Ev.bind (Ev.done il) (Ev.neg (by simp) (Ev.bind (Ev.done iw) (Ev.pos rfl ?_))))
    rw [e3]
    exact Ev.step (fun k => by rw [impl_EncodeLabel.j0]) (Ev.neg (by simp) (Ev.bind r1 (Ev.bind (Ev.done hq) (Ev.now _))))
  by_cases hb : (r.size : Int) > 65536
  · have hq : impl_short.f r = some ⟨#[]⟩ := by unfold impl_short.f impl_long.f; rw [decide_eq_true hb]; rfl
    have ha : a0.size ≠ 0 := by
      intro hz
      have hl0 := h0 hz
      subst hl0
      have h1 : Ev (fun k => impl_encodeLabel.f k []) (strOfNums []) := by
        unfold impl_encodeLabel.f
        refine Ev.pos (by simp) (Ev.bind (a := []) (Ev.step (fun k => by rw [encOut]) (Ev.neg (by simp [encLow]) (Ev.to (Ev.now _) ?_))) (Ev.now _))
        simp [encLow]
      have h2 := Ev.inj r1 h1
      rw [h2] at hb
      have : (strOfNums []).size = 0 := rfl
      omega
    have f1 : ((⟨#[]⟩ : ByteArray).toList == a0.toList) = false := by
      rw [beq_eq_false_iff_ne]
      intro h
      have := congrArg List.length h
      rw [toList_size, toList_size] at this
      exact ha this.symm
    have f2 : (r.toList == a0.toList) = false := by
      rw [beq_eq_false_iff_ne]
      intro h
      have := congrArg List.length h
      rw [toList_size, toList_size] at this
      omega
    exact ⟨⟨#[]⟩, r, hE _ hq, r2, by rw [f1, f2], fun h => by rw [f1] at h; cases h⟩
  · have hq : impl_short.f r = some r := by unfold impl_short.f impl_long.f; rw [decide_eq_false hb]; rfl
    exact ⟨r, r, hE _ hq, r2, rfl, fun _ => r1⟩
theorem ins_mem (l : List Int) (i : Nat) (N : Int) (p : Int) (h : p ∈ insAt l i N) : p = N ∨ p ∈ l := by
  unfold insAt at h
  rcases List.mem_append.1 h with h | h
  · exact .inr (List.mem_of_mem_take h)
  · rcases List.mem_cons.1 h with h | h
    · exact .inl h
    · exact .inr (List.mem_of_mem_drop h)
/-- Where the data end, both answer alike. -/
theorem dec_end (a0 : ByteArray) (hN : a0.size ≤ 1000) (basic : Int) (j : Nat) (hj : j = a0.size) (l : List Int) (n place b : Int) (first : Bool) (hl : l.length ≤ j) (hp : ∀ p ∈ l, isPt p = true) :
    ∃ (s : ByteArray) (f : Bool) (l' : List Int), Ev (fun k => decOut a0 k (a0.extract j a0.size) l n place b first) (s, f) ∧ Ev (fun k => spec_l19Decode.l2 k a0 l (j : Int) basic n place b) (l', f) ∧
      (f = true → txt l' = s ∧ l'.length ≤ 1000 ∧ (∀ p ∈ l', p ∈ l ∨ 128 ≤ p) ∧ ∃ e, Ev (fun k => impl_encodeLabel.f k l') e ∧ e.toList = a0.toList) := by
  obtain ⟨e, e', c1, c2, c3, c4⟩ := enc_cmp a0 hN l (by omega) hp (fun h => List.eq_nil_of_length_eq_zero (by omega))
  refine ⟨txt l, e.toList == a0.toList, l, ?_, ?_, fun h => ⟨rfl, by omega, fun p hp => .inl hp, e, c4 h, by simpa using h⟩⟩
  · have hw : Ev (fun k => impl_write.f k l) (txt l) := by
      unfold impl_write.f
      exact Ev.pos (by omega) (Ev.now _)
    exact Ev.step (fun k => by rw [decOut]) (Ev.pos (by omega) (Ev.pos (by rw [cut_size]; omega) (Ev.bind hw (Ev.bind c1 (Ev.now (txt l, e.toList == a0.toList))))))
  · exact Ev.step (fun k => by rw [spec_l19Decode.l2]) (Ev.neg (by omega) (Ev.bind c2 (Ev.to (Ev.now _) (by rw [c3]))))
/-- From a place on, both decode alike. -/
theorem dec_out (a0 : ByteArray) (hN : a0.size ≤ 1000) (basic : Int) : ∀ (M j : Nat), a0.size - j ≤ M → j ≤ a0.size → ∀ (l : List Int) (n place b : Int) (first : Bool), l.length ≤ j → (∀ p ∈ l, isPt p = true) → 128 ≤ n → n ≤ 1114112 → 0 ≤ place → place ≤ l.length → 0 ≤ b → b ≤ 1000000000000 → first = ((l.length : Int) == basic) → basic ≤ l.length →
    ∃ (s : ByteArray) (f : Bool) (l' : List Int), Ev (fun k => decOut a0 k (a0.extract j a0.size) l n place b first) (s, f) ∧ Ev (fun k => spec_l19Decode.l2 k a0 l (j : Int) basic n place b) (l', f) ∧
      (f = true → txt l' = s ∧ l'.length ≤ 1000 ∧ (∀ p ∈ l', p ∈ l ∨ 128 ≤ p) ∧ ∃ e, Ev (fun k => impl_encodeLabel.f k l') e ∧ e.toList = a0.toList) := by
  intro M
  induction M with
  | zero =>
    intro j hM hj l n place b first hl hp hn hn2 hpl hpl2 hb0 hb hf hbl
    exact dec_end a0 hN basic j (by omega) l n place b first hl hp
  | succ M ih =>
    intro j hM hj l n place b first hl hp hn hn2 hpl hpl2 hb0 hb hf hbl
    by_cases hje : j = a0.size
    · exact dec_end a0 hN basic j hje l n place b first hl hp
    have hsz : ¬ (a0.extract j a0.size).size = 0 := by rw [cut_size]; omega
    have hl2 : ∀ R, Ev (fun k => spec_l19Decode.l3 k a0 l (j : Int) basic n place b place 1 36) R → Ev (fun k => spec_l19Decode.l2 k a0 l (j : Int) basic n place b) R := fun R hR => Ev.step (fun k => by rw [spec_l19Decode.l2]) (Ev.pos (by omega) hR)
    rcases d_in a0 hN l (by omega) basic n b place hb0 hb (by omega) hn2 hpl (by omega) (a0.size - j) j rfl hj place 1 36 (by omega) (by omega) (by omega) (by omega) (by omega) (by omega) with ⟨g1, g2⟩ | ⟨j', p', c1, c2, c3, c4, g1, g2⟩
    · refine ⟨⟨#[]⟩, false, [], ?_, hl2 _ g2, fun h => by cases h⟩
      exact Ev.step (fun k => by rw [decOut]) (Ev.pos (by omega) (Ev.neg hsz (Ev.bind g1 (Ev.now _))))
    · obtain ⟨b', b0, b1, hb'⟩ := bias_ev2 2300000000000 (p' - place) ((l.length : Int) + 1) ((l.length : Int) == basic) (by omega) (by omega) (by omega) (by omega)
      have q0 : 0 ≤ p' / ((l.length : Int) + 1) := Int.ediv_nonneg (by omega) (by omega)
      have q1 : p' / ((l.length : Int) + 1) ≤ p' := Int.ediv_le_self _ (by omega)
      have r0 : 0 ≤ p' % ((l.length : Int) + 1) := Int.emod_nonneg _ (by omega)
      have r1 : p' % ((l.length : Int) + 1) < (l.length : Int) + 1 := Int.emod_lt_of_pos _ (by omega)
      have E2 := Aside0.mk (show wrap64 (p' - place) = p' - place from w64 (by omega) (by omega))
      have E3 := Aside0.mk (show Int.tdiv p' ((l.length : Int) + 1) = p' / ((l.length : Int) + 1) from Int.tdiv_eq_ediv_of_nonneg (by omega))
      have E4 := Aside0.mk (show Int.tmod p' ((l.length : Int) + 1) = p' % ((l.length : Int) + 1) from Int.tmod_eq_emod_of_nonneg (by omega))
      have E5 := Aside0.mk (show wrap64 (p' / ((l.length : Int) + 1)) = p' / ((l.length : Int) + 1) from w64 (by omega) (by omega))
      have E6 := Aside0.mk (show wrap64 (n + p' / ((l.length : Int) + 1)) = n + p' / ((l.length : Int) + 1) from w64 (by omega) (by omega))
      obtain ⟨N, hNN⟩ : ∃ N, n + p' / ((l.length : Int) + 1) = N := ⟨_, rfl⟩
      have hN1 : n ≤ N := by omega
      have E7 := Aside0.mk hNN
      rw [hNN] at g2
      clear hNN q0 q1
      have hdo : ∀ R, Ev (fun k => if isPt N = false then some ((⟨#[]⟩ : ByteArray), false) else if (l.length : Int) ≥ 1000 then some ((⟨#[]⟩ : ByteArray), false) else if 0 ≤ p' % ((l.length : Int) + 1) then decOut a0 k (a0.extract j' a0.size) (insAt l (p' % ((l.length : Int) + 1)).toNat N) N (p' % ((l.length : Int) + 1) + 1) b' false else none) R → Ev (fun k => decOut a0 k (a0.extract j a0.size) l n place b first) R := by
        intro R hR
        refine Ev.step (fun k => by rw [decOut]) (Ev.pos (by omega) (Ev.neg hsz (Ev.bind g1 ?_)))
        have hA : Ev (fun k => impl_bias_adapt.f k b (wrap64 (p' - place)) ((l.length : Int) + 1) first) b' := by
          unfold impl_bias_adapt.f
          rw [E2.out, hf]
          exact hb'
        refine Ev.bind hA ?_
        rw [E3.out, E4.out, E5.out, E6.out, E7.out]
        exact Ev.bind (Ev.done (iPoint_eq N)) hR
      cases hq : isPt N with
      | false =>
        refine ⟨⟨#[]⟩, false, [], hdo _ (Ev.pos hq (Ev.now _)), hl2 _ (g2 ([], false) b' hb' (fun _ => rfl) (fun h => by rw [hq] at h; cases h)), fun h => by cases h⟩
      | true =>
        obtain ⟨i, hi⟩ : ∃ i : Nat, p' % ((l.length : Int) + 1) = (i : Int) := ⟨(p' % ((l.length : Int) + 1)).toNat, by omega⟩
        have hil : i ≤ l.length := by omega
        have hlen := insAt_len l i N hil
        obtain ⟨s, f, l', x1, x2, x3⟩ := ih j' (by omega) c2 (insAt l i N) N ((i : Int) + 1) b' false (by omega) (fun p h => (ins_mem l i N p h).elim (fun e => e ▸ hq) (fun h => hp p h)) (by omega) (by have := (isPt_iff.1 hq).2.1; omega) (by omega) (by omega) b0 (by omega) (by symm; rw [beq_eq_false_iff_ne]; omega) (by omega)
        refine ⟨s, f, l', hdo _ ?_, hl2 _ (g2 (l', f) b' hb' (fun h => by rw [hq] at h; cases h) (fun _ => ?_)), fun h => ?_⟩
        · rw [hi, Int.toNat_natCast]
          exact Ev.neg (by rw [hq]; simp) (Ev.neg (by omega) (Ev.pos (by omega) x1))
        · rw [hi, Int.toNat_natCast]
          exact x2
        · obtain ⟨y1, y2, y3, y4⟩ := x3 h
          refine ⟨y1, y2, fun p hp' => ?_, y4⟩
          rcases y3 p hp' with h | h
          · rcases ins_mem l i N p h with rfl | h
            · exact .inr (by omega)
            · exact .inl h
          · exact .inr h
theorem cut_all (s : ByteArray) : s.extract 0 s.size = s := by
  apply ByteArray.ext
  simp [ByteArray.data_extract]
theorem scan_down (a0 : ByteArray) (hN : a0.size ≤ 1000) (R : List Int × Bool) (t : Nat) : ∀ (d i : Nat), i - t = d → t ≤ i → i < a0.size → (∀ j : Nat, t < j → j ≤ i → bt a0 (j : Int) ≠ 45) → Ev (fun k => spec_l19Decode.l0 k a0 [] 0 (t : Int)) R → Ev (fun k => spec_l19Decode.l0 k a0 [] 0 (i : Int)) R := by
  intro d
  induction d with
  | zero =>
    intro i h1 h2 h3 h4 h5
    obtain rfl : i = t := by omega
    exact h5
  | succ d ih =>
    intro i h1 h2 h3 h4 h5
    have e : wrap64 ((i : Int) - 1) = ((i - 1 : Nat) : Int) := by rw [w64 (by omega) (by omega)]; omega
    have E := Aside0.mk e
    clear e
    refine Ev.step (fun k => by rw [spec_l19Decode.l0, E.out]) (Ev.pos (by omega) (Ev.pos (by omega) (Ev.pos (by omega) (Ev.neg (h4 i (by omega) (by omega)) ?_))))
    exact ih (i - 1) (by omega) (by omega) (by omega) (fun j a b => h4 j a (by omega)) h5
theorem copy_up (a0 : ByteArray) (hN : a0.size ≤ 1000) (R : List Int × Bool) (ni : Nat) (hni : ni < a0.size) (hR : Ev (fun k => spec_l19Decode.j2 k a0 (numsOf (a0.extract 0 ni)) ((ni + 1 : Nat) : Int)) R) :
    ∀ (d i : Nat), ni - i = d → i ≤ ni → Ev (fun k => spec_l19Decode.l1 k a0 ((numsOf (a0.extract 0 ni)).take i) (ni : Int) (i : Int)) R := by
  have hsz : (a0.extract 0 ni).size = ni := by simp [ByteArray.size_extract]; omega
  have hnl : (numsOf (a0.extract 0 ni)).length = ni := by rw [numsOf_len, hsz]
  intro d
  induction d with
  | zero =>
    intro i h1 h2
    obtain rfl : i = ni := by omega
    rw [List.take_of_length_le (by omega)]
    exact Ev.step (fun k => by rw [spec_l19Decode.l1, w_succ i (by omega)]) (Ev.neg (by omega) hR)
  | succ d ih =>
    intro i h1 h2
    have hlt : i < (numsOf (a0.extract 0 ni)).length := by omega
    have eb : (numsOf (a0.extract 0 ni))[i] = bt a0 (i : Int) := by
      unfold numsOf bt
      rw [dif_pos (by simp only [Int.toNat_natCast]; omega)]
      simp [ByteArray.data_extract]
      rfl
    have hr := bt_range a0 (i : Int)
    have hw : wrap64 (bt a0 (i : Int)) = bt a0 (i : Int) := w64 (by omega) (by omega)
    have HW := Aside0.mk hw
    clear hw
    refine Ev.step (fun k => by rw [spec_l19Decode.l1, w_succ i (by omega), HW.out]) (Ev.pos (by omega) (Ev.pos (by omega) (Ev.pos (by omega) (Ev.pos (by rw [List.length_take]; omega) ?_))))
    have := ih (i + 1) (by omega) (by omega)
    rw [List.take_succ_eq_append_getElem hlt, eb] at this
    exact this
theorem dec_both (a0 : ByteArray) (hN : a0.size ≤ 1000) : ∃ (s : ByteArray) (f : Bool) (l' : List Int), Ev (fun k => impl_decodeLabel.f k a0) (s, f) ∧ Ev (fun k => spec_l19Decode.f k a0) (l', f) ∧ (f = true → txt l' = s ∧ l'.length ≤ 1000) := by
  have hsp := Lib.lastIndexByte_spec a0 45
  have eb : ∀ j : Nat, bt a0 (j : Int) = ((a0.data[j]!).toNat : Int) := fun j => bt_get a0 j
  have himpl : ∀ (r : ByteArray) (l : List Int) (R : ByteArray × Bool), decHead a0 = (l, r) → Ev (fun k => decOut a0 k r l 128 0 72 true) R → Ev (fun k => impl_decodeLabel.f k a0) R := by
    intro r l R hd hR
    unfold impl_decodeLabel.f
    rw [hd]
    exact Ev.pos (by omega) hR
  have hj2 : ∀ (l : List Int) (j : Nat) (R : List Int × Bool), Ev (fun k => spec_l19Decode.l2 k a0 l (j : Int) (l.length : Int) 128 0 72) R → Ev (fun k => spec_l19Decode.j2 k a0 l (j : Int)) R := fun l j R h => Ev.step (fun k => by rw [spec_l19Decode.j2]) h
  have h00 : ∀ R : List Int × Bool, Ev (fun k => spec_l19Decode.j2 k a0 [] 0) R → Ev (fun k => spec_l19Decode.l0 k a0 [] 0 ((0 : Nat) : Int)) R := fun R h => Ev.step (fun k => by rw [spec_l19Decode.l0]) (Ev.neg (by omega) h)
  have hff : ∀ (t : Nat) (R : List Int × Bool), (t < a0.size ∨ t = 0 ∧ a0.size = 0) → (∀ j : Nat, t < j → j < a0.size → bt a0 (j : Int) ≠ 45) → Ev (fun k => spec_l19Decode.l0 k a0 [] 0 (t : Int)) R → (a0.size = 0 → Ev (fun k => spec_l19Decode.j2 k a0 [] 0) R) → Ev (fun k => spec_l19Decode.f k a0) R := by
    intro t R ht hb h hz
    unfold spec_l19Decode.f
    by_cases h0 : a0.size = 0
    · have e : wrap64 ((a0.size : Int) - 1) = -1 := by rw [w64 (by omega) (by omega)]; omega
      rw [e]
      exact Ev.step (fun k => by rw [spec_l19Decode.l0]) (Ev.neg (by omega) (hz h0))
    · have e : wrap64 ((a0.size : Int) - 1) = ((a0.size - 1 : Nat) : Int) := by rw [w64 (by omega) (by omega)]; omega
      rw [e]
      exact scan_down a0 hN R t _ (a0.size - 1) rfl (by omega) (by omega) (fun j a b => hb j a (by omega)) h
  rcases hsp with ⟨hl, hb⟩ | ⟨ni, hni, hl, hb1, hb2⟩
  · have hd : decHead a0 = ([], a0) := by unfold decHead; rw [hl, if_pos (by omega)]
    obtain ⟨s, f, l', x1, x2, x3⟩ := dec_out a0 hN 0 a0.size 0 (by omega) (by omega) [] 128 0 72 true (by simp) (by simp) (by omega) (by omega) (by omega) (by simp) (by omega) (by omega) rfl (by simp)
    rw [cut_all] at x1
    have hj := hj2 [] 0 (l', f) x2
    exact ⟨s, f, l', himpl _ _ _ hd x1, hff 0 _ (by omega) (fun j _ hj2 => by rw [eb]; exact hb j hj2) (h00 _ hj) (fun _ => hj), fun h => ⟨(x3 h).1, (x3 h).2.1⟩⟩
  · have hd : decHead a0 = (numsOf (a0.extract 0 ni), a0.extract (ni + 1) a0.size) := by
      unfold decHead
      rw [hl, if_neg (by omega)]
      rfl
    have hsz : (a0.extract 0 ni).size = ni := by simp [ByteArray.size_extract]; omega
    have hnl : (numsOf (a0.extract 0 ni)).length = ni := by rw [numsOf_len, hsz]
    have hpt : ∀ p ∈ numsOf (a0.extract 0 ni), isPt p = true := by
      intro p hp
      obtain ⟨c, _, rfl⟩ := List.mem_map.1 hp
      have := c.toNat_lt
      exact isPt_iff.2 (by omega)
    obtain ⟨s, f, l', x1, x2, x3⟩ := dec_out a0 hN (ni : Int) a0.size (ni + 1) (by omega) (by omega) (numsOf (a0.extract 0 ni)) 128 0 72 true (by omega) hpt (by omega) (by omega) (by omega) (by omega) (by omega) (by omega) (by rw [hnl]; simp) (by omega)
    have hi := himpl _ _ _ hd x1
    by_cases h0 : ni = 0
    · have hff0 : f = false := by
        cases hf : f with
        | false => rfl
        | true =>
          obtain ⟨y1, y2, y3, e, y4, y5⟩ := x3 hf
          obtain ⟨k, hk⟩ := y4.rounds
          have hn0 : numsOf (a0.extract 0 ni) = [] := List.eq_nil_of_length_eq_zero (by omega)
          rw [hn0] at y3
          obtain ⟨y, hy, rfl⟩ := dry_label k l' e hk (fun p hp => (y3 p hp).elim (fun h => absurd h (by simp)) id)
          exfalso
          have hz : (0 : Nat) < a0.size := by omega
          have e1 : bytesOf (strOfNums y) = y := bytesOf_strOfNums y (fun b hb => ⟨(hy b hb).1, (hy b hb).2.1⟩)
          have e2 : bytesOf (strOfNums y) = bytesOf a0 := by
            unfold bytesOf
            rw [Lib.toList_data, Lib.toList_data] at y5
            rw [y5]
          have e3 : (bytesOf a0).drop 0 = ((a0.get! 0).toNat : Int) :: (bytesOf a0).drop 1 := bytesOf_drop a0 0 hz
          rw [List.drop_zero, ← e2, e1] at e3
          have h45 : ((a0.get! 0).toNat : Int) = 45 := by rw [h0] at hb1; exact hb1
          have hm : (45 : Int) ∈ y := by rw [e3, h45]; exact List.mem_cons_self ..
          exact (hy 45 hm).2.2 rfl
      subst hff0
      have h45 : bt a0 ((0 : Nat) : Int) = 45 := by rw [eb, h0.symm]; exact hb1
      have v45 : valD 45 = -1 := by decide +kernel
      obtain ⟨v1, _, _⟩ := val_ev (bt a0 ((0 : Nat) : Int)) (bt_range _ _).1 (bt_range _ _).2
      rw [h45, v45] at v1
      have hj : Ev (fun k => spec_l19Decode.j2 k a0 [] 0) ([], false) := by
        refine hj2 [] 0 _ (Ev.step (fun k => by rw [spec_l19Decode.l2]) (Ev.pos (by omega) (Ev.step (fun k => by rw [spec_l19Decode.l3]) (Ev.neg (by omega) (Ev.pos (by omega) (Ev.pos (by omega) ?_))))))
        rw [h45]
        exact Ev.bind v1 (Ev.pos (by omega) (d_flag ..))
      exact ⟨s, false, [], hi, hff 0 _ (by omega) (fun j a b => by rw [eb]; exact hb2 j (by omega) b) (h00 _ hj) (fun _ => hj), fun h => by cases h⟩
    · have hj := hj2 (numsOf (a0.extract 0 ni)) (ni + 1) (l', f) (by rw [hnl]; exact x2)
      have hcp0 := copy_up a0 hN _ ni hni hj ni 0 rfl (by omega)
      rw [List.take_zero] at hcp0
      have hcp : Ev (fun k => spec_l19Decode.l1 k a0 [] (ni : Int) 0) (l', f) := hcp0
      have h1 : Ev (fun k => spec_l19Decode.l0 k a0 [] 0 (ni : Int)) (l', f) := Ev.step (fun k => by rw [spec_l19Decode.l0]) (Ev.pos (by omega) (Ev.pos (by omega) (Ev.pos (by omega) (Ev.pos (by rw [eb]; exact hb1) hcp))))
      exact ⟨s, f, l', hi, hff ni _ (by omega) (fun j a b => by rw [eb]; exact hb2 j a b) h1 (fun h => by omega), fun h => ⟨(x3 h).1, (x3 h).2.1⟩⟩
theorem law_DecodeLabel (s : ByteArray) : ∃ k, laws_FnExactDecodeLabel.f k s = some true := by
  apply Ev.rounds
  unfold laws_FnExactDecodeLabel.f
  by_cases h : (s.size : Int) > 1048576
  · exact Ev.pos h (Ev.now _)
  refine Ev.neg h ?_
  have hij : Ev (fun k => impl_DecodeLabel.j0 k s true) (2, 0, (⟨#[]⟩ : ByteArray)) := Ev.step (fun k => by rw [impl_DecodeLabel.j0]) (Ev.pos rfl (Ev.now _))
  have heq : ∀ (c a : Int) (t : ByteArray), laws_eqHostOut.f c a t c a t = some true := fun c a t => by unfold laws_eqHostOut.f; rw [if_pos rfl, if_pos rfl, if_pos rfl]
  have hfin : ∀ (x : Int × Int × ByteArray), Ev (fun k => spec_DecodeLabel.f k s) x → Ev (fun k => impl_DecodeLabel.f k s) x → Ev (fun k => (spec_DecodeLabel.f k s).bind fun bt269 => ((impl_DecodeLabel.f k s).bind fun bt273 => ((laws_eqHostOut.f bt273.1 bt273.2.1 bt273.2.2 bt269.1 bt269.2.1 bt269.2.2).bind fun t277 => (if t277 = true then (some true) else (some false))))) true := fun x h1 h2 => Ev.bind h1 (Ev.bind h2 (Ev.bind (Ev.done (heq ..)) (Ev.pos rfl (Ev.now _))))
  by_cases h1 : (s.size : Int) > 1000
  · refine hfin (2, 0, ⟨#[]⟩) ?_ ?_
    · unfold spec_DecodeLabel.f
      exact Ev.pos h1 (Ev.now _)
    · unfold impl_DecodeLabel.f
      by_cases h2 : (s.size : Int) > 65536
      · exact Ev.bind (Ev.done (show impl_long.f s = some true by unfold impl_long.f; rw [decide_eq_true h2])) (Ev.pos rfl hij)
      · refine Ev.bind (Ev.done (show impl_long.f s = some false by unfold impl_long.f; rw [decide_eq_false h2])) (Ev.neg (by simp) ?_)
        rw [decide_eq_true h1]
        exact hij
  · obtain ⟨t, f, l', x1, x2, x3⟩ := dec_both s (by omega)
    have hi : ∀ x, Ev (fun k => (impl_decodeLabel.f k s).bind fun bt265 => (if bt265.2 = true then (some (0, 0, bt265.1)) else (some (3, 0, (⟨#[]⟩ : ByteArray))))) x → Ev (fun k => impl_DecodeLabel.f k s) x := by
      intro x hx
      unfold impl_DecodeLabel.f
      refine Ev.bind (Ev.done (show impl_long.f s = some false by unfold impl_long.f; rw [decide_eq_false (by omega)])) (Ev.neg (by simp) ?_)
      rw [decide_eq_false h1]
      exact Ev.step (fun k => by rw [impl_DecodeLabel.j0]) (Ev.neg (by simp) hx)
    cases f with
    | false =>
      refine hfin (3, 0, ⟨#[]⟩) ?_ (hi _ (Ev.bind x1 (Ev.neg (by simp) (Ev.now _))))
      unfold spec_DecodeLabel.f
      exact Ev.neg h1 (Ev.bind x2 (Ev.neg (by simp) (Ev.now _)))
    | true =>
      obtain ⟨e1, e2⟩ := x3 rfl
      refine hfin (0, 0, t) ?_ (hi _ (Ev.bind x1 (Ev.pos rfl (Ev.now _))))
      unfold spec_DecodeLabel.f
      have ht := text_f l' (by omega)
      rw [e1] at ht
      exact Ev.neg h1 (Ev.bind x2 (Ev.pos rfl (Ev.bind ht (Ev.now _))))
end Go.Proofs.YtgahimbccbghnaaDoor.P
namespace Go.Proofs.YtgahimbccbghnaaDoor.P
open Go.ChangeShapes Go.WideShapes Go.ChangeAt Go.RowKit Go.Deep Go.Proofs.YtgahimbccbghnaaDoorW.PrintWords
set_option linter.unusedVariables false
theorem own : ownKnob Tryd.prog.godebug = none := by kernel_rfl
theorem laidOut : laidOutB Tryd.prog = true := by kernel_rfl
theorem xU8 : U8Extra Tryd.prog Tryd.lays196_ren := ⟨by kernel_rfl, by kernel_rfl, by kernel_rfl, by kernel_rfl, by kernel_rfl, by kernel_rfl, by kernel_rfl⟩
theorem accept_eq : (Rows.laid_unicode_utf8_acceptRanges : DataW Unit) = Lib.acceptData := by kernel_rfl
theorem tabs_of_reads {W : World} (h1 : Lib.VarReads Tryd.prog W "unicode/utf8.acceptRanges" Rows.laid_unicode_utf8_acceptRanges) (h2 : Lib.VarReads Tryd.prog W "unicode/utf8.first" Rows.laid_unicode_utf8_first) : Lib.Utf8Tabs 0 1 W :=
  utf8Tabs_of_readsT (U8Types.of196 Tryd.lays196) xU8 (Pinned.utf8First_eq ▸ h2) (accept_eq ▸ h1)
section
variable {H : Type} {enc : TypeId × Value → H} {w : World} {base : Nat} {spare : Nat → Bool} {held : Bool}
/-- A struct of one-cell fields, by value: each field's cell with its own reading. -/
theorem open_fields {P : Program} {r : Reach} {b0 : Nat} {t : TypeId} {fs : Array Field} {v : Value} {d : DataW H} {p : List MemPlace} (hs : P.underlying t = some (.struct fs)) (hone : oneCellFields P fs = true) (hC : P.cellsOf t = fs.size)
    (hv : Value.okWide P w r b0 t v) (h : DataW.Trod enc P w base spare held t v d p) :
    ∃ (cs : Array Value) (n : Nat), v = .agg cs ∧ cs.size = fs.size ∧ ∀ (j : Nat) (f : Field), fs[j]? = some f → ∃ c y, cs[j]? = some c ∧ DataW.trod enc P w base spare held n f.type [c] = some y := by
  obtain ⟨cs, rfl, hsz⟩ := okWide_struct hs hv
  obtain ⟨fuel, hf⟩ := h
  obtain ⟨xs, n, _, hx, _, hlen, hg⟩ := DataW.trod_struct hs hf
  refine ⟨cs, n, rfl, hsz.trans hC, fun j f hj => ?_⟩
  obtain ⟨o, k⟩ := hone_of hone j f hj
  have hjl : j < fs.size := (Array.getElem?_eq_some_iff.1 hj).1
  have h1 := hg j f hj
  rw [o, k] at h1
  have hjc : j < cs.toList.length := by rw [Array.length_toList]; omega
  have e1 : ((Value.agg cs).cells.toList.drop j).take 1 = [cs.toList[j]] := by
    show (cs.toList.drop j).take 1 = _
    rw [List.drop_eq_getElem_cons hjc]
    rfl
  rw [e1] at h1
  have hxl : j < xs.length := by omega
  exact ⟨cs.toList[j], xs[j], by rw [← Array.getElem?_toList, List.getElem?_eq_getElem hjc], h1.trans (List.getElem?_eq_getElem hxl)⟩
/-- A list of texts that came in. -/
theorem open_texts {P : Program} {t e : TypeId} {fuel : Nat} {c : Value} {y : DataW H × List MemPlace} (ht : P.underlying t = some (.slice e)) (he : P.underlying e = some .string) (hc : P.cellsOf e = 1)
    (h : DataW.trod enc P w base spare held fuel t [c] = some y) : ∃ A cap l, c = .slice A l.length cap ∧ Kd.C Kd.string w A l.length l ∧ l.length ≤ cap ∧ l.length ≤ 9223372036854775807 ∧ ∀ s ∈ l, s.size ≤ 9223372036854775807 := by
  rcases open_strings ht he hc h with ⟨hcs, _⟩ | ⟨a, len, cap, ss, hcs, _, hl, hm, hz, _, hcell, hsz⟩
  · simp only [List.cons.injEq, and_true] at hcs
    exact ⟨none, 0, [], hcs, Kd.C_nil _ _, Nat.le_refl _, by simp, by simp⟩
  · simp only [List.cons.injEq, and_true] at hcs
    have hlen : len ≤ ss.length := by rw [hz]; split <;> omega
    have e1 : (ss.take len).length = len := by rw [List.length_take]; omega
    refine ⟨some a, cap, ss.take len, by rw [e1]; exact hcs, ?_, by omega, by unfold maxLen at hm; omega, fun s hs => hsz s (List.mem_of_mem_take hs)⟩
    refine Kd.C_of_reads (d := ByteArray.empty) ⟨rfl, by unfold maxLen at hm; omega, fun h0 => ⟨a, rfl, fun j hj => ?_⟩⟩
    rw [e1] at hj
    rw [hcell j (by omega), List.getD_eq_getElem?_getD, List.getD_eq_getElem?_getD, List.getElem?_take_of_lt hj]
end
end Go.Proofs.YtgahimbccbghnaaDoor.P
namespace Go.Proofs.YtgahimbccbghnaaDoor.fnExactDecodeLabel
open Go.ChangeShapes Go.WideShapes Go.ChangeAt Go.RowKit Go.Deep Go.Proofs.YtgahimbccbghnaaDoorW.PrintWords Go.Proofs.YtgahimbccbghnaaDoor.P
open Go.ChangeMaps (open_string shut_string)
set_option linter.unusedVariables false
set_option maxRecDepth 100000 in
theorem lifted (os : Os) (started : os.Started) (H : Type) (enc : TypeId × Value → H) :
    ReturnsInHanded {} Tryd.checked os 5 .any (fun w args => (Rows.fnExactDecodeLabelSpec.pre enc Tryd.prog Tryd.f5 [] false w args ∧ laidMetH Tryd.prog Rows.fnExactDecodeLabelRow.laid w) ∧ sizedMet enc Tryd.prog Tryd.f5 (OpenSpec.ofChange Rows.fnExactDecodeLabelSpec) false w args)
      (Rows.fnExactDecodeLabelSpec.post enc Tryd.prog Tryd.f5 false true false false) := by
  refine returnsInHanded_of_change_and (C := Tryd.checked) (X := fun w _ => laidMetH Tryd.prog Rows.fnExactDecodeLabelRow.laid w) (fun _ _ _ hh h => h.of_heap hh) own started (by kernel_rfl) Tryd.func5
    (ChangeSpec.witness_shaped (enc := enc) (C := Tryd.checked) (os := os) (X := fun w _ => laidMetH Tryd.prog Rows.fnExactDecodeLabelRow.laid w) false (World.laidAll Tryd.prog os Rows.fnExactDecodeLabelRow.laid) #[.string ⟨#[]⟩] 8 (World.laidAll_os _ _ _)
      (World.shaped_of_ZipB (by kernel_rfl) (by kernel_rfl)) (by kernel_rfl) (by kernel_rfl) (by kernel_rfl)
      (by rw [MakeChecks.laidMetH_plain _ _ _ (by kernel_rfl)]; exact laidMet_laidAll _ (by kernel_rfl) (by kernel_rfl))) ?_
  intro W base args ds gs before hval0 hW _ _ hL _
  have hval : ∀ (j : Nat) t v, Tryd.f5.params[j]? = some t → args[j]? = some v → Value.okWide Tryd.prog W .any base t v := hval0
  have hW' := hW
  obtain ⟨p, q, hA0, hV, rfl, _, _⟩ := hW
  have hA : DataW.TrodAll enc Tryd.prog W 0 (fun _ => true) true Tryd.f5.params.toList args.toList ds p := hA0
  rw [Tryd.params5] at hA hval
  obtain ⟨v0, d0, rfl, rfl, h0⟩ := trodAll_one hA
  obtain ⟨rfl, rfl⟩ := trodVars_none hV
  rw [MakeChecks.laidMetH_plain _ _ _ (by kernel_rfl)] at hL
  have hG : GT W := tabs_of_reads (Lib.laidMet.reads hL (.head _)) (Lib.laidMet.reads hL (.tail _ (.head _)))
  obtain ⟨a0, rfl, rfl, rfl, y0⟩ := open_string Tryd.underlying9 (hval 0 9 v0 rfl rfl) h0
  try simp only [List.append_nil] at hW'
  obtain ⟨k, hk⟩ := law_DecodeLabel a0
  refine (laws_FnExactDecodeLabel.calls k a0 true W hG hk).mono fun e W' ⟨he, hb⟩ => ?_
  subst he
  exact ⟨_, rfl, _, _, _, [], _, [], hW', trodAll_mk1 (shut_bool Tryd.underlying4 _), trodAll_mk1 (shut_string Tryd.underlying9 y0), rfl, hb.frame _, fun h => by cases h⟩
theorem said : Rows.FnExactDecodeLabelSaid :=
  OpenClaim.holds_of_wide 5 Tryd.f5 rfl rfl rfl rfl rfl rfl rfl ⟨rfl, rfl, rfl, rfl, rfl⟩ rfl rfl rfl rfl rfl (by kernel_rfl) Tryd.func5 (by kernel_rfl)
    (of_decide_eq_true (by kernel_rfl)) (by unfold Func.isWrapper; first | (rw [if_pos (by decide +kernel)]; kernel_rfl) | (rw [if_neg (by decide +kernel)]; exact ⟨rfl, rfl⟩))
    (fun os started H enc _ => lifted os started H enc)
theorem plain (f : FuncId) (fn : Func) (hf : Tryd.pinned.checked.prog.funcNamed Rows.fnExactDecodeLabelRow.func = some f) (hfn : Tryd.pinned.checked.prog.funcs[f]? = some fn) :
    false = Tryd.pinned.checked.prog.looks [] ∧ ∀ (j : Nat) t, fn.params[j]? = some t → Tryd.pinned.checked.prog.wantsStandIn t = false := by
  obtain rfl : f = 5 := Option.some.inj ((show Tryd.prog.funcNamed Rows.fnExactDecodeLabelRow.func = some 5 by kernel_rfl).symm.trans hf) |>.symm
  obtain rfl : fn = Tryd.f5 := (Option.some.inj (Tryd.func5.symm.trans hfn)).symm
  refine ⟨by kernel_rfl, fun j t ht => ?_⟩
  rw [Tryd.params5] at ht
  obtain rfl : t = 9 := by simpa using Array.mem_of_getElem? ht
  exact (show Tryd.prog.wantsStandIn 9 = false by kernel_rfl)
theorem card : Rows.FnExactDecodeLabelCardSaid :=
  Claim7.holds_tied_plain_at .later [] _ _ _ _ said (fun _ h => by cases h) (by kernel_rfl) (fun _ h => by cases h) fnExactDecodeLabel_row_tie rfl ⟨rfl, rfl⟩ (by kernel_rfl) rfl plain (by kernel_rfl)
#print axioms card
end Go.Proofs.YtgahimbccbghnaaDoor.fnExactDecodeLabel
