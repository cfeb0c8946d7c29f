/- The law of FnExactIsMixed: for every input it returns true. No condition beside those of the statement. -/
import Derived.Test.YtbppeepihlajoaaDoorM10
import Derived.Test.YtbppeepihlajoaaDoorM11
import Derived.Test.YtbppeepihlajoaaDoorM2
import Derived.Test.YtbppeepihlajoaaDoorXKd
import Derived.Lib.SlicesCompact
import Derived.Test.YtbppeepihlajoaaDoorM5
import Derived.Test.YtbppeepihlajoaaDoorM4
import Derived.Test.YtbppeepihlajoaaDoorXEv
import Derived.Lib.RuneCountTail
import Derived.Test.YtbppeepihlajoaaDoorXSc
import Derived.Test.YtbppeepihlajoaaDoorXKdA
import Derived.Test.YtbppeepihlajoaaDoorM12
import Derived.Test.YtbppeepihlajoaaDoorTie
import Derived.Test.YtbppeepihlajoaaDoorM0
import Derived.Test.YtbppeepihlajoaaDoorXG
import Derived.Lib.LaidU8T
import Derived.PinnedBridge
import Derived.Lay
import Derived.SevenTiedAt
import Derived.ProofKit
import Derived.OpenShut
import Derived.ShutString
import Derived.ChangeOld
import Derived.SliceStrings
import Derived.Deep.Fields
import Derived.SizedLaws
import Derived.ChangeSlices
import Derived.OpenVars
import Derived.ChangeVars
import Derived.Test.YtbppeepihlajoaaDoorCards
namespace Go.Proofs.YtbppeepihlajoaaDoor.P
open Go.RowKit Go.Proofs.YtbppeepihlajoaaDoorW.PrintWords
set_option linter.unusedVariables false
/-- Is it a letter? -/
def ltr (p : Int) : Bool := decide (4 ≤ (kd p).1 ∧ (kd p).1 ≤ 7)
theorem Script_ev (p : Int) (h0 : 0 ≤ p) : Ev (fun k => impl_Script.f k p) (kd p).2 := by
  unfold impl_Script.f
  exact Ev.bind (kind_ev p h0) (Ev.now _)
theorem Category_ev (p : Int) (h0 : 0 ≤ p) : Ev (fun k => impl_Category.f k p) (kd p).1 := by
  unfold impl_Category.f
  exact Ev.bind (kind_ev p h0) (Ev.now _)
theorem isLetter_ev (p : Int) (h0 : 0 ≤ p) : Ev (fun k => impl_isLetter.f k p) (ltr p) := by
  unfold impl_isLetter.f
  refine Ev.bind (Category_ev p h0) ?_
  rw [in_f, Option.bind_some]
  exact Ev.now _
theorem sCat_ev (p : Int) (h0 : 0 ≤ p) (h1 : p < 1000000000) : Ev (fun k => spec_l01Cat.f k p) (kd p).1 := by
  unfold spec_l01Cat.f
  exact Ev.bind (known_ev p h0 h1) (Ev.now _)
theorem sScript_ev (p : Int) (h0 : 0 ≤ p) (h1 : p < 1000000000) : Ev (fun k => spec_l01Script.f k p) (kd p).2 := by
  unfold spec_l01Script.f
  exact Ev.bind (known_ev p h0 h1) (Ev.now _)
theorem sLetter_ev (p : Int) (h0 : 0 ≤ p) (h1 : p < 1000000000) : Ev (fun k => spec_l19Letter.f k p) (ltr p) := by
  unfold spec_l19Letter.f
  refine Ev.bind (sCat_ev p h0 h1) ?_
  unfold ltr
  generalize (kd p).1 = c
  by_cases h4 : c = 4
  · rw [if_pos h4, decide_eq_true (by omega)]; exact Ev.now _
  · rw [if_neg h4]
    by_cases h5 : c = 5
    · rw [if_pos h5, decide_eq_true (by omega)]; exact Ev.now _
    · rw [if_neg h5]
      by_cases h6 : c = 6
      · rw [if_pos h6, decide_eq_true (by omega)]; exact Ev.now _
      · rw [if_neg h6]
        by_cases h7 : c = 7
        · rw [h7]; exact Ev.now _
        · rw [show (c == 7) = false from beq_eq_false_iff_ne.2 h7, decide_eq_false (by omega)]; exact Ev.now _
end Go.Proofs.YtbppeepihlajoaaDoor.P
namespace Go.Proofs.YtbppeepihlajoaaDoor.P
open Go.Lib
/-- Puts a number into a rising list. -/
def insS : List Int → Int → List Int
  | [], n => [n]
  | a :: t, n => if a < n then a :: insS t n else if a = n then a :: t else n :: a :: t
theorem insS_mem (n : Int) : ∀ (l : List Int) (x : Int), x ∈ insS l n ↔ x = n ∨ x ∈ l
  | [], x => by simp [insS]
  | a :: t, x => by
    unfold insS
    by_cases h : a < n
    · rw [if_pos h, List.mem_cons, insS_mem n t x, List.mem_cons]
      constructor
      · rintro (h | h | h)
        · exact .inr (.inl h)
        · exact .inl h
        · exact .inr (.inr h)
      · rintro (h | h | h)
        · exact .inr (.inl h)
        · exact .inl h
        · exact .inr (.inr h)
    · rw [if_neg h]
      by_cases h2 : a = n
      · rw [if_pos h2, List.mem_cons, h2]
        constructor
        · exact fun h => h.elim .inl fun h => .inr (.inr h)
        · rintro (h | h | h)
          · exact .inl h
          · exact .inl h
          · exact .inr h
      · rw [if_neg h2, List.mem_cons]
theorem insS_rise (n : Int) : ∀ (l : List Int), List.Pairwise (· < ·) l → List.Pairwise (· < ·) (insS l n)
  | [], _ => by simp [insS]
  | a :: t, h => by
    have h' := List.pairwise_cons.1 h
    unfold insS
    by_cases h1 : a < n
    · rw [if_pos h1]
      refine List.pairwise_cons.2 ⟨fun b hb => ?_, insS_rise n t h'.2⟩
      rcases (insS_mem n t b).1 hb with rfl | hb
      · exact h1
      · exact h'.1 b hb
    · rw [if_neg h1]
      by_cases h2 : a = n
      · rw [if_pos h2]; exact h
      · rw [if_neg h2]
        refine List.pairwise_cons.2 ⟨fun b hb => ?_, h⟩
        rcases List.mem_cons.1 hb with rfl | hb
        · omega
        · have := h'.1 b hb; omega
theorem insS_len (n : Int) : ∀ (l : List Int), (insS l n).length ≤ l.length + 1
  | [] => by simp [insS]
  | a :: t => by
    unfold insS
    have := insS_len n t
    by_cases h1 : a < n
    · rw [if_pos h1]; simp; omega
    · rw [if_neg h1]
      by_cases h2 : a = n
      · rw [if_pos h2]; simp
      · rw [if_neg h2]; simp
theorem foldS_mem : ∀ (y l : List Int) (x : Int), x ∈ y.foldl insS l ↔ x ∈ y ∨ x ∈ l
  | [], l, x => by simp
  | a :: t, l, x => by
    rw [List.foldl_cons, foldS_mem t (insS l a) x, insS_mem, List.mem_cons]
    constructor
    · rintro (h | h | h)
      · exact .inl (.inr h)
      · exact .inl (.inl h)
      · exact .inr h
    · rintro ((h | h) | h)
      · exact .inr (.inl h)
      · exact .inl h
      · exact .inr (.inr h)
theorem foldS_rise : ∀ (y l : List Int), List.Pairwise (· < ·) l → List.Pairwise (· < ·) (y.foldl insS l)
  | [], _, h => h
  | a :: t, l, h => foldS_rise t (insS l a) (insS_rise a l h)
theorem foldS_len : ∀ (y l : List Int), (y.foldl insS l).length ≤ l.length + y.length
  | [], _ => by simp
  | a :: t, l => by
    have := foldS_len t (insS l a)
    have := insS_len a l
    simp only [List.foldl_cons, List.length_cons]
    omega
/-- Two rising lists of the same elements are one. -/
theorem rise_eq : ∀ (a b : List Int), List.Pairwise (· < ·) a → List.Pairwise (· < ·) b → (∀ x, x ∈ a ↔ x ∈ b) → a = b
  | [], [], _, _, _ => rfl
  | [], b :: t, _, _, h => by have := (h b).2 (List.mem_cons_self ..); simp at this
  | a :: t, [], _, _, h => by have := (h a).1 (List.mem_cons_self ..); simp at this
  | a :: s, b :: t, ha, hb, h => by
    have ha' := List.pairwise_cons.1 ha
    have hb' := List.pairwise_cons.1 hb
    have e : a = b := by
      rcases List.mem_cons.1 ((h a).1 (List.mem_cons_self ..)) with e | e
      · exact e
      · rcases List.mem_cons.1 ((h b).2 (List.mem_cons_self ..)) with e' | e'
        · exact e'.symm
        · have := ha'.1 b e'
          have := hb'.1 a e
          omega
    subst e
    rw [rise_eq s t ha'.2 hb'.2 fun x => ?_]
    constructor
    · intro hx
      rcases List.mem_cons.1 ((h x).1 (List.mem_cons_of_mem _ hx)) with e | e
      · have := ha'.1 x hx; omega
      · exact e
    · intro hx
      rcases List.mem_cons.1 ((h x).2 (List.mem_cons_of_mem _ hx)) with e | e
      · have := hb'.1 x hx; omega
      · exact e
theorem upTo_congr {d d' : Array Int} : ∀ (m : Nat), (∀ j, j < m → d[j]! = d'[j]!) → compactUpTo d m = compactUpTo d' m
  | 0, _ => by simp [compactUpTo]
  | m + 1, h => by
    rw [compactUpTo_succ, compactUpTo_succ, upTo_congr m fun j hj => h j (by omega)]
    have e1 := h m (by omega)
    have e2 : keeps d m = keeps d' m := by
      unfold keeps
      by_cases h0 : m = 0
      · simp [h0]
      · rw [h m (by omega), h (m - 1) (by omega)]
    rw [e1, e2]
/-- What a compacting leaves of a list that does not fall. -/
theorem upTo_rise (d : Array Int) : ∀ (m : Nat), m ≤ d.size → (∀ i j, i ≤ j → j < m → d[i]! ≤ d[j]!) →
    List.Pairwise (· < ·) (compactUpTo d m) ∧ ∀ x, x ∈ compactUpTo d m ↔ ∃ j, j < m ∧ d[j]! = x
  | 0, _, _ => by simp [compactUpTo]
  | m + 1, hm, h => by
    obtain ⟨h1, h2⟩ := upTo_rise d m (by omega) fun i j hij hj => h i j hij (by omega)
    rw [compactUpTo_succ]
    by_cases hk : keeps d m = true
    · rw [if_pos hk]
      refine ⟨List.pairwise_append.2 ⟨h1, by simp, fun a ha b hb => ?_⟩, fun x => ?_⟩
      · rw [List.mem_singleton] at hb
        subst hb
        obtain ⟨j, hj, rfl⟩ := (h2 a).1 ha
        have hne : d[m]! ≠ d[m - 1]! := by
          have := of_decide_eq_true hk
          rcases this with h | h
          · omega
          · exact h
        have a1 := h j (m - 1) (by omega) (by omega)
        have a2 := h (m - 1) m (by omega) (by omega)
        omega
      · rw [List.mem_append, h2 x, List.mem_singleton]
        constructor
        · rintro (⟨j, hj, e⟩ | e)
          · exact ⟨j, by omega, e⟩
          · exact ⟨m, by omega, e.symm⟩
        · rintro ⟨j, hj, e⟩
          by_cases hjm : j = m
          · subst hjm; exact .inr e.symm
          · exact .inl ⟨j, by omega, e⟩
    · rw [if_neg hk, List.append_nil]
      refine ⟨h1, fun x => ?_⟩
      rw [h2 x]
      have hne : ¬ (m = 0 ∨ d[m]! ≠ d[m - 1]!) := fun h => hk (decide_eq_true h)
      constructor
      · rintro ⟨j, hj, e⟩
        exact ⟨j, by omega, e⟩
      · rintro ⟨j, hj, e⟩
        by_cases hjm : j = m
        · subst hjm
          refine ⟨j - 1, by omega, ?_⟩
          rw [← e]
          exact (Decidable.not_not.1 fun hh => hne (.inr hh)).symm
        · exact ⟨j, by omega, e⟩
theorem compact_sort (y : List Int) : compact (y.mergeSort fun x y => decide (x ≤ y)) = y.foldl insS [] := by
  have hp := List.pairwise_mergeSort (le := fun x y : Int => decide (x ≤ y)) (fun a b c h1 h2 => decide_eq_true (by have := of_decide_eq_true h1; have := of_decide_eq_true h2; omega)) (fun a b => by rw [Bool.or_eq_true, decide_eq_true_iff, decide_eq_true_iff]; omega) y
  have hm : ∀ x, x ∈ (y.mergeSort fun x y => decide (x ≤ y)) ↔ x ∈ y := fun x => List.mem_mergeSort
  generalize (y.mergeSort fun x y => decide (x ≤ y)) = D at *
  have hg : ∀ j, (hj : j < D.length) → (D.toArray)[j]! = D[j] := fun j hj => by simp [hj]
  obtain ⟨h1, h2⟩ := upTo_rise D.toArray D.length (by simp) (fun i j hij hj => by
    rw [hg i (by omega), hg j hj]
    by_cases e : i = j
    · subst e; omega
    · have := List.pairwise_iff_getElem.1 hp i j (by omega) hj (by omega)
      exact of_decide_eq_true this)
  refine rise_eq _ _ h1 (foldS_rise _ _ (by simp)) fun x => ?_
  rw [show compact D = compactUpTo D.toArray D.length from rfl, h2 x, foldS_mem]
  constructor
  · rintro ⟨j, hj, e⟩
    rw [hg j hj] at e
    exact .inl ((hm x).1 (e ▸ List.getElem_mem hj))
  · rintro (h | h)
    · obtain ⟨j, hj, e⟩ := List.getElem_of_mem ((hm x).2 h)
      exact ⟨j, hj, by rw [hg j hj]; exact e⟩
    · simp at h
end Go.Proofs.YtbppeepihlajoaaDoor.P
namespace Go.Proofs.YtbppeepihlajoaaDoor.P
open Go.RowKit Go.Proofs.YtbppeepihlajoaaDoorW.PrintWords
set_option linter.unusedVariables false
theorem bt_get (s : ByteArray) (i : Nat) : bt s (i : Int) = ((s.get! i).toNat : Int) := by
  unfold bt
  rw [Int.toNat_natCast]
  by_cases h : i < s.size
  · rw [dif_pos h, Utf8W.get!_of_lt s i h]
  · rw [dif_neg h]
    cases s with
    | mk d =>
      have : d.size ≤ i := Nat.le_of_not_lt h
      show (0 : Int) = ((d[i]!).toNat : Int)
      rw [getElem!_neg d i (by omega)]
      rfl
/-- The point at a place, and how many bytes it takes. -/
def dec (s : ByteArray) (i : Nat) : Nat × Nat := Utf8.decode s i
theorem dec_eq (s : ByteArray) (i : Nat) : dec s i = Lib.decodeN (s.size - i) (s.get! i).toNat (s.get! (i + 1)).toNat (s.get! (i + 2)).toNat (s.get! (i + 3)).toNat := Lib.decode_at s i
theorem decodeN_bd (n b0 b1 b2 b3 : Nat) (hn : 1 ≤ n) : 1 ≤ (Lib.decodeN n b0 b1 b2 b3).2 ∧ (Lib.decodeN n b0 b1 b2 b3).2 ≤ 4 ∧ (Lib.decodeN n b0 b1 b2 b3).2 ≤ n ∧ (Lib.decodeN n b0 b1 b2 b3).1 ≤ 1114111 ∧ ((Lib.decodeN n b0 b1 b2 b3).1 < 55296 ∨ 57344 ≤ (Lib.decodeN n b0 b1 b2 b3).1) := by
  unfold Lib.decodeN
  repeat' split
  all_goals (simp only []; omega)
theorem dec_bd (s : ByteArray) (i : Nat) (h : i < s.size) : 1 ≤ (dec s i).2 ∧ (dec s i).2 ≤ 4 ∧ (dec s i).2 ≤ s.size - i ∧ (dec s i).1 ≤ 1114111 ∧ ((dec s i).1 < 55296 ∨ 57344 ≤ (dec s i).1) := by
  rw [dec_eq]
  exact decodeN_bd _ _ _ _ _ (by omega)
/-- Is a byte at this place no point's? -/
def badAt (s : ByteArray) (i : Nat) : Bool := (dec s i).1 == 65533 && (dec s i).2 == 1
/-- The points from a place on. -/
def ptsFrom (s : ByteArray) (i : Nat) : List Int :=
  if h : i < s.size then ((dec s i).1 : Int) :: ptsFrom s (i + (dec s i).2) else []
termination_by s.size - i
decreasing_by have := dec_bd s i h; omega
def pts (s : ByteArray) : List Int := ptsFrom s 0
theorem ptsFrom_lt {s : ByteArray} {i : Nat} (h : i < s.size) : ptsFrom s i = ((dec s i).1 : Int) :: ptsFrom s (i + (dec s i).2) := by rw [ptsFrom, dif_pos h]
theorem ptsFrom_ge {s : ByteArray} {i : Nat} (h : ¬ i < s.size) : ptsFrom s i = [] := by rw [ptsFrom, dif_neg h]
/-- The same with their places. -/
def atsFrom (s : ByteArray) (i : Nat) : List S110 :=
  if h : i < s.size then ⟨((dec s i).1 : Int), (i : Int), ((i + (dec s i).2 : Nat) : Int), badAt s i⟩ :: atsFrom s (i + (dec s i).2) else []
termination_by s.size - i
decreasing_by have := dec_bd s i h; omega
def ats (s : ByteArray) : List S110 := atsFrom s 0
theorem atsFrom_lt {s : ByteArray} {i : Nat} (h : i < s.size) : atsFrom s i = ⟨((dec s i).1 : Int), (i : Int), ((i + (dec s i).2 : Nat) : Int), badAt s i⟩ :: atsFrom s (i + (dec s i).2) := by rw [atsFrom, dif_pos h]
theorem atsFrom_ge {s : ByteArray} {i : Nat} (h : ¬ i < s.size) : atsFrom s i = [] := by rw [atsFrom, dif_neg h]
theorem rec_places (s : ByteArray) {motive : Nat → Prop} (end_ : ∀ i, ¬ i < s.size → motive i) (step : ∀ i, i < s.size → motive (i + (dec s i).2) → motive i) : ∀ i, motive i := by
  have : ∀ d i, s.size - i ≤ d → motive i := by
    intro d
    induction d with
    | zero => intro i hi; exact end_ i (by omega)
    | succ d ih =>
      intro i hi
      by_cases h : i < s.size
      · have := dec_bd s i h
        exact step i h (ih _ (by omega))
      · exact end_ i h
  exact fun i => this _ i (Nat.le_refl _)
theorem ats_pts (s : ByteArray) : ∀ i, (atsFrom s i).map (·.f0) = ptsFrom s i := by
  refine rec_places s (motive := fun i => (atsFrom s i).map (·.f0) = ptsFrom s i) ?_ ?_
  · intro i h; show _ = _; rw [atsFrom_ge h, ptsFrom_ge h]; rfl
  · intro i h ih; show _ = _; rw [atsFrom_lt h, ptsFrom_lt h, List.map_cons, ih]
theorem pts_len (s : ByteArray) : ∀ i, (ptsFrom s i).length ≤ s.size - i := by
  refine rec_places s (motive := fun i => (ptsFrom s i).length ≤ s.size - i) ?_ ?_
  · intro i h; show _ ≤ _; rw [ptsFrom_ge h]; simp
  · intro i h ih
    have := dec_bd s i h
    show _ ≤ _
    rw [ptsFrom_lt h, List.length_cons]; omega
theorem ats_len (s : ByteArray) : ∀ i, (atsFrom s i).length ≤ s.size - i := by
  intro i
  have := pts_len s i
  rw [← ats_pts, List.length_map] at this
  exact this
theorem pts_range (s : ByteArray) : ∀ i, ∀ p ∈ ptsFrom s i, 0 ≤ p ∧ p ≤ 1114111 ∧ (p < 55296 ∨ 57344 ≤ p) := by
  refine rec_places s (motive := fun i => ∀ p ∈ ptsFrom s i, 0 ≤ p ∧ p ≤ 1114111 ∧ (p < 55296 ∨ 57344 ≤ p)) ?_ ?_
  · intro i h p hp; rw [ptsFrom_ge h] at hp; cases hp
  · intro i h ih p hp
    have := dec_bd s i h
    rw [ptsFrom_lt h] at hp
    rcases List.mem_cons.1 hp with rfl | h2
    · omega
    · exact ih p h2
theorem decodeGo_at (s : ByteArray) (i : Nat) (h : i < s.size) : Lib.decodeGo (s.extract i s.size) = dec s i := by
  unfold Lib.decodeGo
  rw [if_neg (by rw [Lib.tail_size]; omega), Lib.tail_decode, Nat.add_zero]
  rfl
/-- The program's reader. -/
theorem read_ev (s : ByteArray) (hs : s.size ≤ 1099511627776) : ∀ i, ∀ acc : List S110, acc.length + (s.size - i) ≤ 1099511627776 → Ev (fun k => impl_read.l0 k s acc (i : Int)) (acc ++ atsFrom s i) := by
  refine rec_places s (motive := fun i => ∀ acc : List S110, acc.length + (s.size - i) ≤ 1099511627776 → Ev (fun k => impl_read.l0 k s acc (i : Int)) (acc ++ atsFrom s i)) ?_ ?_
  · intro i h acc ha
    refine Ev.step (fun k => by rw [impl_read.l0]) ?_
    rw [atsFrom_ge h, List.append_nil]
    exact Ev.neg (by omega) (Ev.now _)
  · intro i h ih acc ha
    have hb := dec_bd s i h
    refine Ev.step (fun k => by rw [impl_read.l0]) ?_
    refine Ev.pos (by omega) (Ev.pos (by omega) (Ev.pos (by omega) ?_))
    rw [Int.toNat_natCast]
    refine Ev.bind (Ev.done (r := (((dec s i).1 : Int), ((dec s i).2 : Int))) (by unfold utf8_DecodeRuneInString.f; rw [decodeGo_at s i h])) ?_
    have e1 : wrap64 ((dec s i).1 : Int) = ((dec s i).1 : Int) := w64 (by omega) (by omega)
    have e2 : wrap64 ((i : Int) + ((dec s i).2 : Int)) = ((i + (dec s i).2 : Nat) : Int) := by rw [w64 (by omega) (by omega)]; omega
    simp only [e1, e2]
    rw [atsFrom_lt h]
    have key : ∀ b : Bool, b = badAt s i → Ev (fun k => if acc.length < 4398046511104 then impl_read.l0 k s (acc ++ [(⟨((dec s i).1 : Int), (i : Int), ((i + (dec s i).2 : Nat) : Int), b⟩ : S110)]) ((i + (dec s i).2 : Nat) : Int) else none) (acc ++ (⟨((dec s i).1 : Int), (i : Int), ((i + (dec s i).2 : Nat) : Int), badAt s i⟩ :: atsFrom s (i + (dec s i).2))) := by
      rintro b rfl
      refine Ev.pos (by omega) ?_
      refine (ih _ ?_).to (by simp)
      rw [List.length_append, List.length_singleton]
      omega
    by_cases h3 : (dec s i).1 = 65533
    · refine Ev.pos (by omega) (key _ ?_)
      unfold badAt
      rw [h3]
      by_cases h4 : (dec s i).2 = 1
      · rw [h4]; rfl
      · have : ¬ (((dec s i).2 : Int) = 1) := by omega
        rw [beq_eq_false_iff_ne.2 this, beq_eq_false_iff_ne.2 h4]
        rfl
    · refine Ev.neg (by omega) (key _ ?_)
      unfold badAt
      rw [beq_eq_false_iff_ne.2 h3]
      rfl
theorem read_f (s : ByteArray) (hs : s.size ≤ 1099511627776) : Ev (fun k => impl_read.f k s) (ats s) :=
  (read_ev s hs 0 [] (by simp; omega)).to (by simp [ats])
theorem points_l (l : List S110) (hl : l.length ≤ 1099511627776) : ∀ (d i : Nat), l.length - i = d → i ≤ l.length → ∀ acc : List Int, acc.length ≤ i → Ev (fun k => impl_points.l0 k acc l (l.length : Int) (i : Int)) (acc ++ (l.drop i).map (·.f0)) := by
  intro d
  induction d with
  | zero =>
    intro i hd hi acc ha
    refine Ev.step (fun k => by rw [impl_points.l0]) ?_
    refine Ev.neg (by omega) ((Ev.now _).to ?_)
    rw [List.drop_eq_nil_of_le (by omega)]
    simp
  | succ d ih =>
    intro i hd hi acc ha
    have hlt : i < l.length := by omega
    refine Ev.step (fun k => by rw [impl_points.l0]) ?_
    refine Ev.pos (by omega) (Ev.pos (by omega) (Ev.pos (by omega) (Ev.pos (by omega) ?_)))
    have e2 := w_succ i (by omega)
    have e3 : rd_T110 l (i : Int) = l[i] := by simp [rd_T110, hlt]
    rw [e2, e3]
    refine (ih (i + 1) (by omega) (by omega) _ (by rw [List.length_append, List.length_singleton]; omega)).to ?_
    rw [List.drop_eq_getElem_cons hlt, List.map_cons, List.append_assoc]
    rfl
theorem points_f (s : ByteArray) (hs : s.size ≤ 1099511627776) : Ev (fun k => impl_points.f k s) (pts s) := by
  refine Ev.bind (read_f s hs) ?_
  have := ats_len s 0
  refine (points_l (ats s) (by unfold ats; omega) _ 0 rfl (by omega) [] (by simp)).to ?_
  simp [ats, pts, ats_pts]
end Go.Proofs.YtbppeepihlajoaaDoor.P
namespace Go.Proofs.YtbppeepihlajoaaDoor.P
open Go.RowKit Go.Proofs.YtbppeepihlajoaaDoorW.PrintWords
set_option linter.unusedVariables false
theorem dN1 {n b0 b1 b2 b3 : Nat} (h : b0 < 128) : Lib.decodeN n b0 b1 b2 b3 = (b0, 1) := by unfold Lib.decodeN; rw [if_pos h]
theorem dN0 {n b0 b1 b2 b3 : Nat} (h : (128 ≤ b0 ∧ b0 < 194) ∨ 245 ≤ b0) : Lib.decodeN n b0 b1 b2 b3 = (65533, 1) := by
  unfold Lib.decodeN
  repeat' split
  all_goals first | (exfalso; omega) | rfl
theorem dN2 {n b0 b1 b2 b3 : Nat} (h : 194 ≤ b0 ∧ b0 < 224) : Lib.decodeN n b0 b1 b2 b3 = if 1 < n ∧ b1 / 64 = 2 then (b0 % 32 * 64 + b1 % 64, 2) else (65533, 1) := by
  unfold Lib.decodeN
  repeat' split
  all_goals first | (exfalso; omega) | rfl
set_option maxRecDepth 100000 in
theorem dN3 {n b0 b1 b2 b3 : Nat} (h : 224 ≤ b0 ∧ b0 < 240) : Lib.decodeN n b0 b1 b2 b3 = if (1 < n ∧ b1 / 64 = 2) ∧ (2 < n ∧ b2 / 64 = 2) ∧ 2048 ≤ b0 % 16 * 4096 + b1 % 64 * 64 + b2 % 64 ∧ (b0 % 16 * 4096 + b1 % 64 * 64 + b2 % 64 < 55296 ∨ 57344 ≤ b0 % 16 * 4096 + b1 % 64 * 64 + b2 % 64) then (b0 % 16 * 4096 + b1 % 64 * 64 + b2 % 64, 3) else (65533, 1) := by
  unfold Lib.decodeN
  repeat' split
  all_goals first | (exfalso; omega) | rfl
set_option maxRecDepth 100000 in
theorem dN4 {n b0 b1 b2 b3 : Nat} (h : 240 ≤ b0 ∧ b0 < 245) : Lib.decodeN n b0 b1 b2 b3 = if (1 < n ∧ b1 / 64 = 2) ∧ (2 < n ∧ b2 / 64 = 2) ∧ (3 < n ∧ b3 / 64 = 2) ∧ 65536 ≤ b0 % 8 * 262144 + b1 % 64 * 4096 + b2 % 64 * 64 + b3 % 64 ∧ b0 % 8 * 262144 + b1 % 64 * 4096 + b2 % 64 * 64 + b3 % 64 ≤ 1114111 then (b0 % 8 * 262144 + b1 % 64 * 4096 + b2 % 64 * 64 + b3 % 64, 4) else (65533, 1) := by
  unfold Lib.decodeN
  repeat' split
  all_goals first | (exfalso; omega) | rfl
def isPt (p : Int) : Bool := decide (0 ≤ p ∧ p ≤ 1114111 ∧ (p < 55296 ∨ 57343 < p))
theorem isPt_iff {p : Int} : isPt p = true ↔ 0 ≤ p ∧ p ≤ 1114111 ∧ (p < 55296 ∨ 57343 < p) := by unfold isPt; simp
theorem isPoint_eq (p : Int) : spec_l01IsPoint.f p = some (isPt p) := by
  unfold spec_l01IsPoint.f
  by_cases h0 : 0 ≤ p
  · rw [if_pos (by omega)]
    by_cases h1 : p ≤ 1114111
    · rw [if_pos h1]
      by_cases h2 : p < 55296
      · rw [if_pos h2, isPt_iff.2 ⟨h0, h1, .inl h2⟩]
      · rw [if_neg h2]
        by_cases h3 : 57343 < p
        · rw [isPt_iff.2 ⟨h0, h1, .inr h3⟩, decide_eq_true h3]
        · rw [decide_eq_false h3, show isPt p = false from Bool.eq_false_iff.2 (fun h => by have := isPt_iff.1 h; omega)]
    · rw [if_neg h1, show isPt p = false from Bool.eq_false_iff.2 (fun h => h1 (isPt_iff.1 h).2.1)]
  · rw [if_neg (by omega), show isPt p = false from Bool.eq_false_iff.2 (fun h => h0 (isPt_iff.1 h).1)]
/-- How a point is written. -/
def wrNums (p : Int) : List Int :=
  if p < 128 then [p % 256] else if p < 2048 then [(192 + p / 64) % 256, (128 + p % 64) % 256]
  else if p < 65536 then [(224 + p / 4096) % 256, (128 + p / 64 % 64) % 256, (128 + p % 64) % 256]
  else [(240 + p / 262144) % 256, (128 + p / 4096 % 64) % 256, (128 + p / 64 % 64) % 256, (128 + p % 64) % 256]
def wrP (p : Int) : ByteArray := strOfNums (wrNums (if isPt p then p else 65533))
theorem wr_j (p : Int) (hp : isPt p) : Ev (fun k => spec_l01Write.j0 k p) (strOfNums (wrNums p)) := by
  obtain ⟨h0, h1, h2⟩ := isPt_iff.1 hp
  have e1 : Int.tdiv p 64 = p / 64 := Int.tdiv_eq_ediv_of_nonneg h0
  have e2 : Int.tdiv p 4096 = p / 4096 := Int.tdiv_eq_ediv_of_nonneg h0
  have e3 : Int.tdiv p 262144 = p / 262144 := Int.tdiv_eq_ediv_of_nonneg h0
  have e4 : Int.tmod p 64 = p % 64 := Int.tmod_eq_emod_of_nonneg h0
  refine Ev.step (fun k => by rw [spec_l01Write.j0]) ?_
  rw [e1, e2, e3, e4, w64 (x := p / 64) (by omega) (by omega), w64 (x := p / 4096) (by omega) (by omega), w64 (x := p / 262144) (by omega) (by omega), w64 (x := 192 + p / 64) (by omega) (by omega), w64 (x := 128 + p % 64) (by omega) (by omega), w64 (x := 224 + p / 4096) (by omega) (by omega), w64 (x := 240 + p / 262144) (by omega) (by omega)]
  have e5 : Int.tmod (p / 64) 64 = p / 64 % 64 := Int.tmod_eq_emod_of_nonneg (by omega)
  have e6 : Int.tmod (p / 4096) 64 = p / 4096 % 64 := Int.tmod_eq_emod_of_nonneg (by omega)
  rw [e5, e6, w64 (x := 128 + p / 64 % 64) (by omega) (by omega), w64 (x := 128 + p / 4096 % 64) (by omega) (by omega)]
  by_cases c1 : p < 128
  · exact Ev.pos c1 ((Ev.now _).to (by unfold wrNums; rw [if_pos c1]))
  · by_cases c2 : p < 2048
    · exact Ev.neg c1 (Ev.pos c2 ((Ev.now _).to (by unfold wrNums; rw [if_neg c1, if_pos c2])))
    · by_cases c3 : p < 65536
      · exact Ev.neg c1 (Ev.neg c2 (Ev.pos c3 ((Ev.now _).to (by unfold wrNums; rw [if_neg c1, if_neg c2, if_pos c3]))))
      · exact Ev.neg c1 (Ev.neg c2 (Ev.neg c3 ((Ev.now _).to (by unfold wrNums; rw [if_neg c1, if_neg c2, if_neg c3]))))
theorem wr_ev (p : Int) : Ev (fun k => spec_l01Write.f k p) (wrP p) := by
  unfold wrP
  refine Ev.bind (Ev.done (isPoint_eq p)) ?_
  by_cases h : isPt p
  · rw [if_pos h]
    exact Ev.pos h (wr_j p h)
  · rw [if_neg h]
    exact Ev.neg h (wr_j 65533 (by rw [isPt_iff]; omega))
theorem size_strOfNums (l : List Int) : (strOfNums l).size = l.length := by
  unfold strOfNums
  show ((l.map fun n => UInt8.ofNat n.toNat).toArray).size = _
  simp
theorem wrP_size {p : Int} (h : isPt p) : ((wrP p).size : Int) = if p < 128 then 1 else if p < 2048 then 2 else if p < 65536 then 3 else 4 := by
  unfold wrP
  rw [if_pos h, size_strOfNums]
  unfold wrNums
  repeat' split
  all_goals rfl
/-- What the reference's reader answers at a place. -/
def nextR (r : Nat × Nat) : Int × Int × Bool := ((r.1 : Int), (r.2 : Int), !(r.1 == 65533 && r.2 == 1))
theorem nextR_bad : nextR (65533, 1) = (65533, 1, false) := rfl
theorem nextR_good {v n : Nat} (h : v ≠ 65533 ∨ n ≠ 1) : nextR (v, n) = ((v : Int), (n : Int), true) := by
  unfold nextR
  rcases h with h | h
  · rw [beq_eq_false_iff_ne.2 h]; rfl
  · rw [beq_eq_false_iff_ne.2 h]; simp
theorem next_end (s : ByteArray) (i n v : Nat) (hn : 1 ≤ n) (hn4 : n ≤ 3) (hv : v ≤ 4000000) : Ev (fun k => spec_l01Next.l0 k s (i : Int) (n : Int) (v : Int) ((n + 1 : Nat) : Int))
    (if isPt (v : Int) = true ∧ (if v < 128 then 1 else if v < 2048 then 2 else if v < 65536 then 3 else 4) = n + 1 then ((v : Int), ((n + 1 : Nat) : Int), true) else (65533, 1, false)) := by
  refine Ev.step (fun k => by rw [spec_l01Next.l0]) ?_
  refine Ev.neg (by omega) ?_
  refine Ev.bind (Ev.done (isPoint_eq _)) ?_
  by_cases h : isPt (v : Int) = true
  · refine Ev.pos h (Ev.bind (wr_ev _) ?_)
    have hsz := wrP_size h
    have e1 := w_succ n (by omega)
    rw [e1]
    have hsz2 : ((wrP (v : Int)).size : Int) = ((if v < 128 then 1 else if v < 2048 then 2 else if v < 65536 then 3 else 4 : Nat) : Int) := by
      rw [hsz]
      by_cases c1 : v < 128
      · rw [if_pos (by omega), if_pos c1]; rfl
      · rw [if_neg (by omega), if_neg c1]
        by_cases c2 : v < 2048
        · rw [if_pos (by omega), if_pos c2]; rfl
        · rw [if_neg (by omega), if_neg c2]
          by_cases c3 : v < 65536
          · rw [if_pos (by omega), if_pos c3]; rfl
          · rw [if_neg (by omega), if_neg c3]; rfl
    generalize (if v < 128 then 1 else if v < 2048 then 2 else if v < 65536 then 3 else 4) = m at *
    by_cases h2 : m = n + 1
    · exact Ev.pos (by omega) ((Ev.now _).to (by rw [if_pos ⟨h, h2⟩]))
    · exact Ev.neg (by omega) ((Ev.now _).to (by rw [if_neg (fun h3 => h2 h3.2)]))
  · exact Ev.neg h ((Ev.now _).to (by rw [if_neg (fun h3 => h h3.1)]))
theorem next_step (s : ByteArray) (i n v j : Nat) (hs : s.size ≤ 1099511627776) (hj : j ≤ n) (hn : n ≤ 3) (hi : i + j < s.size) (hv : v ≤ 70000) (r : Int × Int × Bool)
    (hbad : (s.get! (i + j)).toNat / 64 ≠ 2 → r = (65533, 1, false))
    (hgood : (s.get! (i + j)).toNat / 64 = 2 → Ev (fun k => spec_l01Next.l0 k s (i : Int) (n : Int) ((v * 64 + (s.get! (i + j)).toNat % 64 : Nat) : Int) ((j + 1 : Nat) : Int)) r) :
    Ev (fun k => spec_l01Next.l0 k s (i : Int) (n : Int) (v : Int) (j : Int)) r := by
  have hb : (s.get! (i + j)).toNat < 256 := (s.get! (i + j)).toNat_lt
  have hbt : bt s ((i + j : Nat) : Int) = ((s.get! (i + j)).toNat : Int) := bt_get s (i + j)
  generalize (s.get! (i + j)).toNat = b at *
  refine Ev.step (fun k => by rw [spec_l01Next.l0]) ?_
  have e0 : wrap64 ((i : Int) + (j : Int)) = ((i + j : Nat) : Int) := by rw [w64 (by omega) (by omega)]; omega
  rw [e0, hbt, w64 (x := (b : Int)) (by omega) (by omega)]
  refine Ev.pos (by omega) (Ev.pos (by omega) (Ev.pos (by omega) ?_))
  by_cases h1 : (b : Int) < 128
  · rw [hbad (by omega)]; exact Ev.pos h1 (Ev.now _)
  · refine Ev.neg h1 ?_
    by_cases h2 : (b : Int) > 191
    · rw [hbad (by omega)]; exact Ev.pos h2 (Ev.now _)
    · refine Ev.neg h2 ?_
      have hq : b / 64 = 2 := by clear hbad hgood hbt e0; omega
      have e1 : wrap64 ((v : Int) * 64) = (v : Int) * 64 := w64 (by omega) (by omega)
      have e2 : Int.tmod (b : Int) 64 = (b : Int) % 64 := Int.tmod_eq_emod_of_nonneg (by omega)
      have e3 : wrap64 ((v : Int) * 64 + (b : Int) % 64) = ((v * 64 + b % 64 : Nat) : Int) := by rw [w64 (by omega) (by omega)]; omega
      have e4 := w_succ j (by omega)
      rw [e1, e2, e3, e4]
      exact hgood hq
theorem next_j2 (s : ByteArray) (i n v : Nat) (hs : s.size ≤ 1099511627776) (hi : i < s.size) (hn : n ≤ 3) (r : Int × Int × Bool)
    (hbad : ¬ i + n < s.size → r = (65533, 1, false))
    (hgood : i + n < s.size → Ev (fun k => spec_l01Next.l0 k s (i : Int) (n : Int) (v : Int) ((1 : Nat) : Int)) r) :
    Ev (fun k => spec_l01Next.j2 k s (i : Int) (n : Int) (v : Int)) r := by
  refine Ev.step (fun k => by rw [spec_l01Next.j2]) ?_
  have e0 : wrap64 ((i : Int) + (n : Int)) = ((i + n : Nat) : Int) := by rw [w64 (by omega) (by omega)]; omega
  rw [e0]
  by_cases h : i + n < s.size
  · exact Ev.neg (by omega) (hgood h)
  · rw [hbad h]; exact Ev.pos (by omega) (Ev.now _)
theorem next_2 (s : ByteArray) (hs : s.size ≤ 1099511627776) (i : Nat) (hi : i < s.size) (b0 b1 b2 b3 : Nat) (hc1 : (s.get! (i + 1)).toNat = b1) (h0 : 194 ≤ b0 ∧ b0 < 224) :
    Ev (fun k => spec_l01Next.j2 k s (i : Int) ((1 : Nat) : Int) ((b0 % 32 : Nat) : Int)) (nextR (Lib.decodeN (s.size - i) b0 b1 b2 b3)) := by
  rw [dN2 h0]
  refine next_j2 s i 1 (b0 % 32) hs hi (by omega) _ (fun h => by rw [if_neg (by omega), nextR_bad]) (fun h => ?_)
  refine next_step s i 1 (b0 % 32) 1 hs (by omega) (by omega) (by omega) (by omega) _ (fun g => by rw [hc1] at g; rw [if_neg (by omega), nextR_bad]) (fun g => ?_)
  rw [hc1] at g ⊢
  refine (next_end s i 1 _ (by omega) (by omega) (by omega)).to ?_
  symm
  rw [if_pos (by omega), nextR_good (by omega)]
  rw [if_pos ⟨isPt_iff.2 (by omega), by rw [if_neg (by omega), if_pos (by omega)]⟩]
theorem next_3 (s : ByteArray) (hs : s.size ≤ 1099511627776) (i : Nat) (hi : i < s.size) (b0 b1 b2 b3 : Nat) (hc1 : (s.get! (i + 1)).toNat = b1) (hc2 : (s.get! (i + 2)).toNat = b2) (h0 : 224 ≤ b0 ∧ b0 < 240) :
    Ev (fun k => spec_l01Next.j2 k s (i : Int) ((2 : Nat) : Int) ((b0 % 16 : Nat) : Int)) (nextR (Lib.decodeN (s.size - i) b0 b1 b2 b3)) := by
  rw [dN3 h0]
  refine next_j2 s i 2 (b0 % 16) hs hi (by omega) _ (fun h => by rw [if_neg (by omega), nextR_bad]) (fun h => ?_)
  refine next_step s i 2 (b0 % 16) 1 hs (by omega) (by omega) (by omega) (by omega) _ (fun g => by rw [hc1] at g; rw [if_neg (by omega), nextR_bad]) (fun g1 => ?_)
  rw [hc1] at g1 ⊢
  refine next_step s i 2 _ 2 hs (by omega) (by omega) (by omega) (by omega) _ (fun g => by rw [hc2] at g; rw [if_neg (by omega), nextR_bad]) (fun g2 => ?_)
  rw [hc2] at g2 ⊢
  refine (next_end s i 2 _ (by omega) (by omega) (by omega)).to ?_
  have ev : (b0 % 16 * 64 + b1 % 64) * 64 + b2 % 64 = b0 % 16 * 4096 + b1 % 64 * 64 + b2 % 64 := by omega
  rw [ev]
  symm
  have hv0 : b0 % 16 * 4096 + b1 % 64 * 64 + b2 % 64 < 65536 := by omega
  clear ev
  generalize b0 % 16 * 4096 + b1 % 64 * 64 + b2 % 64 = v at *
  by_cases hv : 2048 ≤ v ∧ (v < 55296 ∨ 57344 ≤ v)
  · rw [if_pos (by omega), nextR_good (by omega), if_pos ⟨isPt_iff.2 (by omega), by rw [if_neg (by omega), if_neg (by omega), if_pos hv0]⟩]
  · rw [if_neg (by omega), nextR_bad, if_neg]
    rintro ⟨hp, hz⟩
    have := isPt_iff.1 hp
    by_cases c1 : v < 2048
    · split at hz
      · omega
      · first | omega | (rw [if_pos c1] at hz; omega)
    · omega
theorem next_4 (s : ByteArray) (hs : s.size ≤ 1099511627776) (i : Nat) (hi : i < s.size) (b0 b1 b2 b3 : Nat) (hc1 : (s.get! (i + 1)).toNat = b1) (hc2 : (s.get! (i + 2)).toNat = b2) (hc3 : (s.get! (i + 3)).toNat = b3) (h0 : 240 ≤ b0 ∧ b0 < 245) :
    Ev (fun k => spec_l01Next.j2 k s (i : Int) ((3 : Nat) : Int) ((b0 % 8 : Nat) : Int)) (nextR (Lib.decodeN (s.size - i) b0 b1 b2 b3)) := by
  rw [dN4 h0]
  refine next_j2 s i 3 (b0 % 8) hs hi (by omega) _ (fun h => by rw [if_neg (by omega), nextR_bad]) (fun h => ?_)
  refine next_step s i 3 (b0 % 8) 1 hs (by omega) (by omega) (by omega) (by omega) _ (fun g => by rw [hc1] at g; rw [if_neg (by omega), nextR_bad]) (fun g1 => ?_)
  rw [hc1] at g1 ⊢
  refine next_step s i 3 _ 2 hs (by omega) (by omega) (by omega) (by omega) _ (fun g => by rw [hc2] at g; rw [if_neg (by omega), nextR_bad]) (fun g2 => ?_)
  rw [hc2] at g2 ⊢
  refine next_step s i 3 _ 3 hs (by omega) (by omega) (by omega) (by omega) _ (fun g => by rw [hc3] at g; rw [if_neg (by omega), nextR_bad]) (fun g3 => ?_)
  rw [hc3] at g3 ⊢
  refine (next_end s i 3 _ (by omega) (by omega) (by omega)).to ?_
  have ev : ((b0 % 8 * 64 + b1 % 64) * 64 + b2 % 64) * 64 + b3 % 64 = b0 % 8 * 262144 + b1 % 64 * 4096 + b2 % 64 * 64 + b3 % 64 := by omega
  rw [ev]
  symm
  clear ev
  generalize b0 % 8 * 262144 + b1 % 64 * 4096 + b2 % 64 * 64 + b3 % 64 = v at *
  by_cases hv : 65536 ≤ v ∧ v ≤ 1114111
  · rw [if_pos (by omega), nextR_good (by omega), if_pos ⟨isPt_iff.2 (by omega), by rw [if_neg (by omega), if_neg (by omega), if_neg (by omega)]⟩]
  · rw [if_neg (by omega), nextR_bad, if_neg]
    rintro ⟨hp, hz⟩
    have := isPt_iff.1 hp
    by_cases c1 : v < 65536
    · split at hz
      · omega
      · split at hz
        · omega
        · first | omega | (rw [if_pos c1] at hz; omega)
    · omega
theorem next_g (s : ByteArray) (hs : s.size ≤ 1099511627776) (i : Nat) (hi : i < s.size) (b0 b1 b2 b3 : Nat) (hb : b0 < 256) (hc0 : (s.get! i).toNat = b0) (hc1 : (s.get! (i + 1)).toNat = b1) (hc2 : (s.get! (i + 2)).toNat = b2) (hc3 : (s.get! (i + 3)).toNat = b3) :
    Ev (fun k => spec_l01Next.f k s (i : Int)) (nextR (Lib.decodeN (s.size - i) b0 b1 b2 b3)) := by
  unfold spec_l01Next.f
  rw [bt_get, hc0, w64 (x := (b0 : Int)) (by omega) (by omega)]
  refine Ev.pos (by omega) (Ev.pos (by omega) ?_)
  by_cases h1 : b0 < 128
  · rw [dN1 h1, nextR_good (by omega)]
    exact Ev.pos (by omega) (Ev.now _)
  refine Ev.neg (by omega) ?_
  by_cases h2 : b0 < 194
  · rw [dN0 (by omega), nextR_bad]
    refine Ev.neg (by omega) ?_
    refine Ev.step (fun k => by rw [spec_l01Next.j0]) (Ev.neg (by simp) (Ev.neg (by omega) ?_))
    refine Ev.step (fun k => by rw [spec_l01Next.j1]) (Ev.neg (by simp) (Ev.neg (by omega) (Ev.now _)))
  refine Ev.pos (by omega) ?_
  by_cases h3 : b0 < 224
  · rw [decide_eq_true (show (b0 : Int) < 224 by omega)]
    refine Ev.step (fun k => by rw [spec_l01Next.j0]) (Ev.pos rfl ?_)
    have e : Int.tmod (b0 : Int) 32 = ((b0 % 32 : Nat) : Int) := by rw [Int.tmod_eq_emod_of_nonneg (by omega)]; omega
    rw [e]
    exact next_2 s hs i hi b0 b1 b2 b3 hc1 (by omega)
  rw [decide_eq_false (show ¬ (b0 : Int) < 224 by omega)]
  refine Ev.step (fun k => by rw [spec_l01Next.j0]) (Ev.neg (by simp) (Ev.pos (by omega) ?_))
  by_cases h4 : b0 < 240
  · rw [decide_eq_true (show (b0 : Int) < 240 by omega)]
    refine Ev.step (fun k => by rw [spec_l01Next.j1]) (Ev.pos rfl ?_)
    have e : Int.tmod (b0 : Int) 16 = ((b0 % 16 : Nat) : Int) := by rw [Int.tmod_eq_emod_of_nonneg (by omega)]; omega
    rw [e]
    exact next_3 s hs i hi b0 b1 b2 b3 hc1 hc2 (by omega)
  rw [decide_eq_false (show ¬ (b0 : Int) < 240 by omega)]
  refine Ev.step (fun k => by rw [spec_l01Next.j1]) (Ev.neg (by simp) (Ev.pos (by omega) ?_))
  by_cases h5 : b0 < 245
  · refine Ev.pos (by omega) ?_
    have e : Int.tmod (b0 : Int) 8 = ((b0 % 8 : Nat) : Int) := by rw [Int.tmod_eq_emod_of_nonneg (by omega)]; omega
    rw [e]
    exact next_4 s hs i hi b0 b1 b2 b3 hc1 hc2 hc3 (by omega)
  · rw [dN0 (by omega), nextR_bad]
    exact Ev.neg (by omega) (Ev.now _)
theorem next_f (s : ByteArray) (hs : s.size ≤ 1099511627776) (i : Nat) (hi : i < s.size) : Ev (fun k => spec_l01Next.f k s (i : Int)) (nextR (dec s i)) := by
  rw [dec_eq]
  exact next_g s hs i hi _ _ _ _ (s.get! i).toNat_lt rfl rfl rfl rfl
theorem spoints_l (s : ByteArray) (hs : s.size ≤ 1099511627776) : ∀ i, ∀ acc : List Int, acc.length + (s.size - i) ≤ 1099511627776 → Ev (fun k => spec_l01Points.l0 k s acc (i : Int)) (acc ++ ptsFrom s i) := by
  refine rec_places s (motive := fun i => ∀ acc : List Int, acc.length + (s.size - i) ≤ 1099511627776 → Ev (fun k => spec_l01Points.l0 k s acc (i : Int)) (acc ++ ptsFrom s i)) ?_ ?_
  · intro i h acc ha
    refine Ev.step (fun k => by rw [spec_l01Points.l0]) ?_
    rw [ptsFrom_ge h, List.append_nil]
    exact Ev.neg (by omega) (Ev.now _)
  · intro i h ih acc ha
    have hb := dec_bd s i h
    refine Ev.step (fun k => by rw [spec_l01Points.l0]) ?_
    refine Ev.pos (by omega) (Ev.bind (next_f s hs i h) (Ev.pos (by omega) ?_))
    have e2 : wrap64 ((i : Int) + (nextR (dec s i)).2.1) = ((i + (dec s i).2 : Nat) : Int) := by
      show wrap64 ((i : Int) + ((dec s i).2 : Int)) = _
      rw [w64 (by omega) (by omega)]; omega
    rw [e2]
    refine (ih _ (by rw [List.length_append, List.length_singleton]; omega)).to ?_
    rw [ptsFrom_lt h]
    simp [nextR]
theorem spoints_f (s : ByteArray) (hs : s.size ≤ 1099511627776) : Ev (fun k => spec_l01Points.f k s) (pts s) :=
  (spoints_l s hs 0 [] (by simp; omega)).to (by simp [pts])
end Go.Proofs.YtbppeepihlajoaaDoor.P
namespace Go.Proofs.YtbppeepihlajoaaDoor.P
open Go.RowKit Go.Proofs.YtbppeepihlajoaaDoorW.PrintWords
set_option linter.unusedVariables false
theorem rd_lt (l : List Int) (i : Nat) (h : i < l.length) : rd l (i : Int) = l[i] := by simp [rd, h]
/-- The scripts of the letters of a list, in order. -/
def scrOf : List Int → List Int
  | [] => []
  | p :: r => if 0 < (kd p).2 ∧ ltr p = true then (kd p).2 :: scrOf r else scrOf r
theorem scrOf_len : ∀ l : List Int, (scrOf l).length ≤ l.length
  | [] => by simp [scrOf]
  | p :: r => by
    unfold scrOf
    have := scrOf_len r
    by_cases h : 0 < (kd p).2 ∧ ltr p = true
    · rw [if_pos h]; simp; omega
    · rw [if_neg h]; simp; omega
theorem scrL_ev : ∀ (l y : List Int), (∀ p ∈ l, 0 ≤ p) → Ev (fun k => scrL k l y) (y ++ scrOf l)
  | [], y, _ => by
    unfold scrL scrOf
    rw [List.append_nil]
    exact Ev.now _
  | p :: r, y, h => by
    have h0 := h p (List.mem_cons_self ..)
    have hr : ∀ p ∈ r, 0 ≤ p := fun q hq => h q (List.mem_cons_of_mem _ hq)
    unfold scrL scrOf
    refine Ev.bind (Script_ev p h0) ?_
    by_cases h1 : 0 < (kd p).2
    · refine Ev.pos h1 (Ev.bind (isLetter_ev p h0) ?_)
      by_cases h2 : ltr p = true
      · rw [if_pos ⟨h1, h2⟩]
        refine Ev.pos h2 ?_
        have := scrL_ev r (y ++ [(kd p).2]) hr
        rw [List.append_assoc, List.singleton_append] at this
        exact this
      · rw [if_neg (fun h => h2 h.2)]
        exact Ev.neg h2 (scrL_ev r y hr)
    · rw [if_neg (fun h => h1 h.1)]
      exact Ev.neg h1 (scrL_ev r y hr)
theorem put_ev (l : List Int) (n : Int) (hl : l.length ≤ 1000000000) : ∀ (j i : Nat), l.length - i = j → i ≤ l.length → Ev (fun k => spec_l19Put.l0 k l n (i : Int)) (l.take i ++ insS (l.drop i) n) := by
  intro j
  induction j with
  | zero =>
    intro i hj hi
    obtain rfl : i = l.length := by omega
    rw [List.drop_length, List.take_length]
    refine Ev.step (fun k => by rw [spec_l19Put.l0]) (Ev.neg (by omega) ?_)
    simp only [Option.bind_some, Int.toNat_natCast, List.nil_append, List.take_length, List.drop_length, List.append_nil, List.length_append, List.length_nil, List.length_cons]
    exact Ev.pos (by omega) (Ev.pos (by omega) (Ev.pos (by omega) (Ev.pos (by omega) (Ev.pos (by omega) (Ev.now _)))))
  | succ j ih =>
    intro i hj hi
    have hlt : i < l.length := by omega
    have hrd := rd_lt l i hlt
    refine Ev.step (fun k => by rw [spec_l19Put.l0, hrd, w_succ i (by omega)]) (Ev.pos (by omega) (Ev.pos (by omega) ?_))
    rw [List.drop_eq_getElem_cons hlt]
    unfold insS
    by_cases h1 : l[i] < n
    · refine Ev.pos h1 (Ev.to (ih (i + 1) (by omega) (by omega)) ?_)
      rw [if_pos h1, List.take_succ_eq_append_getElem hlt, List.append_assoc, List.singleton_append]
    · refine Ev.neg h1 ?_
      by_cases h2 : l[i] = n
      · refine Ev.pos h2 (Ev.to (Ev.now _) ?_)
        rw [if_neg h1, if_pos h2, ← List.drop_eq_getElem_cons hlt, List.take_append_drop]
      · refine Ev.neg h2 ?_
        have ht : (l.take i).length = i := by rw [List.length_take]; omega
        simp only [Option.bind_some, Int.toNat_natCast, List.nil_append, List.length_append, List.length_nil, List.length_cons, List.length_drop, ht]
        refine Ev.pos (by omega) (Ev.pos (by omega) (Ev.pos (by omega) (Ev.pos (by omega) (Ev.to (Ev.now _) ?_))))
        rw [if_neg h1, if_neg h2, ← List.drop_eq_getElem_cons hlt, List.append_assoc, List.singleton_append]
theorem put_f (l : List Int) (n : Int) (hl : l.length ≤ 1000000000) : Ev (fun k => spec_l19Put.f k l n) (insS l n) := by
  have := put_ev l n hl _ 0 rfl (by omega)
  rw [List.take_zero, List.nil_append, List.drop_zero] at this
  exact this
theorem scripts_ev (l : List Int) (hl : l.length ≤ 1000000000) (hp : ∀ p ∈ l, 0 ≤ p ∧ p < 1000000000) : ∀ (j i : Nat), l.length - i = j → i ≤ l.length → ∀ y : List Int, y.length ≤ i →
    Ev (fun k => spec_l19Scripts.l0 k l y (i : Int)) ((scrOf (l.drop i)).foldl insS y) := by
  intro j
  induction j with
  | zero =>
    intro i hj hi y hy
    rw [List.drop_eq_nil_of_le (by omega)]
    exact Ev.to (r := y) (Ev.step (fun k => by rw [spec_l19Scripts.l0]) (Ev.neg (by omega) (Ev.now _))) rfl
  | succ j ih =>
    intro i hj hi y hy
    have hlt : i < l.length := by omega
    have hrd := rd_lt l i hlt
    have hq := hp l[i] (List.getElem_mem hlt)
    have ws := w_succ i (by omega)
    rw [List.drop_eq_getElem_cons hlt]
    refine Ev.step (fun k => by rw [spec_l19Scripts.l0, hrd]) (Ev.pos (by clear ws; omega) (Ev.pos (by clear ws; omega) (Ev.bind (sLetter_ev l[i] hq.1 hq.2) ?_)))
    unfold scrOf
    by_cases h2 : ltr l[i] = true
    · refine Ev.pos h2 (Ev.bind (sScript_ev l[i] hq.1 hq.2) ?_)
      by_cases h1 : 0 < (kd l[i]).2
      · rw [decide_eq_true (show (kd l[i]).2 > 0 from h1), if_pos ⟨h1, h2⟩]
        refine Ev.step (fun k => by rw [spec_l19Scripts.j1, hrd, ws]) (Ev.pos rfl (Ev.pos (by clear ws; omega) (Ev.pos (by clear ws; omega) (Ev.bind (sScript_ev l[i] hq.1 hq.2) (Ev.bind (put_f y _ (by clear ws; omega)) ?_)))))
        rw [List.foldl_cons]
        exact ih (i + 1) (by clear ws; omega) (by clear ws; omega) _ (by clear ws; have := insS_len (kd l[i]).2 y; omega)
      · rw [decide_eq_false (show ¬ (kd l[i]).2 > 0 from h1), if_neg (fun h => h1 h.1)]
        refine Ev.step (fun k => by rw [spec_l19Scripts.j1, ws]) (Ev.neg (by simp) ?_)
        exact ih (i + 1) (by clear ws; omega) (by clear ws; omega) _ (by clear ws; omega)
    · rw [if_neg (fun h => h2 h.2)]
      refine Ev.neg h2 (Ev.step (fun k => by rw [spec_l19Scripts.j1, ws]) (Ev.neg (by simp) ?_))
      exact ih (i + 1) (by clear ws; omega) (by clear ws; omega) _ (by clear ws; omega)
/-- The scripts of a text. -/
def scripts (s : ByteArray) : List Int := if s.size > 65536 then [] else (scrOf (pts s)).foldl insS []
theorem scripts_len (s : ByteArray) : (scripts s).length ≤ 65536 := by
  unfold scripts
  by_cases h : s.size > 65536
  · rw [if_pos h]; simp
  · rw [if_neg h]
    have h1 := foldS_len (scrOf (pts s)) []
    have h2 := scrOf_len (pts s)
    have h3 : (pts s).length ≤ s.size - 0 := pts_len s 0
    simp only [List.length_nil] at h1
    omega
theorem iScripts_ev (s : ByteArray) : Ev (fun k => impl_ScriptsOf.f k s) (scripts s) := by
  unfold impl_ScriptsOf.f scripts
  refine Ev.bind (Ev.done (show impl_long.f s = some (decide ((s.size : Int) > 65536)) from rfl)) ?_
  by_cases h : s.size > 65536
  · rw [decide_eq_true (by omega), if_pos h]
    exact Ev.pos rfl (Ev.now _)
  · rw [decide_eq_false (by omega), if_neg h]
    refine Ev.neg (by simp) (Ev.bind (points_f s (by omega)) ?_)
    have h3 : (pts s).length ≤ s.size - 0 := pts_len s 0
    refine Ev.pos (by omega) (Ev.bind (scrL_ev (pts s) [] fun p hp => (pts_range s 0 p hp).1) ?_)
    rw [List.nil_append]
    exact Ev.to (Ev.now _) (compact_sort _)
end Go.Proofs.YtbppeepihlajoaaDoor.P
namespace Go.Proofs.YtbppeepihlajoaaDoor.P
open Go.RowKit Go.Proofs.YtbppeepihlajoaaDoorW.PrintWords
set_option linter.unusedVariables false
theorem rowIn_some {p : Int} {r : KRow} : ∀ (l : List KRow), rowIn p l = some r → r ∈ l ∧ r.f0 ≤ p ∧ p ≤ r.f1
  | [], h => by cases h
  | x :: t, h => by
    unfold rowIn at h
    by_cases h1 : p ≥ x.f0
    · rw [if_pos h1] at h
      by_cases h2 : p ≤ x.f1
      · rw [if_pos h2] at h
        obtain rfl := Option.some.inj h
        exact ⟨List.mem_cons_self .., h1, h2⟩
      · rw [if_neg h2] at h
        obtain ⟨a, b⟩ := rowIn_some t h
        exact ⟨List.mem_cons_of_mem _ a, b⟩
    · rw [if_neg h1] at h
      obtain ⟨a, b⟩ := rowIn_some t h
      exact ⟨List.mem_cons_of_mem _ a, b⟩
/-- The first of these rows that a point is in. -/
theorem rowIn_at (p : Int) : ∀ (l1 : List KRow) (r : KRow) (l2 : List KRow), (∀ x ∈ l1, x.f1 < r.f0 ∨ r.f1 < x.f0) → r.f0 ≤ p → p ≤ r.f1 → rowIn p (l1 ++ r :: l2) = some r
  | [], r, l2, _, h0, h1 => by
    rw [List.nil_append]
    unfold rowIn
    rw [if_pos h0, if_pos h1]
  | x :: t, r, l2, h, h0, h1 => by
    rw [List.cons_append]
    unfold rowIn
    have hx := h x (List.mem_cons_self ..)
    have ih := rowIn_at p t r l2 (fun y hy => h y (List.mem_cons_of_mem _ hy)) h0 h1
    by_cases a : p ≥ x.f0
    · rw [if_pos a, if_neg (by omega)]; exact ih
    · rw [if_neg a]; exact ih
theorem kd_row {p : Int} (h1 : ¬ (512 ≤ p ∧ p < 1280)) (h2 : ¬ (8192 ≤ p ∧ p < 9728)) (l1 : List KRow) (r : KRow) (l2 : List KRow) (e : kdLow ++ kdHi = l1 ++ r :: l2) (h : ∀ x ∈ l1, x.f1 < r.f0 ∨ r.f1 < x.f0) (a : r.f0 ≤ p) (b : p ≤ r.f1) : kd p = (r.f2, r.f3) := by
  unfold kd
  rw [if_neg h1, if_neg h2, e, rowIn_at p l1 r l2 h a b]
theorem kd_case {p : Int} (h1 : 512 ≤ p ∧ p < 1280) (l1 : List KRow) (r : KRow) (l2 : List KRow) (e : kdCased = l1 ++ r :: l2) (h : ∀ x ∈ l1, x.f1 < r.f0 ∨ r.f1 < x.f0) (a : r.f0 ≤ p % 256) (b : p % 256 ≤ r.f1) : kd p = (r.f2, p / 256) := by
  unfold kd
  rw [if_pos h1, e, rowIn_at (p % 256) l1 r l2 h a b]
/-- In which three ways a kind comes to be. -/
theorem kd_cases (p : Int) : kd p = (0, 0) ∨ (512 ≤ p ∧ p < 1280 ∧ ∃ r ∈ kdCased, r.f0 ≤ p % 256 ∧ p % 256 ≤ r.f1 ∧ kd p = (r.f2, p / 256)) ∨ (8192 ≤ p ∧ p < 9728 ∧ (kd p = (4, 1) ∨ kd p = (5, 1))) ∨ (¬ (512 ≤ p ∧ p < 1280) ∧ ¬ (8192 ≤ p ∧ p < 9728) ∧ ∃ r ∈ kdLow ++ kdHi, r.f0 ≤ p ∧ p ≤ r.f1 ∧ kd p = (r.f2, r.f3)) := by
  by_cases h1 : 512 ≤ p ∧ p < 1280
  · cases hr : rowIn (p % 256) kdCased with
    | none => exact .inl (by unfold kd; rw [if_pos h1, hr])
    | some r =>
      obtain ⟨a, b, c⟩ := rowIn_some _ hr
      exact .inr (.inl ⟨h1.1, h1.2, r, a, b, c, by unfold kd; rw [if_pos h1, hr]⟩)
  · by_cases h2 : 8192 ≤ p ∧ p < 9728
    · by_cases h3 : p % 512 ≥ 416
      · exact .inl (by unfold kd; rw [if_neg h1, if_pos h2, if_pos h3])
      · refine .inr (.inr (.inl ⟨h2.1, h2.2, ?_⟩))
        by_cases h4 : p % 512 < 208
        · exact .inl (by unfold kd; rw [if_neg h1, if_pos h2, if_neg h3, if_pos h4])
        · exact .inr (by unfold kd; rw [if_neg h1, if_pos h2, if_neg h3, if_neg h4])
    · cases hr : rowIn p (kdLow ++ kdHi) with
      | none => exact .inl (by unfold kd; rw [if_neg h1, if_neg h2, hr])
      | some r =>
        obtain ⟨a, b, c⟩ := rowIn_some _ hr
        exact .inr (.inr (.inr ⟨h1, h2, r, a, b, c, by unfold kd; rw [if_neg h1, if_neg h2, hr]⟩))
def isDig (p : Int) : Prop := (48 ≤ p ∧ p ≤ 57) ∨ (592 ≤ p ∧ p ≤ 601) ∨ (848 ≤ p ∧ p ≤ 857) ∨ (1104 ≤ p ∧ p ≤ 1113) ∨ (1360 ≤ p ∧ p ≤ 1369) ∨ (1616 ≤ p ∧ p ≤ 1625) ∨ (10016 ≤ p ∧ p ≤ 10025)
/-- Which points are digits. -/
theorem kd_digit (p : Int) : (kd p).1 = 8 ↔ isDig p := by
  constructor
  · intro h
    rcases kd_cases p with e | ⟨a, b, r, hr, c, d, e⟩ | ⟨a, b, e | e⟩ | ⟨a, b, r, hr, c, d, e⟩
    · rw [e] at h; cases h
    · rw [e] at h
      have key : ∀ r ∈ kdCased, r.f2 = 8 → r.f0 = 80 ∧ r.f1 = 89 := by decide
      obtain ⟨k1, k2⟩ := key r hr h
      unfold isDig
      omega
    · rw [e] at h; cases h
    · rw [e] at h; cases h
    · rw [e] at h
      have key : ∀ r ∈ kdLow ++ kdHi, r.f2 = 8 → (r.f0 = 48 ∧ r.f1 = 57) ∨ (r.f0 = 1360 ∧ r.f1 = 1369) ∨ (r.f0 = 1616 ∧ r.f1 = 1625) ∨ (r.f0 = 10016 ∧ r.f1 = 10025) := by decide
      have := key r hr h
      unfold isDig
      omega
  · intro h
    have hc : 512 ≤ p → p < 1280 → 80 ≤ p % 256 → p % 256 ≤ 89 → (kd p).1 = 8 := fun a b c d => by
      rw [kd_case ⟨a, b⟩ (kdCased.take 5) ⟨80, 89, 8, 0⟩ (kdCased.drop 6) rfl (by decide) c d]
    have hl : ¬ (512 ≤ p ∧ p < 1280) → ¬ (8192 ≤ p ∧ p < 9728) → ((48 ≤ p ∧ p ≤ 57) ∨ (1360 ≤ p ∧ p ≤ 1369) ∨ (1616 ≤ p ∧ p ≤ 1625) ∨ (10016 ≤ p ∧ p ≤ 10025)) → (kd p).1 = 8 := fun a b c => by
      rcases c with ⟨c, d⟩ | ⟨c, d⟩ | ⟨c, d⟩ | ⟨c, d⟩
      · rw [kd_row a b ((kdLow ++ kdHi).take 2) ⟨48, 57, 8, 0⟩ ((kdLow ++ kdHi).drop 3) rfl (by decide) c d]
      · rw [kd_row a b ((kdLow ++ kdHi).take 11) ⟨1360, 1369, 8, 5⟩ ((kdLow ++ kdHi).drop 12) rfl (by decide) c d]
      · rw [kd_row a b ((kdLow ++ kdHi).take 15) ⟨1616, 1625, 8, 6⟩ ((kdLow ++ kdHi).drop 16) rfl (by decide) c d]
      · rw [kd_row a b ((kdLow ++ kdHi).take 28) ⟨10016, 10025, 8, 0⟩ ((kdLow ++ kdHi).drop 29) rfl (by decide) c d]
    unfold isDig at h
    rcases h with h | h | h | h | h | h | h
    · exact hl (by omega) (by omega) (.inl h)
    · exact hc (by omega) (by omega) (by omega) (by omega)
    · exact hc (by omega) (by omega) (by omega) (by omega)
    · exact hc (by omega) (by omega) (by omega) (by omega)
    · exact hl (by omega) (by omega) (.inr (.inl h))
    · exact hl (by omega) (by omega) (.inr (.inr (.inl h)))
    · exact hl (by omega) (by omega) (.inr (.inr (.inr h)))
end Go.Proofs.YtbppeepihlajoaaDoor.P
namespace Go.Proofs.YtbppeepihlajoaaDoor.P
open Go.RowKit Go.Proofs.YtbppeepihlajoaaDoorW.PrintWords
set_option linter.unusedVariables false
/-- A digit's system, by the reference. -/
def sys11 (p : Int) : Int := if p < 512 then 0 else if p < 1792 then p / 256 - 1 else 6
theorem sys11_f (p : Int) (h0 : 0 ≤ p) : spec_l11System.f p = some (sys11 p) := by
  unfold spec_l11System.f sys11
  by_cases h1 : p < 512
  · rw [if_pos h1, if_pos h1]
  · rw [if_neg h1, if_neg h1]
    by_cases h2 : p < 1792
    · rw [if_pos h2, if_pos h2, Int.tdiv_eq_ediv_of_nonneg h0, w64 (x := p / 256) (by omega) (by omega), w64 (by omega) (by omega)]
    · rw [if_neg h2, if_neg h2]
theorem sysIn_digit (p : Int) (h : (kd p).1 = 8) : 0 ≤ (sysIn p 0 rowsL).2 ∧ (sysIn p 0 rowsL).1 = sys11 p ∧ 0 ≤ sys11 p := by
  have hd := (kd_digit p).1 h
  simp only [rowsL, sysIn]
  unfold isDig at hd
  have e1 : ((48 : Int) ≤ p ∧ p ≤ 48 + 9) ∨ ¬ ((48 : Int) ≤ p ∧ p ≤ 48 + 9) := Decidable.em _
  unfold sys11
  rcases hd with h | h | h | h | h | h | h
  · rw [if_pos (by omega), if_pos (by omega)]; simp only; omega
  · rw [if_neg (by omega), if_pos (by omega), if_neg (by omega), if_pos (by omega)]; simp only; omega
  · rw [if_neg (by omega), if_neg (by omega), if_pos (by omega), if_neg (by omega), if_pos (by omega)]; simp only; omega
  · rw [if_neg (by omega), if_neg (by omega), if_neg (by omega), if_pos (by omega), if_neg (by omega), if_pos (by omega)]; simp only; omega
  · rw [if_neg (by omega), if_neg (by omega), if_neg (by omega), if_neg (by omega), if_pos (by omega), if_neg (by omega), if_pos (by omega)]; simp only; omega
  · rw [if_neg (by omega), if_neg (by omega), if_neg (by omega), if_neg (by omega), if_neg (by omega), if_pos (by omega), if_neg (by omega), if_pos (by omega)]; simp only; omega
  · rw [if_neg (by omega), if_neg (by omega), if_neg (by omega), if_neg (by omega), if_neg (by omega), if_neg (by omega), if_pos (by omega), if_neg (by omega), if_neg (by omega)]; simp only; omega
theorem sysIn_none (p : Int) (h : ¬ (kd p).1 = 8) : sysIn p 0 rowsL = (-1, -1) := by
  have hd : ¬ isDig p := fun hh => h ((kd_digit p).2 hh)
  simp only [rowsL, sysIn]
  unfold isDig at hd
  rw [if_neg (by omega), if_neg (by omega), if_neg (by omega), if_neg (by omega), if_neg (by omega), if_neg (by omega), if_neg (by omega)]
/-- The systems of the digits of a list. -/
def digsOf : List Int → List Int
  | [] => []
  | p :: r => if (kd p).1 = 8 then sys11 p :: digsOf r else digsOf r
theorem foldS_ge : ∀ (y l : List Int), l.length ≤ (y.foldl insS l).length
  | [], _ => Nat.le_refl _
  | a :: t, l => by
    refine Nat.le_trans ?_ (foldS_ge t (insS l a))
    have : ∀ (l : List Int), l.length ≤ (insS l a).length := by
      intro l
      induction l with
      | nil => simp [insS]
      | cons b r ih =>
        unfold insS
        by_cases h1 : b < a
        · rw [if_pos h1]; simp; exact ih
        · rw [if_neg h1]
          by_cases h2 : b = a
          · rw [if_pos h2]; exact Nat.le_refl _
          · rw [if_neg h2]; simp
    exact this l
theorem iMixed_ev (s : ByteArray) (l : List Int) (hl : l.length ≤ 1000000000) (hp : ∀ p ∈ l, 0 ≤ p) : ∀ (j i : Nat), l.length - i = j → i ≤ l.length → ∀ (x : Int) (y : List Int), (x = -1 ∧ y = []) ∨ (0 ≤ x ∧ y = [x]) →
    Ev (fun k => impl_IsMixed.l0 k s x l (l.length : Int) (i : Int)) (decide ((scripts s).length > 1 ∨ ((digsOf (l.drop i)).foldl insS y).length > 1)) := by
  intro j
  induction j with
  | zero =>
    intro i hj hi x y hy
    rw [List.drop_eq_nil_of_le (by omega)]
    have hyl : y.length ≤ 1 := by rcases hy with ⟨_, rfl⟩ | ⟨_, rfl⟩ <;> simp
    have e : decide ((scripts s).length > 1 ∨ ((digsOf []).foldl insS y).length > 1) = decide (((scripts s).length : Int) > 1) := by
      rw [decide_eq_decide]
      show ((scripts s).length > 1 ∨ y.length > 1) ↔ _
      omega
    rw [e]
    exact Ev.step (fun k => by rw [impl_IsMixed.l0]) (Ev.neg (by omega) (Ev.bind (iScripts_ev s) (Ev.now _)))
  | succ j ih =>
    intro i hj hi x y hy
    have hlt : i < l.length := by omega
    have hq := hp l[i] (List.getElem_mem hlt)
    have IH := ih (i + 1) (by omega) (by omega)
    rw [List.drop_eq_getElem_cons hlt]
    refine Ev.step (fun k => by rw [impl_IsMixed.l0, rd_lt l i hlt, w_succ i (by omega)]) (Ev.pos (by omega) (Ev.pos (by omega) (Ev.pos (by omega) (Ev.bind (Ev.done (show impl_systemOf.f l[i] = some (sysIn l[i] 0 rowsL) from rfl)) ?_))))
    unfold digsOf
    by_cases hd : (kd l[i]).1 = 8
    · obtain ⟨d1, d2, d3⟩ := sysIn_digit l[i] hd
      rw [if_pos hd, List.foldl_cons, d2]
      refine Ev.neg (by omega) ?_
      rcases hy with ⟨hx, rfl⟩ | ⟨hx, rfl⟩
      · refine Ev.neg (by omega) ?_
        exact IH (sys11 l[i]) (insS [] (sys11 l[i])) (.inr ⟨d3, rfl⟩)
      · refine Ev.pos hx ?_
        by_cases he : sys11 l[i] = x
        · refine Ev.pos he ?_
          have e : insS [x] (sys11 l[i]) = [sys11 l[i]] := by rw [he]; unfold insS; rw [if_neg (by omega), if_pos rfl]
          rw [e]
          exact IH (sys11 l[i]) [sys11 l[i]] (.inr ⟨d3, rfl⟩)
        · refine Ev.neg he (Ev.to (Ev.now _) ?_)
          symm
          refine decide_eq_true (.inr ?_)
          have e : (insS [x] (sys11 l[i])).length = 2 := by
            unfold insS
            by_cases h1 : x < sys11 l[i]
            · rw [if_pos h1]; simp [insS]
            · rw [if_neg h1, if_neg (fun h => he h.symm)]; rfl
          have := foldS_ge (digsOf (l.drop (i + 1))) (insS [x] (sys11 l[i]))
          omega
    · rw [if_neg hd, sysIn_none _ hd]
      exact Ev.pos (by omega) (IH x y hy)
theorem sMixed_ev (s : ByteArray) (l : List Int) (hs : (scrOf l).foldl insS [] = scripts s) (hl : l.length ≤ 1000000000) (hp : ∀ p ∈ l, 0 ≤ p ∧ p < 1000000000) : ∀ (j i : Nat), l.length - i = j → i ≤ l.length → ∀ (y : List Int), y.length ≤ i →
    Ev (fun k => spec_l19Mixed.l0 k l y (i : Int)) (decide ((scripts s).length > 1 ∨ ((digsOf (l.drop i)).foldl insS y).length > 1)) := by
  intro j
  induction j with
  | zero =>
    intro i hj hi y hy
    rw [List.drop_eq_nil_of_le (by omega)]
    have hsc : Ev (fun k => spec_l19Scripts.f k l) (scripts s) := by
      have h := scripts_ev l hl hp _ 0 rfl (by omega) [] (by simp)
      rw [List.drop_zero, hs] at h
      exact h
    refine Ev.step (fun k => by rw [spec_l19Mixed.l0]) (Ev.neg (by omega) (Ev.bind hsc ?_))
    by_cases h1 : ((scripts s).length : Int) > 1
    · refine Ev.pos h1 (Ev.to (Ev.now _) ?_)
      symm
      exact decide_eq_true (.inl (by omega))
    · refine Ev.neg h1 (Ev.to (Ev.now _) ?_)
      rw [decide_eq_decide]
      show _ ↔ ((scripts s).length > 1 ∨ y.length > 1)
      omega
  | succ j ih =>
    intro i hj hi y hy
    have hlt : i < l.length := by omega
    have hq := hp l[i] (List.getElem_mem hlt)
    have IH := ih (i + 1) (by omega) (by omega)
    rw [List.drop_eq_getElem_cons hlt]
    refine Ev.step (fun k => by rw [spec_l19Mixed.l0, rd_lt l i hlt, w_succ i (by omega)]) (Ev.pos (by omega) (Ev.pos (by omega) (Ev.bind (sCat_ev l[i] hq.1 hq.2) ?_)))
    unfold digsOf
    by_cases hd : (kd l[i]).1 = 8
    · rw [if_pos hd, List.foldl_cons]
      refine Ev.pos hd (Ev.bind (Ev.done (sys11_f l[i] hq.1)) (Ev.bind (put_f y _ (by omega)) ?_))
      exact IH _ (by have := insS_len (sys11 l[i]) y; omega)
    · rw [if_neg hd]
      exact Ev.neg hd (IH y (by omega))
/-- Is a text mixed? -/
def mixed (s : ByteArray) : Bool := if s.size > 65536 then false else decide ((scripts s).length > 1 ∨ ((digsOf (pts s)).foldl insS []).length > 1)
theorem iMixed_f (s : ByteArray) : Ev (fun k => impl_IsMixed.f k s) (mixed s) := by
  unfold impl_IsMixed.f mixed
  refine Ev.bind (Ev.done (show impl_long.f s = some (decide ((s.size : Int) > 65536)) from rfl)) ?_
  by_cases h : s.size > 65536
  · rw [decide_eq_true (show (s.size : Int) > 65536 by omega), if_pos h]
    exact Ev.pos rfl (Ev.now _)
  · rw [decide_eq_false (show ¬ (s.size : Int) > 65536 by omega), if_neg h]
    have h3 : (pts s).length ≤ s.size - 0 := pts_len s 0
    refine Ev.neg (by simp) (Ev.bind (points_f s (by omega)) ?_)
    have := iMixed_ev s (pts s) (by omega) (fun p hp => (pts_range s 0 p hp).1) _ 0 rfl (by omega) (-1) [] (.inl ⟨rfl, rfl⟩)
    rw [List.drop_zero] at this
    exact this
theorem sMixed_f (s : ByteArray) : Ev (fun k => spec_IsMixed.f k s) (mixed s) := by
  unfold spec_IsMixed.f mixed
  by_cases h : s.size > 65536
  · rw [if_pos h]
    exact Ev.neg (by omega) (Ev.now _)
  · rw [if_neg h]
    have h3 : (pts s).length ≤ s.size - 0 := pts_len s 0
    refine Ev.pos (by omega) (Ev.bind (spoints_f s (by omega)) (Ev.bind ?_ (Ev.now _)))
    have := sMixed_ev s (pts s) (by unfold scripts; rw [if_neg h]) (by omega) (fun p hp => ⟨(pts_range s 0 p hp).1, by have := (pts_range s 0 p hp).2.1; omega⟩) _ 0 rfl (by omega) [] (by simp)
    rw [List.drop_zero] at this
    exact this
theorem law_IsMixed (s : ByteArray) : ∃ k, laws_FnExactIsMixed.f k s = some true := by
  apply Ev.rounds
  unfold laws_FnExactIsMixed.f
  by_cases h : (s.size : Int) > 1048576
  · exact Ev.pos h (Ev.now _)
  · refine Ev.neg h (Ev.bind (sMixed_f s) (Ev.bind (iMixed_f s) ?_))
    rw [bne_self_eq_false]
    exact Ev.neg (by simp) (Ev.now _)
end Go.Proofs.YtbppeepihlajoaaDoor.P
namespace Go.Proofs.YtbppeepihlajoaaDoor.P
open Go.ChangeShapes Go.WideShapes Go.ChangeAt Go.RowKit Go.Deep Go.Proofs.YtbppeepihlajoaaDoorW.PrintWords
set_option linter.unusedVariables false
theorem own : ownKnob Tryd.prog.godebug = none := by kernel_rfl
theorem laidOut : laidOutB Tryd.prog = true := by kernel_rfl
theorem xU8 : U8Extra Tryd.prog Tryd.lays196_ren := ⟨by kernel_rfl, by kernel_rfl, by kernel_rfl, by kernel_rfl, by kernel_rfl, by kernel_rfl, by kernel_rfl⟩
theorem accept_eq : (Rows.laid_unicode_utf8_acceptRanges : DataW Unit) = Lib.acceptData := by kernel_rfl
theorem tabs_of_reads {W : World} (h1 : Lib.VarReads Tryd.prog W "unicode/utf8.acceptRanges" Rows.laid_unicode_utf8_acceptRanges) (h2 : Lib.VarReads Tryd.prog W "unicode/utf8.first" Rows.laid_unicode_utf8_first) : Lib.Utf8Tabs 1 2 W :=
  utf8Tabs_of_readsT (U8Types.of196 Tryd.lays196) xU8 (Pinned.utf8First_eq ▸ h2) (accept_eq ▸ h1)
section
variable {H : Type} {enc : TypeId × Value → H} {w : World} {base : Nat} {spare : Nat → Bool} {held : Bool}
/-- A struct of one-cell fields, by value: each field's cell with its own reading. -/
theorem open_fields {P : Program} {r : Reach} {b0 : Nat} {t : TypeId} {fs : Array Field} {v : Value} {d : DataW H} {p : List MemPlace} (hs : P.underlying t = some (.struct fs)) (hone : oneCellFields P fs = true) (hC : P.cellsOf t = fs.size)
    (hv : Value.okWide P w r b0 t v) (h : DataW.Trod enc P w base spare held t v d p) :
    ∃ (cs : Array Value) (n : Nat), v = .agg cs ∧ cs.size = fs.size ∧ ∀ (j : Nat) (f : Field), fs[j]? = some f → ∃ c y, cs[j]? = some c ∧ DataW.trod enc P w base spare held n f.type [c] = some y := by
  obtain ⟨cs, rfl, hsz⟩ := okWide_struct hs hv
  obtain ⟨fuel, hf⟩ := h
  obtain ⟨xs, n, _, hx, _, hlen, hg⟩ := DataW.trod_struct hs hf
  refine ⟨cs, n, rfl, hsz.trans hC, fun j f hj => ?_⟩
  obtain ⟨o, k⟩ := hone_of hone j f hj
  have hjl : j < fs.size := (Array.getElem?_eq_some_iff.1 hj).1
  have h1 := hg j f hj
  rw [o, k] at h1
  have hjc : j < cs.toList.length := by rw [Array.length_toList]; omega
  have e1 : ((Value.agg cs).cells.toList.drop j).take 1 = [cs.toList[j]] := by
    show (cs.toList.drop j).take 1 = _
    rw [List.drop_eq_getElem_cons hjc]
    rfl
  rw [e1] at h1
  have hxl : j < xs.length := by omega
  exact ⟨cs.toList[j], xs[j], by rw [← Array.getElem?_toList, List.getElem?_eq_getElem hjc], h1.trans (List.getElem?_eq_getElem hxl)⟩
/-- A list of texts that came in. -/
theorem open_texts {P : Program} {t e : TypeId} {fuel : Nat} {c : Value} {y : DataW H × List MemPlace} (ht : P.underlying t = some (.slice e)) (he : P.underlying e = some .string) (hc : P.cellsOf e = 1)
    (h : DataW.trod enc P w base spare held fuel t [c] = some y) : ∃ A cap l, c = .slice A l.length cap ∧ Kd.C Kd.string w A l.length l ∧ l.length ≤ cap ∧ l.length ≤ 9223372036854775807 ∧ ∀ s ∈ l, s.size ≤ 9223372036854775807 := by
  rcases open_strings ht he hc h with ⟨hcs, _⟩ | ⟨a, len, cap, ss, hcs, _, hl, hm, hz, _, hcell, hsz⟩
  · simp only [List.cons.injEq, and_true] at hcs
    exact ⟨none, 0, [], hcs, Kd.C_nil _ _, Nat.le_refl _, by simp, by simp⟩
  · simp only [List.cons.injEq, and_true] at hcs
    have hlen : len ≤ ss.length := by rw [hz]; split <;> omega
    have e1 : (ss.take len).length = len := by rw [List.length_take]; omega
    refine ⟨some a, cap, ss.take len, by rw [e1]; exact hcs, ?_, by omega, by unfold maxLen at hm; omega, fun s hs => hsz s (List.mem_of_mem_take hs)⟩
    refine Kd.C_of_reads (d := ByteArray.empty) ⟨rfl, by unfold maxLen at hm; omega, fun h0 => ⟨a, rfl, fun j hj => ?_⟩⟩
    rw [e1] at hj
    rw [hcell j (by omega), List.getD_eq_getElem?_getD, List.getD_eq_getElem?_getD, List.getElem?_take_of_lt hj]
end
end Go.Proofs.YtbppeepihlajoaaDoor.P
namespace Go.Proofs.YtbppeepihlajoaaDoor.P
open Go.ChangeShapes Go.WideShapes Go.ChangeAt Go.RowKit Go.Deep Go.Proofs.YtbppeepihlajoaaDoorW.PrintWords
theorem digit_of_reads {W : World} (h : Lib.VarReads Tryd.prog W "loop.example/g00044/impl.digitRows" Rows.laid_loop_example_g00044_impl_digitRows) : DigitRows W := by
  obtain ⟨g, t, cs, fuel, p, h1, h2, h3, h4⟩ := h
  obtain rfl := Option.some.inj ((show Tryd.prog.globalNamed "loop.example/g00044/impl.digitRows" = some 0 by kernel_rfl).symm.trans h1)
  obtain rfl := Option.some.inj ((show (Tryd.prog.globals[0]?).map (·.type) = some 67 by kernel_rfl).symm.trans h2)
  have hv := World.var?_cell h1 h3 0
  rcases open_ints Tryd.underlying67 Tryd.underlying2 (by kernel_rfl) h4 with ⟨_, hx⟩ | ⟨a, len, cap, zs, hcs, _, hl, _, hz, hx, hc, _⟩
  · cases hx
  have hx1 := congrArg Prod.fst hx
  simp only [Rows.laid_loop_example_g00044_impl_digitRows, DataW.slice.injEq] at hx1
  obtain ⟨e1, e2⟩ := hx1
  have hlen : (zs.take len).length = 7 := by
    have := congrArg List.length e1
    simpa [lits] using this.symm
  have hzl : zs.length = cap := by simpa using hz
  have hl7 : len = 7 := by rw [List.length_take] at hlen; omega
  subst hl7
  have ez : zs.take 7 = rowsL := by
    have e3 : lits .i64 (zs.take 7) = lits (H := Unit) .i64 rowsL := e1.symm
    have inj : ∀ a b : List Int, lits (H := Unit) .i64 a = lits .i64 b → a = b := by
      intro a
      induction a with
      | nil => intro b h; cases b with
        | nil => rfl
        | cons y b => simp [lits] at h
      | cons x a ih => intro b h; cases b with
        | nil => simp [lits] at h
        | cons y b =>
          simp only [lits, List.map_cons, List.cons.injEq] at h
          obtain ⟨h5, h6⟩ := h
          injection h5 with h5
          injection h5 with _ h5
          rw [h5, ih b h6]
    exact inj _ _ e3
  refine ⟨a, cap, hl, ?_, fun i hi => ?_⟩
  · rw [hv]
    have : cs = #[.slice (some a) 7 cap] := by
      cases cs with
      | mk l => simp only at hcs; rw [hcs]
    rw [this]
    rfl
  · rw [hc i (by omega)]
    congr 2
    rw [← ez, List.getD_eq_getElem?_getD, List.getD_eq_getElem?_getD, List.getElem?_take_of_lt hi]
end Go.Proofs.YtbppeepihlajoaaDoor.P
namespace Go.Proofs.YtbppeepihlajoaaDoor.fnExactIsMixed
open Go.ChangeShapes Go.WideShapes Go.ChangeAt Go.RowKit Go.Deep Go.Proofs.YtbppeepihlajoaaDoorW.PrintWords Go.Proofs.YtbppeepihlajoaaDoor.P
open Go.ChangeMaps (open_string shut_string)
set_option linter.unusedVariables false
set_option maxRecDepth 100000 in
theorem lifted (os : Os) (started : os.Started) (H : Type) (enc : TypeId × Value → H) :
    ReturnsInHanded {} Tryd.checked os 4 .any (fun w args => (Rows.fnExactIsMixedSpec.pre enc Tryd.prog Tryd.f4 [] false w args ∧ laidMetH Tryd.prog Rows.fnExactIsMixedRow.laid w) ∧ sizedMet enc Tryd.prog Tryd.f4 (OpenSpec.ofChange Rows.fnExactIsMixedSpec) false w args)
      (Rows.fnExactIsMixedSpec.post enc Tryd.prog Tryd.f4 false true false false) := by
  refine returnsInHanded_of_change_and (C := Tryd.checked) (X := fun w _ => laidMetH Tryd.prog Rows.fnExactIsMixedRow.laid w) (fun _ _ _ hh h => h.of_heap hh) own started (by kernel_rfl) Tryd.func4
    (ChangeSpec.witness_shaped (enc := enc) (C := Tryd.checked) (os := os) (X := fun w _ => laidMetH Tryd.prog Rows.fnExactIsMixedRow.laid w) false (World.laidAll Tryd.prog os Rows.fnExactIsMixedRow.laid) #[.string ⟨#[]⟩] 8 (World.laidAll_os _ _ _)
      (World.shaped_of_ZipB (by kernel_rfl) (by kernel_rfl)) (by kernel_rfl) (by kernel_rfl) (by kernel_rfl)
      (by rw [MakeChecks.laidMetH_plain _ _ _ (by kernel_rfl)]; exact laidMet_laidAll _ (by kernel_rfl) (by kernel_rfl))) ?_
  intro W base args ds gs before hval0 hW _ _ hL _
  have hval : ∀ (j : Nat) t v, Tryd.f4.params[j]? = some t → args[j]? = some v → Value.okWide Tryd.prog W .any base t v := hval0
  have hW' := hW
  obtain ⟨p, q, hA0, hV, rfl, _, _⟩ := hW
  have hA : DataW.TrodAll enc Tryd.prog W 0 (fun _ => true) true Tryd.f4.params.toList args.toList ds p := hA0
  rw [Tryd.params4] at hA hval
  obtain ⟨v0, d0, rfl, rfl, h0⟩ := trodAll_one hA
  have hV1 : DataW.TrodVars enc Tryd.prog W (fun _ => true) ["loop.example/g00044/impl.digitRows"] gs q := hV
  obtain ⟨_, _, _, _, dg, _, rfl, _, _, _, _, _⟩ := trodVars_one hV1
  rw [MakeChecks.laidMetH_plain _ _ _ (by kernel_rfl)] at hL
  have hG : GT W := ⟨tabs_of_reads (Lib.laidMet.reads hL (.head _)) (Lib.laidMet.reads hL (.tail _ (.tail _ (.head _)))), digit_of_reads (Lib.laidMet.reads hL (.tail _ (.head _)))⟩
  obtain ⟨a0, rfl, rfl, rfl, y0⟩ := open_string Tryd.underlying9 (hval 0 9 v0 rfl rfl) h0
  obtain ⟨k, hk⟩ := law_IsMixed a0
  refine (laws_FnExactIsMixed.calls k a0 true W hG hk).mono fun e W' ⟨he, hb⟩ => ?_
  subst he
  exact ⟨_, rfl, _, _, _, [], _, _, hW', trodAll_mk1 (shut_bool Tryd.underlying4 _), trodAll_mk1 (shut_string Tryd.underlying9 y0), Below.trodVars laidOut hb (by kernel_rfl) hV1, hb.frame _, fun h => by cases h⟩
theorem said : Rows.FnExactIsMixedSaid :=
  OpenClaim.holds_of_wide 4 Tryd.f4 rfl rfl rfl rfl rfl rfl rfl ⟨rfl, rfl, rfl, rfl, rfl⟩ rfl rfl rfl rfl rfl (by kernel_rfl) Tryd.func4 (by kernel_rfl)
    (of_decide_eq_true (by kernel_rfl)) (by unfold Func.isWrapper; first | (rw [if_pos (by decide +kernel)]; kernel_rfl) | (rw [if_neg (by decide +kernel)]; exact ⟨rfl, rfl⟩))
    (fun os started H enc _ => lifted os started H enc)
theorem plain (f : FuncId) (fn : Func) (hf : Tryd.pinned.checked.prog.funcNamed Rows.fnExactIsMixedRow.func = some f) (hfn : Tryd.pinned.checked.prog.funcs[f]? = some fn) :
    false = Tryd.pinned.checked.prog.looks [] ∧ ∀ (j : Nat) t, fn.params[j]? = some t → Tryd.pinned.checked.prog.wantsStandIn t = false := by
  obtain rfl : f = 4 := Option.some.inj ((show Tryd.prog.funcNamed Rows.fnExactIsMixedRow.func = some 4 by kernel_rfl).symm.trans hf) |>.symm
  obtain rfl : fn = Tryd.f4 := (Option.some.inj (Tryd.func4.symm.trans hfn)).symm
  refine ⟨by kernel_rfl, fun j t ht => ?_⟩
  rw [Tryd.params4] at ht
  obtain rfl : t = 9 := by simpa using Array.mem_of_getElem? ht
  exact (show Tryd.prog.wantsStandIn 9 = false by kernel_rfl)
theorem card : Rows.FnExactIsMixedCardSaid :=
  Claim7.holds_tied_plain_at .later [] _ _ _ _ said (fun _ h => by cases h) (by kernel_rfl) (fun _ h => by cases h) fnExactIsMixed_row_tie rfl ⟨rfl, rfl⟩ (by kernel_rfl) rfl plain (by kernel_rfl)
#print axioms card
end Go.Proofs.YtbppeepihlajoaaDoor.fnExactIsMixed
