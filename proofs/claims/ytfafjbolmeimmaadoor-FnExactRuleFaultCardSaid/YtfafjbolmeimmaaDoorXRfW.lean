/- impl's readWhen: Split by '|' and '&', test by test. -/
import Derived.Test.YtfafjbolmeimmaaDoorXRfT
import Derived.Test.YtfafjbolmeimmaaDoorXRuS
namespace Go.Proofs.YtfafjbolmeimmaaDoor.P
open Go.RowKit Go.Proofs.YtfafjbolmeimmaaDoorW.PrintWords Go.Proofs.YtfafjbolmeimmaaDoorW.PrintLast Go.Proofs.YtfafjbolmeimmaaDoorW.PrintMore
set_option linter.unusedVariables false
set_option linter.unusedSimpArgs false
theorem sp_count (b : UInt8) : ∀ (n : Nat) (s : List UInt8), s.length ≤ n → (Lib.splitK [b] 0 (Lib.count s [b]) s).length = Lib.count s [b] + 1 := by
  intro n
  induction n with
  | zero =>
    intro s hs
    obtain rfl : s = [] := List.eq_nil_of_length_eq_zero (by omega)
    have h2 : Lib.index [] [b] = -1 := rfl
    rw [Lib.count_miss h2]
    rfl
  | succ n ih =>
    intro s hs
    by_cases h2 : Lib.index s [b] = -1
    · rw [Lib.count_miss h2]
      rfl
    · have hg := Lib.index_ge s [b]
      obtain ⟨i, hii⟩ : ∃ i : Nat, Lib.index s [b] = i := ⟨(Lib.index s [b]).toNat, by omega⟩
      rw [Lib.count_hit (i := i) (by simp) hii, Nat.add_comm]
      rw [show Lib.splitK [b] 0 (Lib.count (List.drop (i + [b].length) s) [b] + 1) s = if Lib.index s [b] == -1 then [s] else s.take ((Lib.index s [b]).toNat + 0) :: Lib.splitK [b] 0 (Lib.count (List.drop (i + [b].length) s) [b]) (s.drop ((Lib.index s [b]).toNat + [b].length)) from rfl]
      rw [if_neg (by rw [hii]; simp), hii, Int.toNat_natCast, List.length_cons]
      by_cases he : s = []
      · subst he; exact absurd rfl h2
      · have : 0 < s.length := List.length_pos_iff.2 he
        rw [ih _ (by rw [List.length_drop]; simp; omega)]
theorem sp_len (b : UInt8) (l : List UInt8) : (sp b l).length = Lib.count l [b] + 1 := by rw [← split_one]; exact sp_count b l.length l (Nat.le_refl _)
theorem sp_le (b : UInt8) (l : List UInt8) : (sp b l).length ≤ l.length + 1 ∧ ∀ q ∈ sp b l, q.length ≤ l.length := by
  induction l with
  | nil => exact ⟨Nat.le_refl _, fun q h => by rw [show sp b [] = [[]] from rfl] at h; rw [List.mem_singleton.1 h]; exact Nat.le_refl _⟩
  | cons c r ih =>
    show (if c = b then [] :: sp b r else consHead c (sp b r)).length ≤ _ ∧ ∀ q ∈ (if c = b then [] :: sp b r else consHead c (sp b r)), _
    obtain ⟨h, t, e⟩ := sp_ne b r
    rw [e] at ih ⊢
    rw [List.length_cons] at ih ⊢
    split
    · refine ⟨by simp only [List.length_cons]; omega, fun q hq => ?_⟩
      rcases List.mem_cons.1 hq with rfl | hq
      · simp
      · have := ih.2 q hq; omega
    · refine ⟨by show (consHead c (h :: t)).length ≤ _; unfold consHead; simp only [List.length_cons]; omega, fun q hq => ?_⟩
      rcases List.mem_cons.1 (show q ∈ (c :: h) :: t from hq) with rfl | hq
      · have := ih.2 h (List.mem_cons_self ..); rw [List.length_cons]; omega
      · have := ih.2 q (List.mem_cons_of_mem _ hq); omega
/-- strings.Split at one byte: the pieces in a new block. -/
theorem split_calls (b : UInt8) (l : List UInt8) (hl : l.length ≤ 1000) (w : World) (hG : GT w) :
    Calls Tryd.prog 49 #[.string (bs l), .string ⟨([b] : List UInt8).toArray⟩] w fun e w' => e = .returned (.slice (some ⟨w.heap.size, 0, none⟩) (sp b l).length (sp b l).length) ∧ w' = w.alloc (.cells ((sp b l).map (fun q => Value.string (bs q))).toArray 9 (0, 0)) := by
  obtain ⟨_, _, _, m, hm⟩ := hG
  refine (Tryd.strings_Split (bs l) ⟨([b] : List UInt8).toArray⟩ m w (by rw [bs_size]; omega) hm (Nat.le_refl _)).mono ?_
  rintro e w' ⟨rfl, rfl⟩
  have e1 : Lib.countB (bs l) ⟨([b] : List UInt8).toArray⟩ = Lib.count l [b] := rfl
  have e2 : (Lib.splitB ⟨([b] : List UInt8).toArray⟩ 0 (Lib.countB (bs l) ⟨([b] : List UInt8).toArray⟩) (bs l)).map Value.string = (sp b l).map (fun q => Value.string (bs q)) := by
    have e3 := Lib.splitB_data ⟨([b] : List UInt8).toArray⟩ 0 (Lib.countB (bs l) ⟨([b] : List UInt8).toArray⟩) (bs l)
    have e4 : sp b l = (Lib.splitB ⟨([b] : List UInt8).toArray⟩ 0 (Lib.countB (bs l) ⟨([b] : List UInt8).toArray⟩) (bs l)).map (·.data.toList) := by rw [e3, ← split_one]; rfl
    rw [e4, List.map_map]
    rfl
  rw [e2, e1, ← sp_len]
  exact ⟨rfl, rfl⟩
def mapO {α β : Type} (f : α → Option β) : List α → Option (List β)
  | [] => some []
  | x :: xs => match f x, mapO f xs with | some y, some ys => some (y :: ys) | _, _ => none
theorem mapO_snoc {α β : Type} {f : α → Option β} {xs : List α} {x : α} {ys : List β} {y : β} (h : mapO f xs = some ys) (hx : f x = some y) : mapO f (xs ++ [x]) = some (ys ++ [y]) := by
  induction xs generalizing ys with
  | nil => cases h; show (match f x, some [] with | some y, some ys => some (y :: ys) | _, _ => none) = _; rw [hx]; rfl
  | cons a xs ih =>
    show (match f a, mapO f (xs ++ [x]) with | some y, some ys => some (y :: ys) | _, _ => none) = _
    have h' : (match f a, mapO f xs with | some y, some ys => some (y :: ys) | _, _ => none) = some ys := h
    cases ha : f a with
    | none => rw [ha] at h'; cases h'
    | some b =>
      cases hm : mapO f xs with
      | none => rw [ha, hm] at h'; cases h'
      | some zs =>
        rw [ha, hm] at h'
        cases h'
        rw [ih hm]
        rfl
theorem mapO_none {α β : Type} {f : α → Option β} {xs : List α} {x : α} (h : x ∈ xs) (hx : f x = none) : mapO f xs = none := by
  induction xs with
  | nil => cases h
  | cons a xs ih =>
    show (match f a, mapO f xs with | some y, some ys => some (y :: ys) | _, _ => none) = _
    rcases List.mem_cons.1 h with rfl | h
    · rw [hx]
    · rw [ih h]
      cases f a <;> rfl
theorem mapO_some {α β : Type} (f : α → Option β) (xs : List α) : (mapO f xs).isSome = xs.all (fun x => (f x).isSome) := by
  induction xs with
  | nil => rfl
  | cons a xs ih =>
    show (match f a, mapO f xs with | some y, some ys => some (y :: ys) | _, _ => none).isSome = ((f a).isSome && xs.all (fun x => (f x).isSome))
    rw [← ih]
    cases f a with
    | none => rfl
    | some b => cases mapO f xs <;> rfl
def rowI (r : List UInt8) : Option (List TI) := mapO tI (sp 38 r)
def whenI (l : List UInt8) : Option (List (List TI)) := if 200 < l.length then none else mapO rowI (sp 124 l)
theorem when_rule (l : List UInt8) (h : l.length ≤ 200) : (whenI l).isSome = pRule l := by
  unfold whenI
  rw [if_neg (by omega), mapO_some, rule_split, split_one]
  congr 1
  funext row
  show (mapO tI (sp 38 row)).isSome = _
  rw [mapO_some, split_one]
  congr 1
  funext x
  exact tI_ok x
/-- A test's cells. -/
def dT : Kd TI := Kd.pair (Kd.int .u8) (Kd.pair (Kd.int .i64) (Kd.pair Kd.bool (Kd.pair (Kd.int .i64) (Kd.int .i64))))
def dTs : Kd (List TI) := Kd.slice 93 dT
def WhenOut (l : List UInt8) (w : World) (e : Ending) (w' : World) : Prop := ∃ v : Value, e = .returned (.tuple #[v, .bool (whenI l).isSome]) ∧ dTs.R 91 w' w.heap.size (fun _ => True) v ((whenI l).getD []) ∧ Below w.heap.size w w'
theorem WhenOut.no {l : List UInt8} {w w' : World} {e : Ending} (h : whenI l = none) (hb : Below w.heap.size w w') (he : e = .returned (.tuple #[.slice none 0 0, .bool false]) := by rfl) : WhenOut l w e w' := ⟨.slice none 0 0, by rw [h]; exact he, by rw [h]; exact Kd.R_nil _ _ _ _ _, hb⟩
theorem WhenOut.yes {l : List UInt8} {w w' : World} {e : Ending} {v : Value} {q : List (List TI)} (h : whenI l = some q) (hr : dTs.R 91 w' w.heap.size (fun _ => True) v q) (hb : Below w.heap.size w w') (he : e = .returned (.tuple #[v, .bool true]) := by rfl) : WhenOut l w e w' := ⟨v, by rw [h]; exact he, by rw [h]; exact hr, hb⟩
theorem dT_M (w : World) (base : Nat) (ok : Nat → Prop) (x : TI) : dT.M w base ok x (tvA x).toList := by
  exact ⟨_, _, rfl, rfl, _, _, rfl, rfl, _, _, rfl, rfl, _, _, rfl, rfl, rfl⟩
end Go.Proofs.YtfafjbolmeimmaaDoor.P
