/- Parts of a proof: words of the print tool that this claim uses, or plain lists. -/
import Derived.Test.YtfafjbolmeimmaaGreatDoorAb
import Derived.Test.YtfafjbolmeimmaaGreatDoorXRfT
import Derived.Test.YtfafjbolmeimmaaGreatDoorF12
import Derived.Test.YtfafjbolmeimmaaGreatDoorJ16
import Derived.Test.YtfafjbolmeimmaaGreatDoorF11
import Derived.Test.YtfafjbolmeimmaaGreatDoorJ15
import Derived.Test.YtfafjbolmeimmaaGreatDoorF5
namespace Go.Proofs.YtfafjbolmeimmaaGreatDoor.P
open Go.RowKit Go.Proofs.YtfafjbolmeimmaaGreatDoorW.PrintWords Go.Proofs.YtfafjbolmeimmaaGreatDoorW.PrintLast Go.Proofs.YtfafjbolmeimmaaGreatDoorW.PrintMore
set_option linter.unusedVariables false
set_option linter.unusedSimpArgs false
theorem sp_count (b : UInt8) : ∀ (n : Nat) (s : List UInt8), s.length ≤ n → (Lib.splitK [b] 0 (Lib.count s [b]) s).length = Lib.count s [b] + 1 := by
 intro n
 induction n with
 | zero =>
  intro s hs
  obtain rfl : s = [] := List.eq_nil_of_length_eq_zero yq9
  have h2 : Lib.index [] [b] = -1 := rfl
  rw [Lib.count_miss h2]
  rfl
 | succ n ih =>
  intro s hs
  by_cases h2 : Lib.index s [b] = -1
  ·rw [Lib.count_miss h2]
   rfl
  have hg := Lib.index_ge s [b]
  obtain ⟨i, hii⟩ : ∃ i : Nat, Lib.index s [b] = i := ⟨(Lib.index s [b]).toNat, yq9⟩
  rw [Lib.count_hit (i := i) yq21 hii, Nat.add_comm]
  rw [show Lib.splitK [b] 0 (Lib.count (List.drop (i + [b].length) s) [b] + 1) s = if Lib.index s [b] == -1 then [s] else s.take ((Lib.index s [b]).toNat + 0) :: Lib.splitK [b] 0 (Lib.count (List.drop (i + [b].length) s) [b]) (s.drop ((Lib.index s [b]).toNat + [b].length)) from rfl]
  rw [if_neg (by rw [hii]; simp), hii, Int.toNat_natCast, List.length_cons]
  by_cases he : s = []
  ·subst he; exact absurd rfl h2
  have : 0 < s.length := List.length_pos_iff.2 he
  rw [ih _ (by rw [List.length_drop]; simp; omega)]
theorem sp_len (b : UInt8) (l : List UInt8) : (sp b l).length = Lib.count l [b] + 1 := by rw [← split_one]; exact sp_count b l.length l (Nat.le_refl _)
theorem sp_le (b : UInt8) (l : List UInt8) : (sp b l).length ≤ l.length + 1 ∧ ∀ q ∈ sp b l, q.length ≤ l.length := by
 induction l with
 | nil => exact ⟨Nat.le_refl _, fun q h => by rw [show sp b [] = [[]] from rfl] at h; rw [List.mem_singleton.1 h]; exact Nat.le_refl _⟩
 | cons c r ih =>
  show (if c = b then [] :: sp b r else consHead c (sp b r)).length ≤ _ ∧ ∀ q ∈ (if c = b then [] :: sp b r else consHead c (sp b r)), _
  obtain ⟨h, t, e⟩ := sp_ne b r
  rw [e] at ih ⊢
  rw [List.length_cons] at ih ⊢
  split
  ·refine ⟨by simp only [List.length_cons]; omega, fun q hq => ?_⟩
   rcases List.mem_cons.1 hq with rfl | hq
   ·simp
   have := ih.2 q hq; omega
  refine ⟨by show (consHead c (h :: t)).length ≤ _; unfold consHead; simp only [List.length_cons]; omega, fun q hq => ?_⟩
  rcases List.mem_cons.1 (show q ∈ (c :: h) :: t from hq) with rfl | hq
  ·have := ih.2 h (List.mem_cons_self ..); rw [List.length_cons]; omega
  have := ih.2 q (List.mem_cons_of_mem _ hq); omega
theorem split_calls (b : UInt8) (l : List UInt8) (hl : l.length ≤ 1000) (w : World) (hG : GT w) :
  Calls Tryz.prog 106 #[.string (bs l), .string ⟨([b] : List UInt8).toArray⟩] w fun e w' => e = .returned (.slice (some ⟨w.heap.size, 0, none⟩) (sp b l).length (sp b l).length) ∧ w' = w.alloc (.cells ((sp b l).map (fun q => Value.string (bs q))).toArray 9 (0, 0)) := by
 obtain ⟨m, hm⟩ := hG.maxLen
 refine (Tryz.strings_Split (bs l) ⟨([b] : List UInt8).toArray⟩ m w (by rw [bs_size]; omega) hm (Nat.le_refl _)).mono ?_
 rintro e w' ⟨rfl, rfl⟩
 have e1 : Lib.countB (bs l) ⟨([b] : List UInt8).toArray⟩ = Lib.count l [b] := rfl
 have e2 : (Lib.splitB ⟨([b] : List UInt8).toArray⟩ 0 (Lib.countB (bs l) ⟨([b] : List UInt8).toArray⟩) (bs l)).map Value.string = (sp b l).map (fun q => Value.string (bs q)) := by
  have e3 := Lib.splitB_data ⟨([b] : List UInt8).toArray⟩ 0 (Lib.countB (bs l) ⟨([b] : List UInt8).toArray⟩) (bs l)
  have e4 : sp b l = (Lib.splitB ⟨([b] : List UInt8).toArray⟩ 0 (Lib.countB (bs l) ⟨([b] : List UInt8).toArray⟩) (bs l)).map (·.data.toList) := by rw [e3, ← split_one]; rfl
  rw [e4, List.map_map]
  rfl
 rw [e2, e1, ← sp_len]
 exact ⟨rfl, rfl⟩
def mapO {α β : Type} (f : α → Option β) : List α → Option (List β)
 | [] => some []
 | x :: xs => match f x, mapO f xs with | some y, some ys => some (y :: ys) | _, _ => none
theorem mapO_snoc {α β : Type} {f : α → Option β} {xs : List α} {x : α} {ys : List β} {y : β} (h : mapO f xs = some ys) (hx : f x = some y) : mapO f (xs ++ [x]) = some (ys ++ [y]) := by
 induction xs generalizing ys with
 | nil => cases h; show (match f x, some [] with | some y, some ys => some (y :: ys) | _, _ => none) = _; rw [hx]; rfl
 | cons a xs ih =>
  show (match f a, mapO f (xs ++ [x]) with | some y, some ys => some (y :: ys) | _, _ => none) = _
  have h' : (match f a, mapO f xs with | some y, some ys => some (y :: ys) | _, _ => none) = some ys := h
  cases ha : f a with
  | none => rw [ha] at h'; cases h'
  | some b =>
   cases hm : mapO f xs with
   | none => rw [ha, hm] at h'; cases h'
   | some zs =>
    rw [ha, hm] at h'
    cases h'
    rw [ih hm]
    rfl
theorem mapO_none {α β : Type} {f : α → Option β} {xs : List α} {x : α} (h : x ∈ xs) (hx : f x = none) : mapO f xs = none := by
 induction xs with
 | nil => cases h
 | cons a xs ih =>
  show (match f a, mapO f xs with | some y, some ys => some (y :: ys) | _, _ => none) = _
  rcases List.mem_cons.1 h with rfl | h
  ·rw [hx]
  rw [ih h]
  cases f a <;> rfl
theorem mapO_some {α β : Type} (f : α → Option β) (xs : List α) : (mapO f xs).isSome = xs.all (fun x => (f x).isSome) := by
 induction xs with
 | nil => rfl
 | cons a xs ih =>
  show (match f a, mapO f xs with | some y, some ys => some (y :: ys) | _, _ => none).isSome = ((f a).isSome && xs.all (fun x => (f x).isSome))
  rw [← ih]
  cases f a with
  | none => rfl
  | some b => cases mapO f xs <;> rfl
def rowI (r : List UInt8) : Option (List TI) := mapO tI (sp 38 r)
def whenI (l : List UInt8) : Option (List (List TI)) := if 200 < l.length then none else mapO rowI (sp 124 l)
theorem when_rule (l : List UInt8) (h : l.length ≤ 200) : (whenI l).isSome = pRule l := by
 unfold whenI
 rw [if_neg yq9, mapO_some, rule_split, split_one]
 congr 1
 funext row
 show (mapO tI (sp 38 row)).isSome = _
 rw [mapO_some, split_one]
 congr 1
 funext x
 exact tI_ok x
def dT : Kd TI := Kd.pair (Kd.int .u8) (Kd.pair (Kd.int .i64) (Kd.pair Kd.bool (Kd.pair (Kd.int .i64) (Kd.int .i64))))
def dTs : Kd (List TI) := Kd.slice 106 dT
def WhenOut (l : List UInt8) (w : World) (e : Ending) (w' : World) : Prop := ∃ v : Value, e = .returned (.tuple #[v, .bool (whenI l).isSome]) ∧ dTs.R 103 w' w.heap.size (fun _ => True) v ((whenI l).getD []) ∧ Below w.heap.size w w'
theorem WhenOut.no {l : List UInt8} {w w' : World} {e : Ending} (h : whenI l = none) (hb : Below w.heap.size w w') (he : e = .returned (.tuple #[.slice none 0 0, .bool false]) := by rfl) : WhenOut l w e w' := ⟨.slice none 0 0, by rw [h]; exact he, by rw [h]; exact Kd.R_nil _ _ _ _ _, hb⟩
theorem WhenOut.yes {l : List UInt8} {w w' : World} {e : Ending} {v : Value} {q : List (List TI)} (h : whenI l = some q) (hr : dTs.R 103 w' w.heap.size (fun _ => True) v q) (hb : Below w.heap.size w w') (he : e = .returned (.tuple #[v, .bool true]) := by rfl) : WhenOut l w e w' := ⟨v, by rw [h]; exact he, by rw [h]; exact hr, hb⟩
theorem dT_M (w : World) (base : Nat) (ok : Nat → Prop) (x : TI) : dT.M w base ok x (tvA x).toList := by
 exact ⟨_, _, rfl, rfl, _, _, rfl, rfl, _, _, rfl, rfl, _, _, rfl, rfl, rfl⟩
end Go.Proofs.YtfafjbolmeimmaaGreatDoor.P
namespace Go.Proofs.YtfafjbolmeimmaaGreatDoor.P
open Go.RowKit Go.Proofs.YtfafjbolmeimmaaGreatDoorW.PrintWords Go.Proofs.YtfafjbolmeimmaaGreatDoorW.PrintLast Go.Proofs.YtfafjbolmeimmaaGreatDoorW.PrintMore
set_option linter.unusedVariables false
set_option linter.unusedSimpArgs false
def Pcs (w : World) (g : Nat) (L : List (List UInt8)) : Prop := w.heap[g]? = some (.cells (L.map (fun q => Value.string (bs q))).toArray 9 (0, 0))
theorem Pcs.at {w : World} {g : Nat} {L : List (List UInt8)} (h : Pcs w g L) (i : Nat) (hi : i < L.length) : w.cell? ⟨g, i, none⟩ = some (.string (bs L[i])) := by
 rw [zal h i]
 simp [hi]
theorem Pcs.below {w w' : World} {g : Nat} {L : List (List UInt8)} (h : Pcs w g L) (hb : Below w.heap.size w w') : Pcs w' g L := zbg h hb
theorem infoT : (Tryz.prog.info? 106).map (fun i => (i.zero, i.size, i.bytes)) = some (some (.agg #[.int .u8 0, .int .i64 0, .bool false, .int .i64 0, .int .i64 0]), 5, 40) := by kernel_rfl
theorem infoTs : (Tryz.prog.info? 103).map (fun i => (i.zero, i.size, i.bytes)) = some (some (.slice none 0 0), 1, 24) := by kernel_rfl
theorem test_calls' (l : List UInt8) (w : World) (hG : GT w) (hl : l.length ≤ 1099511627776) :
  Calls Tryz.prog 107 #[.string (bs l)] w fun e w' => ∃ (a b : Int) (c : Bool) (d f : Int), e = .returned (.tuple #[.agg #[.int .u8 a, .int .i64 b, .bool c, .int .i64 d, .int .i64 f], .bool (tI l).isSome]) ∧ (∀ y, tI l = some y → (a, b, c, d, f) = y) ∧ Below w.heap.size w w' :=
 (test_calls l w hG hl).mono fun _ _ ⟨x, h1, h2, h3⟩ => ⟨x.1, x.2.1, x.2.2.1, x.2.2.2.1, x.2.2.2.2, h1, h2, h3⟩
theorem take_snoc {α : Type} (L : List α) (i : Nat) (h : i < L.length) : L.take (i + 1) = L.take i ++ [L[i]] := by rw [List.take_add_one, List.getElem?_eq_getElem h]; rfl
set_option maxHeartbeats 4000000 in
set_option maxRecDepth 100000 in
theorem when_calls (l : List UInt8) (w : World) (hG : GT w) (hl : l.length ≤ 1099511627776) :
  Calls Tryz.prog 81 #[.string (bs l)] w fun e w' => WhenOut l w e w' := by
 have HG := zaa.mk hG; have HL := zaa.mk hl
 have hs := bs_size l
 have HS := zaa.mk hs; clear hG hl
 by_cases h200 : 200 < l.length
 ·have d0 : decide (200 < ((bs l).size : Int)) = true := decide_eq_true yq9
  have d1 : decide (200 < (bs l).size) = true := decide_eq_true yq9
  have hno : whenI l = none := by unfold whenI; rw [if_pos h200]
  clear hs h200
  go_enter Tryz.func81, Tryz.ntmps81
  go_wp2
  go_ret2
  exact WhenOut.no hno (Below.refl _ _)
 have d0 : decide (200 < ((bs l).size : Int)) = false := decide_eq_false yq9
 have d1 : decide (200 < (bs l).size) = false := decide_eq_false yq9
 have HW : zaa (whenI l = mapO rowI (sp 124 l)) := ⟨by unfold whenI; rw [if_neg h200]⟩
 have H2 := zaa.mk (show l.length ≤ 200 by omega)
 clear hs h200
 go_enter Tryz.func81, Tryz.ntmps81
 go_wp2_with (fail)
 refine (split_calls 124 l (yq15 H2.out) w HG.out).mono ?_
 rintro e w1 ⟨rfl, rfl⟩
 have BP := zaa.mk (show Pcs _ w.heap.size (sp 124 l) from blk_new w (.cells ((sp 124 l).map (fun q => Value.string (bs q))).toArray 9 (0, 0)))
 have HBA := zaa.mk (zad (Below.refl w.heap.size w) (.cells ((sp 124 l).map (fun q => Value.string (bs q))).toArray 9 (0, 0)))
 have hg16 : ∃ g16, w.heap.size = g16 := ⟨_, rfl⟩
 generalize w.alloc (.cells ((sp 124 l).map (fun q => Value.string (bs q))).toArray 9 (0, 0)) = wA at *
 obtain ⟨n, hn⟩ : ∃ n, (sp 124 l).length = n := ⟨_, rfl⟩
 have HN := zaa.mk hn
 rw [hn]
 clear hn hg16
 go_wp2_with (fail)
 go_loopw [4, 18] (fun v4 v18 wr => ∃ (x : Int) (i : Nat) (rows : List (List TI)), v18 = .int .i64 x ∧ zaa (x = (i : Int) ∧ i ≤ n) ∧ zaa (mapO rowI ((sp 124 l).take i) = some rows ∧ rows.length = i) ∧ zaa (dTs.R 103 wr wA.heap.size (fun _ => True) v4 rows) ∧ zaa (Below wA.heap.size wA wr)) (fun v4 v18 wr => (n + 1 - (intOf v18).toNat))
 case atStart => exact ⟨0, 0, [], rfl, ⟨rfl, Nat.zero_le _⟩, ⟨rfl, rfl⟩, ⟨Kd.R_nil _ _ _ _ _⟩, ⟨by first | exact Below.refl _ _ | (repeat (first | (with_reducible first | exact Below.refl _ _ | apply zab | apply zac) | exact Below.refl _ _))⟩⟩
 case round =>
  rename World => wo
  obtain ⟨x, i, rows, rfl, HX, HM, HR, HB⟩ := hrel
  by_cases hi : i < n
  ·have d2 : decide (x < (n : Int)) = true := decide_eq_true (yq15 HX.out)
   have p1 : (0 ≤ x) = True := eq_true (yq15 HX.out)
   have p2 : (x < (n : Int)) = True := eq_true (yq15 HX.out)
   have hlt : i < (sp 124 l).length := by have := HN.out; omega
   have hxi : x.toNat = i := by have := HX.out; omega
   have hc : wo.cell? ⟨w.heap.size, x.toNat, none⟩ = some (.string (bs (sp 124 l)[i])) := by rw [hxi]; exact (BP.out.below HB.out).at i hlt
   have hpl := zaa.mk ((sp_le 124 l).2 _ (List.getElem_mem hlt))
   have HPC := zaa.mk (take_snoc (sp 124 l) i hlt)
   have HPM := zaa.mk (List.getElem_mem hlt)
   generalize (sp 124 l)[i] = pc at hc hpl HPC HPM
   clear hxi hlt
   go_upto_region 8 with (fail)
   go_wp2_with (fail)
   refine (split_calls 38 pc (yq19 H2.out hpl.out) wo (GT_below HG.out (zam HBA.out HB.out))).mono ?_
   rintro e w2 ⟨rfl, rfl⟩
   have CP := zaa.mk (show Pcs _ wo.heap.size (sp 38 pc) from blk_new wo (.cells ((sp 38 pc).map (fun q => Value.string (bs q))).toArray 9 (0, 0)))
   have HCA := zaa.mk (zad (Below.refl wo.heap.size wo) (.cells ((sp 38 pc).map (fun q => Value.string (bs q))).toArray 9 (0, 0)))
   have HRA := zaa.mk (Kd.za3 HR.out HCA.out)
   have HBB := zaa.mk (zam HB.out HCA.out)
   have HLT := zaa.mk (show wo.heap.size < (wo.alloc (.cells ((sp 38 pc).map (fun q => Value.string (bs q))).toArray 9 (0, 0))).heap.size from blk_lt CP.out)
   generalize wo.alloc (.cells ((sp 38 pc).map (fun q => Value.string (bs q))).toArray 9 (0, 0)) = wB at *
   obtain ⟨m, hm⟩ : ∃ m, (sp 38 pc).length = m := ⟨_, rfl⟩
   have HMN := zaa.mk hm
   rw [hm]
   clear hm hc p1 p2 d2
   go_wp2_with (fail)
   go_loopw [7, 25] (fun v7 v25 ws => ∃ (y : Int) (j : Nat) (ts : List TI), v25 = .int .i64 y ∧ zaa (y = (j : Int) ∧ j ≤ m) ∧ zaa (mapO tI ((sp 38 pc).take j) = some ts ∧ ts.length = j) ∧ zaa (dT.R 106 ws wB.heap.size (fun _ => True) v7 ts) ∧ zaa (Below wB.heap.size wB ws)) (fun v7 v25 ws => (m + 1 - (intOf v25).toNat))
   case atStart => exact ⟨0, 0, [], rfl, ⟨rfl, Nat.zero_le _⟩, ⟨rfl, rfl⟩, ⟨Kd.R_nil _ _ _ _ _⟩, ⟨Below.refl _ _⟩⟩
   case round =>
    obtain ⟨y, j, ts, rfl, HY, HT, HO, HC⟩ := hrel
    by_cases hj : j < m
    ·have d2 : decide (y < (m : Int)) = true := decide_eq_true (yq15 HY.out)
     have p1 : (0 ≤ y) = True := eq_true (yq15 HY.out)
     have p2 : (y < (m : Int)) = True := eq_true (yq15 HY.out)
     have hlt : j < (sp 38 pc).length := by have := HMN.out; omega
     have hxj : y.toNat = j := by have := HY.out; omega
     have hc : wr.cell? ⟨wo.heap.size, y.toNat, none⟩ = some (.string (bs (sp 38 pc)[j])) := by rw [hxj]; exact (CP.out.below HC.out).at j hlt
     have hql := zaa.mk ((sp_le 38 pc).2 _ (List.getElem_mem hlt))
     have HQC := zaa.mk (take_snoc (sp 38 pc) j hlt)
     have HQM := zaa.mk (List.getElem_mem hlt)
     generalize (sp 38 pc)[j] = qc at hc hql HQC HQM
     clear hxj hlt
     have hu := Tryz.underlying106
     go_upto_region 11 with (fail)
     clear hc p1 p2 d2
     go_upto_region 12 with (first
      | ((with_reducible refine (test_calls' qc wr (GT_below HG.out (zam HBA.out (zam HBB.out HC.out))) (yq33 H2.out hpl.out hql.out)).mono ?_); rintro e w3 ⟨a, b, c, d, f, rfl, hx, hb⟩; have HX3 := zaa.mk hx; have HO3 := zaa.mk (Kd.za3 HO.out hb); have HC3 := zaa.mk (zam HC.out hb); clear hx hb)
      | ((with_reducible refine zaU (N := 10) rfl ?_); refine zba ?hg (N := 10) ?hd (cs := #[.int .u8 0, .int .i64 0, .bool false, .int .i64 0, .int .i64 0]) (t := 106) ?hr ?_; (case hd => rfl); (case hg => rfl); (case hr => first | (go_simp; done) | (go_simp; rfl)); intro g10 hg w4 hbox hb; have BK := zaa.mk hbox; have HB34 := zaa.mk hb; have G10 := zaa.mk (show w3.heap.size ≤ g10 by omega); have z0 := (zal hbox 0).trans rfl; have z1 := (zal hbox 1).trans rfl; have z2 := (zal hbox 2).trans rfl; have z3 := (zal hbox 3).trans rfl; have z4 := (zal hbox 4).trans rfl; have f0 := zah hbox 0; have f1 := zah hbox 1; have f2 := zah hbox 2; have f3 := zah hbox 3; have f4 := zah hbox 4; clear hb hbox hg)
      | fail)
     have BK5 := zaa.mk (zbb (zbb (zbb (zbb (zbb BK.out 0 (.int .u8 a) rfl) 1 (.int .i64 b) rfl) 2 (.bool c) rfl) 3 (.int .i64 d) rfl) 4 (.int .i64 f) rfl)
     have HB35 := zaa.mk (zai (j := 4) (v := .int .i64 f) (zai (j := 3) (v := .int .i64 d) (zai (j := 2) (v := .bool c) (zai (j := 1) (v := .int .i64 b) (zai (j := 0) (v := .int .u8 a) HB34.out G10.out) G10.out) G10.out) G10.out) G10.out)
     generalize ((((w4.setCell ⟨g10, 0, none⟩ (.int .u8 a)).setCell ⟨g10, 1, none⟩ (.int .i64 b)).setCell ⟨g10, 2, none⟩ (.bool c)).setCell ⟨g10, 3, none⟩ (.int .i64 d)).setCell ⟨g10, 4, none⟩ (.int .i64 f) = w5 at *
     have HO5 := zaa.mk (Kd.za3 HO3.out HB35.out)
     have HC5 := zaa.mk (zam HC3.out HB35.out)
     clear z0 z1 z2 z3 z4 f0 f1 f2 f3 f4 BK HB34 G10 HB35 HO3 HC3 HO HC
     cases ht : tI qc with
     | none =>
      have hrow : rowI pc = none := mapO_none HQM.out ht
      have hno : whenI l = none := HW.out.trans (mapO_none HPM.out hrow)
      have HE := zaa.mk (zam HBA.out (zam HBB.out HC5.out))
      go_wp2
      go_ret2
      exact WhenOut.no hno HE.out
     | some q =>
      have hxq := HX3.out q ht
      have HTN : zaa (mapO tI ((sp 38 pc).take (j + 1)) = some (ts ++ [q]) ∧ (ts ++ [q]).length = j + 1) := ⟨by rw [HQC.out]; exact mapO_snoc HT.out.1 ht, by rw [List.length_append, HT.out.2]; rfl⟩
      subst hxq
      have z0 : w5.cell? ⟨g10, 0, none⟩ = some (.int .u8 a) := (zal BK5.out 0).trans rfl
      have z1 : w5.cell? ⟨g10, 1, none⟩ = some (.int .i64 b) := (zal BK5.out 1).trans rfl
      have z2 : w5.cell? ⟨g10, 2, none⟩ = some (.bool c) := (zal BK5.out 2).trans rfl
      have z3 : w5.cell? ⟨g10, 3, none⟩ = some (.int .i64 d) := (zal BK5.out 3).trans rfl
      have z4 : w5.cell? ⟨g10, 4, none⟩ = some (.int .i64 f) := (zal BK5.out 4).trans rfl
      have LM : zaa (ts.length ≤ 201) := ⟨by have h1 := HT.out.2; have h2 := (sp_le 38 pc).1; have h3 := HMN.out; have := HY.out; have := hpl.out; have := H2.out; omega⟩
      have S3 : zaa (wrap64 (y + 1) = ((j + 1 : Nat) : Int)) := ⟨by have := HY.out; have h2 := (sp_le 38 pc).1; have h3 := HMN.out; have := hpl.out; have := H2.out; unfold wrap64; omega⟩
      go_upto_region 15 with (first | ((with_reducible refine zbs (b := .append) (xs := #[.tmp 36, .tmp 38]) rfl ?_); at_builtin; refine Kd.R_append dT (w0 := wB) wB.heap.size rfl (.tmp 36) (.tmp 38) 103 106 (.agg #[.int .u8 0, .int .i64 0, .bool false, .int .i64 0, .int .i64 0]) 40 rfl Tryz.underlying103 infoT rfl yq38 yq9 (u7) ts (a, b, c, d, f) [.int .u8 a, .int .i64 b, .bool c, .int .i64 d, .int .i64 f] (fun _ => True) (fun _ => False) rfl rfl ?aP (fun _ hk => hk.elim) ?aF ?aO ?aB ?aS ?aL ?_; (case aP => exact dT_M _ _ _ (a, b, c, d, f)); (case aB => exact HC5.out); (case aF => exact (fun _ _ => trivial)); (case aO => exact HO5.out); (case aS => exact (zaq HC5.out)); (case aL => have := LM.out; omega); intro v_ w_ ho hb hg hat; have HO := zaa.mk ho; have HC := zaa.mk hb; clear ho hb hg hat) | fail)
      clear z0 z1 z2 z3 z4
      go_wp2
      go_roundw
      case rel => exact ⟨_, j + 1, ts ++ [(a, b, c, d, f)], rfl, ⟨S3.out, yq15 HY.out⟩, HTN, HO, HC⟩
      case measure => simp only [intOf]; rw [S3.out]; have := HY.out; omega
    have hje : j = m := by have := HY.out; omega
    have d2 : decide (y < (m : Int)) = false := decide_eq_false (yq15 HY.out)
    have hrow : zaa (rowI pc = some ts) := ⟨by have h := HT.out.1; rw [hje, ← HMN.out, List.take_of_length_le (Nat.le_refl _)] at h; exact h⟩
    clear hje
    have HMX : zaa (mapO rowI ((sp 124 l).take (i + 1)) = some (rows ++ [ts]) ∧ (rows ++ [ts]).length = i + 1) := ⟨by rw [HPC.out]; exact mapO_snoc HM.out.1 hrow.out, by rw [List.length_append, HM.out.2]; rfl⟩
    have HRr := zaa.mk (Kd.za3 HRA.out HC.out)
    have HBr := zaa.mk (zam HBB.out HC.out)
    have HOl := zaa.mk (Kd.R_lower (Kd.R_mono (ok' := fun k => wB.heap.size ≤ k) (Kd.R_bound HO.out) (fun k hk => hk.2.1)) HBB.out.size)
    have HNE : zaa (∀ k, wB.heap.size ≤ k → True ∧ some k ≠ (u4 : Value).ownBlock) := ⟨fun k hk => ⟨trivial, fun he => by have := Kd.R_lt HRA.out k he.symm; omega⟩⟩
    obtain ⟨A7, c7, e7, _, _⟩ := Kd.R_reads HO.out
    subst e7
    have LM : zaa (rows.length ≤ 201) := ⟨by have h1 := HM.out.2; have h2 := (sp_le 124 l).1; have h3 := HN.out; have := HX.out; have := H2.out; omega⟩
    have S3 : zaa (wrap64 (x + 1) = ((i + 1 : Nat) : Int)) := ⟨by have := HX.out; have h2 := (sp_le 124 l).1; have h3 := HN.out; have := H2.out; unfold wrap64; omega⟩
    go_upto_region 17 with (first | ((with_reducible refine zbs (b := .append) (xs := #[.tmp 41, .tmp 43]) rfl ?_); at_builtin; refine Kd.R_append dTs (w0 := wA) wA.heap.size rfl (.tmp 41) (.tmp 43) 91 103 (.slice none 0 0) 24 rfl Tryz.underlying91 infoTs rfl yq38 yq9 (u4) rows ts [.slice A7 ts.length c7] (fun _ => True) (fun k => wB.heap.size ≤ k) rfl rfl ?aP HNE.out ?aF ?aO ?aB ?aS ?aL ?_; (case aP => exact ⟨_, rfl, HOl.out⟩); (case aB => exact HBr.out); (case aF => exact (fun _ _ => trivial)); (case aO => exact HRr.out); (case aS => exact (zaq HBr.out)); (case aL => have := LM.out; omega); intro v_ w_ ho hb hg hat; have HRn := zaa.mk ho; have HBn := zaa.mk hb; clear ho hb hg hat) | fail)
    go_wp2
    go_roundw
    case rel => exact ⟨_, i + 1, rows ++ [ts], rfl, ⟨S3.out, yq15 HX.out⟩, HMX, HRn, HBn⟩
    case measure => simp only [intOf]; rw [S3.out]; have := HX.out; omega
  have hie : i = n := by have := HX.out; omega
  have d2 : decide (x < (n : Int)) = false := decide_eq_false (yq15 HX.out)
  have hye : whenI l = some rows := HW.out.trans (by have h := HM.out.1; rw [hie, ← HN.out, List.take_of_length_le (Nat.le_refl _)] at h; exact h)
  clear hie
  have HRe := zaa.mk (Kd.R_lower HR.out HBA.out.size)
  have HBe := zaa.mk (zam HBA.out HB.out)
  go_wp2
  go_ret2
  exact WhenOut.yes hye HRe.out HBe.out
end Go.Proofs.YtfafjbolmeimmaaGreatDoor.P
namespace Go.Proofs.YtfafjbolmeimmaaGreatDoor.P
open Go.RowKit Go.Proofs.YtfafjbolmeimmaaGreatDoorW.PrintWords
set_option linter.unusedVariables false
def Lb (s : ByteArray) (i : Nat) : List UInt8 := s.data.toList.drop i
theorem Lb_len (s : ByteArray) (i : Nat) : (Lb s i).length = s.size - i := by
 unfold Lb
 rw [List.length_drop, Array.length_toList]
 rfl
theorem Lb_at (s : ByteArray) (i : Nat) (h : i < s.size) : ∃ c : UInt8, Lb s i = c :: Lb s (i + 1) ∧ bt s (i : Int) = (c.toNat : Int) := by
 have hl : i < s.data.toList.length := by rw [Array.length_toList]; exact h
 refine ⟨s.data.toList[i], by unfold Lb; exact List.drop_eq_getElem_cons hl, ?_⟩
 unfold bt
 rw [Int.toNat_natCast, dif_pos h]
 simp
 rfl
theorem Lb_end (s : ByteArray) (i : Nat) (h : s.size ≤ i) : Lb s i = [] := List.eq_nil_of_length_eq_zero (by rw [Lb_len]; omega)
theorem u8_eq {c b : UInt8} : c = b ↔ c.toNat = b.toNat := ⟨fun h => h ▸ rfl, fun h => UInt8.toNat_inj.1 h⟩
theorem pOpt_no {b : UInt8} {l : List UInt8} (h : (pOpt b l).1 = false) : (pOpt b l).2 = l := by
 cases l with
 | nil => rfl
 | cons c r =>
  have e : pOpt b (c :: r) = if c = b then (true, r) else (false, c :: r) := rfl
  rw [e] at h ⊢
  by_cases hc : c = b
  ·rw [if_pos hc] at h; cases h
  rw [if_neg hc]
theorem take_q (s : ByteArray) (hs : s.size ≤ 1099511627776) (i : Nat) (hi : i ≤ s.size) (c : UInt8) : ∃ i' : Nat, zav.f s (i : Int) false (c.toNat : Int) = some ((pOpt c (Lb s i)).1, s, (i' : Int), false) ∧ Lb s i' = (pOpt c (Lb s i)).2 ∧ i ≤ i' ∧ i' ≤ s.size := by
 unfold zav.f spec_l04Reader_is.f
 rw [if_neg yq21]
 by_cases h : i < s.size
 ·obtain ⟨b, hb, hbt⟩ := Lb_at s i h
  rw [if_pos yq9, if_pos yq9, hbt, hb]
  show ∃ i' : Nat, (if ((b.toNat : Int) == (c.toNat : Int)) = true then some (true, s, wrap64 ((i : Int) + 1), false) else some (false, s, (i : Int), false)) = some ((if b = c then (true, Lb s (i + 1)) else (false, b :: Lb s (i + 1))).1, s, (i' : Int), false) ∧ Lb s i' = (if b = c then (true, Lb s (i + 1)) else (false, b :: Lb s (i + 1))).2 ∧ i ≤ i' ∧ i' ≤ s.size
  by_cases e : b = c
  ·have e2 : ((b.toNat : Int) == (c.toNat : Int)) = true := by rw [e]; simp
   rw [if_pos e2, if_pos e, w_succ i yq9]
   exact ⟨i + 1, rfl, rfl, yq9, yq9⟩
  have e2 : ((b.toNat : Int) == (c.toNat : Int)) = false := beq_eq_false_iff_ne.2 (fun h => e (u8_eq.2 yq9))
  rw [if_neg (by rw [e2]; simp), if_neg e]
  exact ⟨i, rfl, hb, yq9, yq9⟩
 rw [if_neg yq9, Lb_end s i yq9]
 exact ⟨i, rfl, Lb_end s i yq9, yq9, yq9⟩
theorem take_b (s : ByteArray) (i c : Int) : zav.f s i true c = some (false, s, i, true) := by
 unfold zav.f spec_l04Reader_is.f
 rw [if_pos rfl]
 rfl
theorem fail_f (s : ByteArray) (i a : Int) (b : Bool) : ∃ i', zat.f s i b a = some (s, i', true) := by
 unfold zat.f
 cases b with
 | true => exact ⟨i, by rw [if_pos rfl]⟩
 | false => exact ⟨a, by rw [if_neg yq21]⟩
theorem want_q (s : ByteArray) (hs : s.size ≤ 1099511627776) (i : Nat) (hi : i ≤ s.size) (c : UInt8) : ∃ j : Int, zaK.f s (i : Int) false (c.toNat : Int) = some (s, j, !(pOpt c (Lb s i)).1) ∧ ((pOpt c (Lb s i)).1 = true → ∃ i' : Nat, j = (i' : Int) ∧ Lb s i' = (pOpt c (Lb s i)).2 ∧ i ≤ i' ∧ i' ≤ s.size) := by
 obtain ⟨i', h1, h2, h3, h4⟩ := take_q s hs i hi c
 unfold zaK.f
 rw [h1]
 cases hb : (pOpt c (Lb s i)).1 with
 | true => exact ⟨i', yq30, fun _ => ⟨i', rfl, h2, h3, h4⟩⟩
 | false =>
  obtain ⟨j, hj⟩ := fail_f s (i' : Int) (i' : Int) false
  refine ⟨j, ?_, fun h => by cases h⟩
  show (if false = true then some (s, (i' : Int), false) else (zat.f s (i' : Int) false (i' : Int)).bind fun bt118 => some (bt118.1, bt118.2.1, bt118.2.2)) = _
  rw [if_neg yq21, hj]
  rfl
theorem want_b (s : ByteArray) (i c : Int) : ∃ j, zaK.f s i true c = some (s, j, true) := by
 obtain ⟨j, hj⟩ := fail_f s i i true
 refine ⟨j, ?_⟩
 unfold zaK.f
 rw [take_b]
 show (if false = true then some (s, i, true) else (zat.f s i true i).bind fun bt118 => some (bt118.1, bt118.2.1, bt118.2.2)) = _
 rw [if_neg yq21, hj]
 rfl
theorem dg_toNat (c : UInt8) : isDg c = true ↔ 48 ≤ c.toNat ∧ c.toNat ≤ 57 := by unfold isDg; exact decide_eq_true_iff
theorem dig_l (s : ByteArray) (hs : s.size ≤ 1099511627776) (a : Nat) (ha : a < s.size) (c0 : UInt8) (hc0 : bt s (a : Int) = (c0.toNat : Int)) (h48 : c0 ≠ 48) :
  ∀ (d i : Nat), i + d = s.size → a < i → ∀ n : Nat, n ≤ 10000009 →
   ∃ (m : Int) (j : Int) (b : Bool), Ev (fun k => zaf.l0 k 1000000 (a : Int) (n : Int) ((i - a : Nat) : Int) s (i : Int) false) (m, s, j, b) ∧
    ((n ≤ 1000000 ∧ ((Lb s i).takeWhile isDg).foldl (fun n c => n * 10 + (c.toNat - 48)) n ≤ 1000000 → b = false ∧ m = ((((Lb s i).takeWhile isDg).foldl (fun n c => n * 10 + (c.toNat - 48)) n : Nat) : Int) ∧ ∃ i' : Nat, j = (i' : Int) ∧ Lb s i' = (Lb s i).dropWhile isDg ∧ i ≤ i' ∧ i' ≤ s.size)
     ∧ (¬ (n ≤ 1000000 ∧ ((Lb s i).takeWhile isDg).foldl (fun n c => n * 10 + (c.toNat - 48)) n ≤ 1000000) → b = true)) := by
 have stop : ∀ (i n : Nat), a < i → i ≤ s.size → n ≤ 10000009 → (Lb s i).takeWhile isDg = [] → (Lb s i).dropWhile isDg = Lb s i → ∃ (m : Int) (j : Int) (b : Bool), Ev (fun k => zaf.j1 k 1000000 (a : Int) (n : Int) ((i - a : Nat) : Int) false s (i : Int) false) (m, s, j, b) ∧
    ((n ≤ 1000000 ∧ ((Lb s i).takeWhile isDg).foldl (fun n c => n * 10 + (c.toNat - 48)) n ≤ 1000000 → b = false ∧ m = ((((Lb s i).takeWhile isDg).foldl (fun n c => n * 10 + (c.toNat - 48)) n : Nat) : Int) ∧ ∃ i' : Nat, j = (i' : Int) ∧ Lb s i' = (Lb s i).dropWhile isDg ∧ i ≤ i' ∧ i' ≤ s.size)
     ∧ (¬ (n ≤ 1000000 ∧ ((Lb s i).takeWhile isDg).foldl (fun n c => n * 10 + (c.toNat - 48)) n ≤ 1000000) → b = true)) := by
  intro i n hai hi hn ht hd
  rw [ht, hd]
  by_cases hm : n ≤ 1000000
  ·refine ⟨(n : Int), (i : Int), false, ?_, fun _ => ⟨rfl, rfl, i, rfl, rfl, Nat.le_refl _, hi⟩, fun h => absurd ⟨hm, hm⟩ h⟩
   refine Ev.step (fun k => by rw [zaf.j1]) ?_
   refine Ev.neg yq21 ?_
   refine Ev.neg yq9 ?_
   refine Ev.neg yq9 ?_
   exact Ev.now _
  obtain ⟨j, hj⟩ := fail_f s (i : Int) (a : Int) false
  refine ⟨(n : Int), j, true, ?_, fun h => absurd h.1 hm, fun _ => rfl⟩
  refine Ev.step (fun k => by rw [zaf.j1]) ?_
  refine Ev.neg yq21 ?_
  refine Ev.neg yq9 ?_
  refine Ev.pos yq9 ?_
  refine Ev.bind (Ev.done hj) ?_
  exact Ev.now _
 intro d
 induction d with
 | zero =>
  intro i hi hai n hn
  have hL := Lb_end s i yq9
  obtain ⟨m, j, b, h1, h2⟩ := stop i n hai yq9 hn (by rw [hL]; rfl) (by rw [hL]; rfl)
  exact ⟨m, j, b, (by refine Ev.step (fun k => by rw [zaf.l0]) ?_; refine Ev.neg yq21 ?_; refine Ev.neg yq9 ?_; exact h1), h2⟩
 | succ d ih =>
  intro i hi hai n hn
  obtain ⟨c, hc, hbt⟩ := Lb_at s i yq9
  have hcl : c.toNat < 256 := c.toNat_lt
  have hi0 : ((i - a : Nat) : Int) ≠ 0 := by omega
  by_cases hd : isDg c = true
  ·have hdg := (dg_toNat c).1 hd
   have hc48 : c0.toNat ≠ 48 := fun h => h48 (u8_eq.2 h)
   have e1 : wrap64 (((i - a : Nat) : Int) + 1) = ((i + 1 - a : Nat) : Int) := by rw [w64 yq9 yq9]; omega
   have e2 := zaa.mk (w_succ i yq9)
   have E1 := zaa.mk e1; clear e1
   have hne : (((c0.toNat : Int)) != 48) = true := bne_iff_ne.2 yq9
   rw [hc, List.takeWhile_cons, if_pos hd, List.dropWhile_cons, if_pos hd, List.foldl_cons]
   by_cases hm : n ≤ 1000000
   ·have e3 : wrap64 (wrap64 (10 * (n : Int)) + ((c.toNat : Int) - 48) % 256) = ((n * 10 + (c.toNat - 48) : Nat) : Int) := by
     rw [w64 (x := 10 * (n : Int)) yq9 yq9, w64 yq9 yq9]
     omega
    have E3 := zaa.mk e3; clear e3
    obtain ⟨m, j, b, h1, h2, h3⟩ := ih (i + 1) yq9 yq9 (n * 10 + (c.toNat - 48)) yq9
    have hge := fold_ge ((Lb s (i + 1)).takeWhile isDg) (n * 10 + (c.toNat - 48))
    refine ⟨m, j, b, ?_, fun h => ?_, fun h => ?_⟩
    ·refine Ev.step (fun k => by rw [zaf.l0, hbt, hc0]) (Ev.neg yq21 (Ev.pos yq9 (Ev.pos yq9 (Ev.pos yq9 (Ev.pos yq9 (Ev.neg hi0 (Ev.pos yq9 (Ev.pos yq9 ?_))))))))
     rw [hne]
     refine Ev.step (fun k => by rw [zaf.j1, hbt, E3.out, E1.out, e2.out]) ?_
     refine Ev.pos rfl ?_
     refine Ev.pos yq9 ?_
     refine Ev.pos yq9 ?_
     refine Ev.pos yq9 ?_
     exact h1
    ·obtain ⟨q1, q2, i', q3, q4, q5, q6⟩ := h2 ⟨yq9, h.2⟩
     exact ⟨q1, q2, i', q3, q4, yq9, q6⟩
    exact h3 (fun h' => h ⟨hm, h'.2⟩)
   obtain ⟨m, j, b, h1, h2, h3⟩ := ih (i + 1) yq9 yq9 n hn
   refine ⟨m, j, b, ?_, fun h => absurd h.1 hm, fun _ => h3 (fun h' => hm h'.1)⟩
   refine Ev.step (fun k => by rw [zaf.l0, hbt, hc0]) ?_
   refine Ev.neg yq21 ?_
   refine Ev.pos yq9 ?_
   refine Ev.pos yq9 ?_
   refine Ev.pos yq9 ?_
   refine Ev.pos yq9 ?_
   refine Ev.neg hi0 ?_
   refine Ev.pos yq9 ?_
   refine Ev.pos yq9 ?_
   rw [hne]
   refine Ev.step (fun k => by rw [zaf.j1, E1.out, e2.out]) ?_
   refine Ev.pos rfl ?_
   refine Ev.neg yq9 ?_
   exact h1
  have hdf : isDg c = false := by simpa using hd
  obtain ⟨m, j, b, h1, h2⟩ := stop i n hai yq9 hn (by rw [hc, List.takeWhile_cons, hdf]; rfl) (by rw [hc, List.dropWhile_cons, hdf]; rfl)
  refine ⟨m, j, b, ?_, h2⟩
  refine Ev.step (fun k => by rw [zaf.l0, hbt]) ?_
  refine Ev.neg yq21 ?_
  refine Ev.pos yq9 ?_
  refine Ev.pos yq9 ?_
  by_cases h1' : 48 ≤ c.toNat
  ·exact Ev.pos yq9 (Ev.neg (fun h => hd ((dg_toNat c).2 ⟨h1', yq9⟩)) h1)
  exact Ev.neg yq9 h1
theorem dig_q (s : ByteArray) (hs : s.size ≤ 1099511627776) (i : Nat) (hi : i ≤ s.size) : ∃ (m j : Int) (b : Bool), Ev (fun k => zaf.f k s (i : Int) false 1000000) (m, s, j, b) ∧
  (∀ v q, pNum (Lb s i) = some (v, q) → b = false ∧ m = (v : Int) ∧ ∃ i' : Nat, j = (i' : Int) ∧ Lb s i' = q ∧ i ≤ i' ∧ i' ≤ s.size) ∧ (pNum (Lb s i) = none → b = true) := by
 unfold zaf.f
 have none_ : (i < s.size → (bt s (i : Int) < 48 ∨ 57 < bt s (i : Int))) → ∃ j : Int, Ev (fun k => zaf.l0 k 1000000 (i : Int) 0 0 s (i : Int) false) (0, s, j, true) := by
  intro h
  obtain ⟨j, hj⟩ := fail_f s (i : Int) (i : Int) false
  refine ⟨j, ?_⟩
  have hj1 : Ev (fun k => zaf.j1 k 1000000 (i : Int) 0 0 false s (i : Int) false) (0, s, j, true) :=
   (by refine Ev.step (fun k => by rw [zaf.j1]) ?_; refine Ev.neg yq21 ?_; refine Ev.pos rfl ?_; refine Ev.bind (Ev.done hj) ?_; refine Ev.neg yq9 ?_; exact Ev.now _)
  refine Ev.step (fun k => by rw [zaf.l0]) ?_
  refine Ev.neg yq21 ?_
  by_cases hlt : i < s.size
  ·refine Ev.pos yq9 (Ev.pos yq9 ?_)
   rcases h hlt with h | h
   ·exact Ev.neg yq9 hj1
   exact Ev.pos yq9 (Ev.neg yq9 hj1)
  exact Ev.neg yq9 hj1
 by_cases hlt : i < s.size
 ·obtain ⟨c, hc, hbt⟩ := Lb_at s i hlt
  have hcl : c.toNat < 256 := c.toNat_lt
  rw [hc, pNum_cons]
  by_cases hd : isDg c = false
  ·rw [if_pos hd]
   obtain ⟨j, hj⟩ := none_ (fun _ => by
    rw [hbt]
    have : ¬ (48 ≤ c.toNat ∧ c.toNat ≤ 57) := fun h => by rw [(dg_toNat c).2 h] at hd; cases hd
    omega)
   exact ⟨0, j, true, hj, fun v q h => (by cases h), fun _ => rfl⟩
  rw [if_neg hd]
  have hdg := (dg_toNat c).1 (by simpa using hd)
  have hdt : isDg c = true := (dg_toNat c).2 hdg
  have e2 := zaa.mk (w_succ i yq9)
  have e3 : wrap64 (wrap64 (10 * (0 : Int)) + ((c.toNat : Int) - 48) % 256) = ((c.toNat - 48 : Nat) : Int) := by
   rw [w64 (x := 10 * (0 : Int)) yq9 yq9, w64 yq9 yq9]
   omega
  have E3 := zaa.mk e3
  have e4 : wrap64 ((0 : Int) + 1) = 1 := by rw [w64 yq9 yq9]; rfl
  have E4 := zaa.mk e4; clear e3 e4
  have first : ∀ r, Ev (fun k => zaf.l0 k 1000000 (i : Int) ((c.toNat - 48 : Nat) : Int) 1 s ((i + 1 : Nat) : Int) false) r → Ev (fun k => zaf.l0 k 1000000 (i : Int) 0 0 s (i : Int) false) r := by
   intro r h
   refine Ev.step (fun k => by rw [zaf.l0, hbt]) ?_
   refine Ev.neg yq21 ?_
   refine Ev.pos yq9 ?_
   refine Ev.pos yq9 ?_
   refine Ev.pos yq9 ?_
   refine Ev.pos yq9 ?_
   refine Ev.pos rfl ?_
   refine Ev.step (fun k => by rw [zaf.j1, hbt, E3.out, E4.out, e2.out]) ?_
   refine Ev.pos rfl ?_
   refine Ev.pos yq9 ?_
   refine Ev.pos yq9 ?_
   refine Ev.pos yq9 ?_
   exact h
  by_cases h48 : c = 48
  ·
   rw [if_pos h48]
   have hz : ((c.toNat - 48 : Nat) : Int) = 0 := by rw [h48]; rfl
   have hfin : Ev (fun k => zaf.j1 k 1000000 (i : Int) 0 1 false s ((i + 1 : Nat) : Int) false) (0, s, ((i + 1 : Nat) : Int), false) :=
    (by refine Ev.step (fun k => by rw [zaf.j1]) ?_; refine Ev.neg yq21 ?_; refine Ev.neg yq9 ?_; refine Ev.neg yq9 ?_; exact Ev.now _)
   refine ⟨0, ((i + 1 : Nat) : Int), false, first _ ?_, fun v q h => ?_, fun h => by cases h⟩
   ·rw [hz]
    refine Ev.step (fun k => by rw [zaf.l0]) ?_
    refine Ev.neg yq21 ?_
    by_cases h2 : i + 1 < s.size
    ·refine Ev.pos yq9 (Ev.pos yq9 ?_)
     by_cases h3 : bt s ((i + 1 : Nat) : Int) ≥ 48
     ·refine Ev.pos h3 ?_
      by_cases h4 : bt s ((i + 1 : Nat) : Int) ≤ 57
      ·refine Ev.pos h4 (Ev.neg yq9 (Ev.pos yq9 (Ev.pos yq9 ?_)))
       have : (bt s (i : Int) != 48) = false := by rw [hbt, h48]; rfl
       rw [this]
       exact hfin
      exact Ev.neg h4 hfin
     exact Ev.neg h3 hfin
    exact Ev.neg yq9 hfin
   cases h
   exact ⟨rfl, rfl, i + 1, rfl, rfl, yq9, yq9⟩
  rw [if_neg h48]
  obtain ⟨m, j, b, h1, h2, h3⟩ := dig_l s hs i hlt c hbt h48 (s.size - (i + 1)) (i + 1) yq9 yq9 (c.toNat - 48) yq9
  have e5 : ((i + 1 - i : Nat) : Int) = 1 := by omega
  rw [e5] at h1
  have ev : valD ((c :: Lb s (i + 1)).takeWhile isDg) = ((Lb s (i + 1)).takeWhile isDg).foldl (fun n c => n * 10 + (c.toNat - 48)) (c.toNat - 48) := by
   rw [List.takeWhile_cons, if_pos hdt]
   unfold valD
   rw [List.foldl_cons]
   congr 1
   omega
  rw [ev, List.dropWhile_cons, if_pos hdt]
  refine ⟨m, j, b, first _ h1, fun v q h => ?_, fun h => ?_⟩
  ·split at h
   ·rename_i hle
    cases h
    obtain ⟨q1, q2, i', q3, q4, q5, q6⟩ := h2 ⟨yq9, hle⟩
    exact ⟨q1, q2, i', q3, q4, yq9, q6⟩
   cases h
  split at h
  ·cases h
  rename_i hle
  exact h3 (fun h' => hle h'.2)
 rw [Lb_end s i yq9]
 obtain ⟨j, hj⟩ := none_ (fun h => absurd h hlt)
 exact ⟨0, j, true, hj, fun v q h => (by cases h), fun _ => rfl⟩
theorem dig_b (s : ByteArray) (i : Int) : ∃ j, Ev (fun k => zaf.f k s i true 1000000) (0, s, j, true) := by
 obtain ⟨j, hj⟩ := fail_f s i i true
 unfold zaf.f
 exact ⟨j, (by refine Ev.step (fun k => by rw [zaf.l0]) ?_; refine Ev.pos rfl ?_; refine Ev.step (fun k => by rw [zaf.j1]) ?_; refine Ev.neg yq21 ?_; refine Ev.pos rfl ?_; refine Ev.bind (Ev.done hj) ?_; refine Ev.neg yq9 ?_; exact Ev.now _)⟩
def TestR (s : ByteArray) (i : Nat) (g : Nat → Option (Int × Int × Bool × Int × Int × ByteArray × Int × Bool)) (o : Option (List UInt8)) : Prop :=
 ∃ (a b : Int) (c : Bool) (d e j : Int) (bad : Bool), Ev g (a, b, c, d, e, s, j, bad) ∧ (∀ q, o = some q → bad = false ∧ ∃ i' : Nat, j = (i' : Int) ∧ Lb s i' = q ∧ i ≤ i' ∧ i' ≤ s.size) ∧ (o = none → bad = true)
theorem j3_b (s : ByteArray) (i0 : Nat) (i a b : Int) (c : Bool) (d e : Int) : TestR s i0 (fun k => zan.j3 k s i true a b c d e) none := by
 obtain ⟨j1, h1⟩ := want_b s i 61
 obtain ⟨j2, h2⟩ := dig_b s j1
 exact ⟨_, _, _, _, _, _, _, (by refine Ev.step (fun k => by rw [zan.j3]) ?_; refine Ev.bind (Ev.done (take_b s i 33)) ?_; refine Ev.bind (Ev.done h1) ?_; refine Ev.bind h2 ?_; refine Ev.bind (Ev.done (take_b s j2 46)) ?_; refine Ev.neg yq21 ?_; exact Ev.now _), fun q h => (by cases h), fun _ => rfl⟩
theorem TestR.ev {s : ByteArray} {i : Nat} {g g' : Nat → Option (Int × Int × Bool × Int × Int × ByteArray × Int × Bool)} {o : Option (List UInt8)} (h : TestR s i g o) (k : ∀ r, Ev g r → Ev g' r) : TestR s i g' o := by
 obtain ⟨a, b, c, d, e, j, bad, h1, h2⟩ := h
 exact ⟨a, b, c, d, e, j, bad, k _ h1, h2⟩
theorem TestR.le {s : ByteArray} {i i0 : Nat} {g : Nat → Option (Int × Int × Bool × Int × Int × ByteArray × Int × Bool)} {o : Option (List UInt8)} (h : TestR s i g o) (hi : i0 ≤ i) : TestR s i0 g o := by
 obtain ⟨a, b, c, d, e, j, bad, h1, h2, h3⟩ := h
 refine ⟨a, b, c, d, e, j, bad, h1, fun q hq => ?_, h3⟩
 obtain ⟨q1, i', q2, q3, q4, q5⟩ := h2 q hq
 exact ⟨q1, i', q2, q3, yq9, q5⟩
theorem j3_q (s : ByteArray) (hs : s.size ≤ 1099511627776) (i : Nat) (hi : i ≤ s.size) (a b : Int) (c : Bool) (d e : Int) : TestR s i (fun k => zan.j3 k s (i : Int) false a b c d e) (pEq (Lb s i)) := by
 obtain ⟨i1, a1, a2, a3, a4⟩ := take_q s hs i hi 33
 replace a1 : zav.f s (i : Int) false 33 = _ := a1
 obtain ⟨j2, b1, b2⟩ := want_q s hs i1 a4 61
 replace b1 : zaK.f s (i1 : Int) false 61 = _ := b1
 rw [a2] at b1 b2
 unfold pEq
 cases hw : (pOpt 61 (pOpt 33 (Lb s i)).2).1 with
 | false =>
  rw [hw] at b1
  obtain ⟨j3, h3⟩ := dig_b s j2
  rw [if_neg yq21]
  exact ⟨_, _, _, _, _, _, _, (by refine Ev.step (fun k => by rw [zan.j3]) ?_; refine Ev.bind (Ev.done a1) ?_; refine Ev.bind (Ev.done b1) ?_; refine Ev.bind h3 ?_; refine Ev.bind (Ev.done (take_b s j3 46)) ?_; refine Ev.neg yq21 ?_; exact Ev.now _), fun q h => (by cases h), fun _ => rfl⟩
 | true =>
  rw [hw] at b1 b2
  obtain ⟨i2, rfl, b3, b4, b5⟩ := b2 rfl
  rw [if_pos rfl, ← b3]
  obtain ⟨m, j3, bd, c1, c2, c3⟩ := dig_q s hs i2 b5
  cases hp : pNum (Lb s i2) with
  | none =>
   have := c3 hp
   subst this
   exact ⟨_, _, _, _, _, _, _, (by refine Ev.step (fun k => by rw [zan.j3]) ?_; refine Ev.bind (Ev.done a1) ?_; refine Ev.bind (Ev.done b1) ?_; refine Ev.bind c1 ?_; refine Ev.bind (Ev.done (take_b s j3 46)) ?_; refine Ev.neg yq21 ?_; exact Ev.now _), fun q h => (by cases h), fun _ => rfl⟩
  | some p =>
   obtain ⟨v, q⟩ := p
   obtain ⟨rfl, rfl, i3, rfl, c4, c5, c6⟩ := c2 v q hp
   subst c4
   show TestR s i _ (pHigh (Lb s i3))
   obtain ⟨i4, d1, d2, d3, d4⟩ := take_q s hs i3 c6 46
   replace d1 : zav.f s (i3 : Int) false 46 = _ := d1
   unfold pHigh
   cases ht : (pOpt 46 (Lb s i3)).1 with
   | false =>
    rw [ht] at d1
    rw [if_neg yq21]
    refine ⟨_, _, _, _, _, _, _, (by refine Ev.step (fun k => by rw [zan.j3]) ?_; refine Ev.bind (Ev.done a1) ?_; refine Ev.bind (Ev.done b1) ?_; refine Ev.bind c1 ?_; refine Ev.bind (Ev.done d1) ?_; refine Ev.neg yq21 ?_; exact Ev.now _), fun q h => ?_, fun h => by cases h⟩
    cases h
    refine ⟨rfl, i4, rfl, ?_, yq9, d4⟩
    rw [d2]
    exact pOpt_no ht
   | true =>
    rw [ht] at d1
    rw [if_pos rfl]
    obtain ⟨j5, e1, e2⟩ := want_q s hs i4 d4 46
    replace e1 : zaK.f s (i4 : Int) false 46 = _ := e1
    rw [d2] at e1 e2
    cases hw2 : (pOpt 46 (pOpt 46 (Lb s i3)).2).1 with
    | false =>
     rw [hw2] at e1
     rw [if_neg yq21]
     obtain ⟨j6, h6⟩ := dig_b s j5
     exact ⟨_, _, _, _, _, _, _, (by refine Ev.step (fun k => by rw [zan.j3]) ?_; refine Ev.bind (Ev.done a1) ?_; refine Ev.bind (Ev.done b1) ?_; refine Ev.bind c1 ?_; refine Ev.bind (Ev.done d1) ?_; refine Ev.pos rfl ?_; refine Ev.bind (Ev.done e1) ?_; refine Ev.bind h6 ?_; exact Ev.now _), fun q h => (by cases h), fun _ => rfl⟩
    | true =>
     rw [hw2] at e1 e2
     rw [if_pos rfl]
     obtain ⟨i5, rfl, e3, e4, e5⟩ := e2 rfl
     rw [← e3]
     obtain ⟨m2, j6, bd2, f1, f2, f3⟩ := dig_q s hs i5 e5
     refine ⟨_, _, _, _, _, _, _, (by refine Ev.step (fun k => by rw [zan.j3]) ?_; refine Ev.bind (Ev.done a1) ?_; refine Ev.bind (Ev.done b1) ?_; refine Ev.bind c1 ?_; refine Ev.bind (Ev.done d1) ?_; refine Ev.pos rfl ?_; refine Ev.bind (Ev.done e1) ?_; refine Ev.bind f1 ?_; exact Ev.now _), fun q h => ?_, fun h => ?_⟩
     ·cases hp2 : pNum (Lb s i5) with
      | none => rw [hp2] at h; cases h
      | some p2 =>
       obtain ⟨v2, q2⟩ := p2
       rw [hp2] at h
       cases h
       obtain ⟨g1, g2, i6, g3, g4, g5, g6⟩ := f2 _ _ hp2
       exact ⟨g1, i6, g3, g4, yq9, g6⟩
     cases hp2 : pNum (Lb s i5) with
     | none => exact f3 hp2
     | some p2 => rw [hp2] at h; cases h
theorem j2_q (s : ByteArray) (hs : s.size ≤ 1099511627776) (i : Nat) (hi : i ≤ s.size) (a b : Int) (c : Bool) (d e : Int) : TestR s i (fun k => zan.j2 k s (i : Int) false a b c d e) (match pMod (Lb s i) with | none => none | some q => pEq q) := by
 obtain ⟨i1, a1, a2, a3, a4⟩ := take_q s hs i hi 37
 replace a1 : zav.f s (i : Int) false 37 = _ := a1
 unfold pMod
 cases ht : (pOpt 37 (Lb s i)).1 with
 | false =>
  rw [ht] at a1
  rw [if_neg yq21]
  have e2 : Lb s i1 = Lb s i := by
   rw [a2]
   exact pOpt_no ht
  show TestR s i _ (pEq (Lb s i))
  rw [← e2]
  exact ((j3_q s hs i1 a4 a b c d e).le a3).ev fun r h => (by refine Ev.step (fun k => by rw [zan.j2]) ?_; refine Ev.bind (Ev.done a1) ?_; refine Ev.neg yq21 ?_; exact h)
 | true =>
  rw [ht] at a1
  rw [if_pos rfl, ← a2]
  obtain ⟨m, j3, bd, c1, c2, c3⟩ := dig_q s hs i1 a4
  have zero : ∀ (m j : Int) (bd : Bool), Ev (fun k => zaf.f k s (i1 : Int) false 1000000) (m, s, j, bd) → (m = 0 ∨ bd = true) → TestR s i (fun k => zan.j2 k s (i : Int) false a b c d e) none := by
   intro m j bd hev hor
   by_cases hm : m = 0
   ·obtain ⟨j4, h4⟩ := fail_f s j j bd
    exact (j3_b s i j4 a m c d e).ev fun r h => (by refine Ev.step (fun k => by rw [zan.j2]) ?_; refine Ev.bind (Ev.done a1) ?_; refine Ev.pos rfl ?_; refine Ev.bind hev ?_; refine Ev.pos hm ?_; refine Ev.bind (Ev.done h4) ?_; exact h)
   have hb : bd = true := by
    rcases hor with h | h
    ·exact absurd h hm
    exact h
   subst hb
   exact (j3_b s i j a m c d e).ev fun r h => (by refine Ev.step (fun k => by rw [zan.j2]) ?_; refine Ev.bind (Ev.done a1) ?_; refine Ev.pos rfl ?_; refine Ev.bind hev ?_; refine Ev.neg hm ?_; exact h)
  cases hp : pNum (Lb s i1) with
  | none => exact zero m j3 bd c1 (.inr (c3 hp))
  | some p =>
   obtain ⟨v, q⟩ := p
   obtain ⟨rfl, rfl, i3, rfl, c4, c5, c6⟩ := c2 v q hp
   show TestR s i _ (match (if v = 0 then none else some q) with | none => none | some q => pEq q)
   by_cases hv : v = 0
   ·rw [if_pos hv]
    exact zero (v : Int) (i3 : Int) false c1 (.inl yq9)
   rw [if_neg hv]
   show TestR s i _ (pEq q)
   rw [← c4]
   exact ((j3_q s hs i3 c6 a (v : Int) c d e).le yq9).ev fun r h => (by refine Ev.step (fun k => by rw [zan.j2]) ?_; refine Ev.bind (Ev.done a1) ?_; refine Ev.pos rfl ?_; refine Ev.bind c1 ?_; refine Ev.neg yq9 ?_; exact h)
theorem j2_b (s : ByteArray) (i0 : Nat) (i a b : Int) (c : Bool) (d e : Int) : TestR s i0 (fun k => zan.j2 k s i true a b c d e) none :=
 (j3_b s i0 i a b c d e).ev fun r h => (by refine Ev.step (fun k => by rw [zan.j2]) ?_; refine Ev.bind (Ev.done (take_b s i 37)) ?_; refine Ev.neg yq21 ?_; exact h)
theorem test_q (s : ByteArray) (hs : s.size ≤ 1099511627776) (i : Nat) (hi : i ≤ s.size) : TestR s i (fun k => zan.f k s (i : Int) false) (pTest (Lb s i)) := by
 unfold zan.f
 have bts : ∀ t : Nat, t < 4 → bt (⟨#[105, 102, 118, 110]⟩ : ByteArray) (t : Int) = (([105, 102, 118, 110] : List UInt8).getD t 0).toNat := by
  intro t ht
  have : t = 0 ∨ t = 1 ∨ t = 2 ∨ t = 3 := by omega
  rcases this with rfl | rfl | rfl | rfl <;> rfl
 have go : ∀ (d t : Nat), t + d = 4 → (∀ u, u < t → (pOpt (([105, 102, 118, 110] : List UInt8).getD u 0) (Lb s i)).1 = false) → TestR s i (fun k => zan.l0 k (t : Int) s (i : Int) false 0 0 false 0 0) (pTest (Lb s i)) := by
  intro d
  induction d with
  | zero =>
   intro t ht hno
   have hn : pTest (Lb s i) = none := by
    cases hL : Lb s i with
    | nil => rfl
    | cons c r =>
     show (if isOf c = true then _ else none) = none
     rw [if_neg]
     intro ho
     rw [hL] at hno
     have h0 := hno 0 yq9
     have h1 := hno 1 yq9
     have h2 := hno 2 yq9
     have h3 := hno 3 yq9
     have key : ∀ b : UInt8, (pOpt b (c :: r)).1 = false → c ≠ b := by
      intro b hb e
      unfold pOpt at hb
      simp only [e, if_true] at hb
      cases hb
     unfold isOf at ho
     simp only [Bool.or_eq_true, beq_iff_eq] at ho
     rcases ho with ((h | h) | h) | h
     ·exact key 105 h0 h
     ·exact key 102 h1 h
     ·exact key 118 h2 h
     exact key 110 h3 h
   rw [hn]
   obtain ⟨j, hj⟩ := fail_f s (i : Int) (i : Int) false
   exact (j2_b s i j 0 0 false 0 0).ev fun r h => (by refine Ev.step (fun k => by rw [zan.l0]) ?_; refine Ev.neg yq9 ?_; refine Ev.step (fun k => by rw [zan.j1]) ?_; refine Ev.pos rfl ?_; refine Ev.bind (Ev.done hj) ?_; exact h)
  | succ d ih =>
   intro t ht hno
   obtain ⟨i1, a1, a2, a3, a4⟩ := take_q s hs i hi (([105, 102, 118, 110] : List UInt8).getD t 0)
   rw [← bts t yq9] at a1
   cases hb : (pOpt (([105, 102, 118, 110] : List UInt8).getD t 0) (Lb s i)).1 with
   | true =>
    rw [hb] at a1
    have hne : bt (⟨#[105, 102, 118, 110]⟩ : ByteArray) (t : Int) ≠ 0 := by
     have : t = 0 ∨ t = 1 ∨ t = 2 ∨ t = 3 := by omega
     rcases this with rfl | rfl | rfl | rfl <;> (intro h; cases h)
    have hp : pTest (Lb s i) = (match pMod (Lb s i1) with | none => none | some q => pEq q) := by
     cases hL : Lb s i with
     | nil => rw [hL] at hb; cases hb
     | cons c r =>
      rw [hL] at hb a2
      unfold pOpt at hb a2
      by_cases he : c = ([105, 102, 118, 110] : List UInt8).getD t 0
      ·have e2 : Lb s i1 = r := by rw [a2]; simp only [he, if_true]
       have ho : isOf c = true := by
        rw [he]
        have : t = 0 ∨ t = 1 ∨ t = 2 ∨ t = 3 := by omega
        rcases this with rfl | rfl | rfl | rfl <;> rfl
       rw [e2]
       show (if isOf c = true then _ else none) = _
       rw [if_pos ho]
       rfl
      simp only [he, if_false] at hb
      cases hb
    rw [hp]
    exact ((j2_q s hs i1 a4 (bt (⟨#[105, 102, 118, 110]⟩ : ByteArray) (t : Int)) 0 false 0 0).le a3).ev fun r h => (by refine Ev.step (fun k => by rw [zan.l0]) ?_; refine Ev.pos yq9 ?_; refine Ev.pos yq9 ?_; refine Ev.bind (Ev.done a1) ?_; refine Ev.pos rfl ?_; refine Ev.step (fun k => by rw [zan.j1]) ?_; refine Ev.neg hne ?_; exact h)
   | false =>
    rw [hb] at a1
    have e2 : i1 = i := by
     have hl : (Lb s i1).length = (Lb s i).length := by
      rw [a2, pOpt_no hb]
     rw [Lb_len, Lb_len] at hl
     omega
    subst e2
    have e3 := zaa.mk (w_succ t yq9)
    exact (ih (t + 1) yq9 (fun u hu => by
     rcases Nat.lt_or_eq_of_le (Nat.le_of_lt_succ hu) with h | rfl
     ·exact hno u h
     exact hb)).ev fun r h => (by refine Ev.step (fun k => by rw [zan.l0, e3.out]) ?_; refine Ev.pos yq9 ?_; refine Ev.pos yq9 ?_; refine Ev.bind (Ev.done a1) ?_; refine Ev.neg yq21 ?_; exact h)
 exact go 4 0 rfl (fun u hu => absurd hu yq9)
end Go.Proofs.YtfafjbolmeimmaaGreatDoor.P
