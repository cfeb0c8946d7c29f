/- slices.Insert of one number into a row of the call's own: a row of the call's own with the number at its place. -/
import Derived.Test.YtbppeepihlajoaaDoorXSo
import Derived.Shelf.Spec.SlicesInsert
import Derived.Lib.AppendZerosOnto
import Derived.Laws.NewBlocks
namespace Go.Proofs.YtbppeepihlajoaaDoor.P
open Go.RowKit Go.Lib Go.Proofs.YtbppeepihlajoaaDoorW.PrintWords Go.Proofs.YtbppeepihlajoaaDoorW.PrintMore
set_option linter.unusedVariables false
set_option linter.unusedSimpArgs false
def insAt (l : List Int) (i : Nat) (n : Int) : List Int := l.take i ++ n :: l.drop i
theorem insAt_len (l : List Int) (i : Nat) (n : Int) (h : i ≤ l.length) : (insAt l i n).length = l.length + 1 := by
 unfold insAt; rw [List.length_append, List.length_cons, List.length_take, List.length_drop]; omega
structure OwnAt (w : World) (base g cap : Nat) (l : List Int) (cur : Array Value) : Prop where
 low : base ≤ g
 blk : w.heap[g]? = some (.cells cur 2 (0, 0))
 len : l.length ≤ cap
 max : cap ≤ maxLen
 size : cur.size = cap
 take : cur.toList.take l.length = encs (Value.int .i64) l
theorem OwnAt.cell {w : World} {base g cap : Nat} {l : List Int} {cur : Array Value} (h : OwnAt w base g cap l cur) (j : Nat) (v : Value) (hj : (encs (Value.int .i64) l)[j]? = some v) : w.cell? ⟨g, j, none⟩ = some v := by
 have hjl : j < l.length := by
  obtain ⟨a, _⟩ := List.getElem?_eq_some_iff.1 hj
  simpa [encs] using a
 rw [zaO h.blk, ← Array.getElem?_toList, ← hj, ← h.take, List.getElem?_take_of_lt hjl]
theorem OwnAt.there {w : World} {base g cap : Nat} {l : List Int} {cur : Array Value} (h : OwnAt w base g cap l cur) (j : Nat) (hj : j < cap) : (w.cell? ⟨g, j, none⟩).isSome = true := by
 rw [zaO h.blk, Array.getElem?_eq_getElem (by rw [h.size]; exact hj)]; rfl
theorem encs_one {v : Value} {l : List Int} (h : v ∈ encs (Value.int .i64) l) : v.oneCell' = true := by
 obtain ⟨x, _, rfl⟩ := List.mem_map.1 h
 rfl
theorem grown_setCells (W : World) (g : Nat) (vs : List Value) (o : Nat) : W.grownBy (W.setCells g o vs) (some g) :=
 ⟨(setCells_same g vs o W).1, (setCells_same g vs o W).2.1, (setCells_same g vs o W).2.2.1, Nat.le_of_eq (setCells_same g vs o W).2.2.2.symm, fun k _ hne => setCells_far vs o k (fun h => hne (by rw [h]))⟩
theorem list_shift (l : List Int) (i : Nat) (n : Int) (hi : i < l.length) (cur : List Value) (hc : l.length + 1 ≤ cur.length) (ht : cur.take l.length = encs (Value.int .i64) l) (c1 c2 : List Value)
  (h1 : c1 = cur.take (i + 1) ++ (encs (Value.int .i64) l).drop i ++ cur.drop (i + 1 + ((encs (Value.int .i64) l).drop i).length)) (h2 : c2 = c1.take i ++ [.int .i64 n] ++ c1.drop (i + 1)) :
  c2.take (l.length + 1) = encs (Value.int .i64) (insAt l i n) := by
 have e0 : (encs (Value.int .i64) l).length = l.length := by simp [encs]
 have a1 : (cur.take (i + 1)).length = i + 1 := by rw [List.length_take]; omega
 have e1 : c1.take i = (encs (Value.int .i64) l).take i := by
  rw [h1, List.append_assoc, List.take_append_of_le_length (by omega), List.take_take, Nat.min_eq_left (by omega), ← ht, List.take_take, Nat.min_eq_left (by omega)]
 have e2 : c1.drop (i + 1) = (encs (Value.int .i64) l).drop i ++ cur.drop (i + 1 + ((encs (Value.int .i64) l).drop i).length) := by
  rw [h1, List.append_assoc, List.drop_append_of_le_length (by omega), List.drop_eq_nil_of_le (by omega), List.nil_append]
 have e3 : ((encs (Value.int .i64) l).take i).length = i := by rw [List.length_take]; omega
 have e4 : ((encs (Value.int .i64) l).drop i).length = l.length - i := by rw [List.length_drop]; omega
 rw [h2, e1, e2]
 have e5 : (encs (Value.int .i64) (insAt l i n)) = (encs (Value.int .i64) l).take i ++ [.int .i64 n] ++ (encs (Value.int .i64) l).drop i := by
  simp [encs, insAt, List.map_take, List.map_drop]
 rw [e5, ← List.append_assoc, List.take_append_of_le_length (by simp only [List.length_append, List.length_singleton, e3, e4]; omega), List.take_of_length_le (by simp only [List.length_append, List.length_singleton, e3, e4]; omega)]
set_option maxHeartbeats 4000000 in
set_option maxRecDepth 100000 in
theorem insert_shift (base g cap i vb : Nat) (l : List Int) (cur : Array Value) (n : Int) (W : World) (hO : OwnAt W base g cap l cur) (hi : i < l.length) (hroom : l.length + 1 ≤ cap) (hvb : W.heap[vb]? = some (.cells #[.int .i64 n] 2 (0, 0))) (hne : vb ≠ g) :
  Calls Tryd.prog 104 #[.slice (some ⟨g, 0, none⟩) l.length cap, .int .i64 i, .slice (some ⟨vb, 0, none⟩) 1 1] W fun e w' =>
   e = .returned (.slice (some ⟨g, 0, none⟩) (l.length + 1) cap) ∧ w' = (W.drew.setCells g (i + 1) ((encs (Value.int .i64) l).drop i)).setCells g i [.int .i64 n] := by
 have hm := hO.max
 unfold maxLen at hm
 have h63 : cap ≤ 9223372036854775807 := by omega
 have hel : (encs (Value.int .i64) l).length = l.length := by simp [encs]
 obtain ⟨cs, hcs⟩ : ∃ cs, cs = encs (Value.int .i64) l := ⟨_, rfl⟩
 have hcell : ∀ j v, cs[j]? = some v → W.cell? ⟨g, j, none⟩ = some v := by rw [hcs]; exact hO.cell
 have hone : ∀ v ∈ cs, v.oneCell' = true := by rw [hcs]; exact fun v hv => encs_one hv
 have hcl : cs.length = l.length := by rw [hcs]; exact hel
 rw [← hcs]
 obtain ⟨m, hmm⟩ : ∃ m, m = l.length := ⟨_, rfl⟩
 rw [← hmm] at hi hroom hcl ⊢
 have hsz : (Tryd.prog.info? 2).map (·.size) = some 1 := by
  obtain ⟨i0, hi0, h0, h1, h2⟩ := info_parts info2
  rw [hi0]; simp [h1]
 have hsb : W.shape? g = some (2, cap) := by simp [World.shape?, hO.blk, hO.size]
 have hsa : W.shape? vb = some (2, 1) := by simp [World.shape?, hvb]
 have hov : ∀ lb cb, (callFunc 146 #[.slice (some ⟨vb, 0, none⟩) 1 1, .slice (some ⟨g, i + 1, none⟩) lb cb]).run Tryd.prog W = .ok (.value (.bool false)) W := fun lb cb => by
  rw [run_callFunc_extern Tryd.func146 (by kernel_rfl) (by kernel_rfl) (by kernel_rfl) (e := Extern.SlicesOverlaps.overlaps #[67, 67] #[4]) (by kernel_rfl),
   Lib.run_overlaps_apart W 67 4 2 Tryd.underlying67 1 Tryd.sizeOf2 ⟨vb, 0, none⟩ ⟨g, i + 1, none⟩ 1 1 lb cb hne 2 2 1 cap hsa hsb (by omega) (zaA hvb 0) (zaA hvb 1)]
  rfl
 have hdl : (cs.drop i).length = m - i := by rw [List.length_drop, hcl]
 have hz2 : ¬ ((i : Int) = (m : Int)) := by omega
 have hb1 : (0 : Int) ≤ (i : Int) + 1 := by omega
 have hin : i ≤ m := by omega
 have htn : ((i : Int) + 1).toNat = i + 1 := by omega
 have hb2 : ¬ (cap = i + 1) := by omega
 have hb3 : (i : Int) ≤ (m : Int) + 1 := by omega
 have hb4 : ¬ (cap = i) := by omega
 have hcp1 : ∀ ty dc sc, (Builtin.copy_ #[67, 67] ty #[.slice (some ⟨g, i + 1, none⟩) (m - i) dc, .slice (some ⟨g, i, none⟩) (m + 1 - i) sc]).run Tryd.prog W.drew = .ok (goInt (cs.drop i).length) (W.drew.setCells g (i + 1) (cs.drop i)) := fun ty dc sc =>
  run_copy_cells W.drew _ _ ty 2 g (i + 1) (m - i) dc ⟨g, i, none⟩ (m + 1 - i) sc (cs.drop i) Tryd.underlying67 hsz (by rw [hdl]; simp only [Nat.min_def]; split <;> omega)
   (fun j v hj => by rw [Addr.add_lit]; exact hcell (i + j) v (by rwa [List.getElem?_drop] at hj))
   (fun j hj => hO.there _ (by rw [hdl] at hj; omega)) (fun j hj => zaA hO.blk _) (fun v hv => hone v (List.mem_of_mem_drop hv))
 obtain ⟨W1, hW1⟩ : ∃ W1, W1 = W.drew.setCells g (i + 1) (cs.drop i) := ⟨_, rfl⟩
 have hsp1 : ∀ k, k < m + 1 → (W1.cell? ⟨g, k, none⟩).isSome = true := fun k hk => by
  rw [hW1]
  exact isSome_setCells g (cs.drop i) (i + 1) W.drew (fun j hj => hO.there (i + 1 + j) (by rw [hdl] at hj; omega)) k (hO.there k (by omega))
 have hcp2 : ∀ (X : World), (∀ x, X.cell? x = W1.cell? x) → (∀ x, X.frozen? x = W1.frozen? x) → ∀ ty dc, (Builtin.copy_ #[67, 67] ty #[.slice (some ⟨g, i, none⟩) (m + 1 - i) dc, .slice (some ⟨vb, 0, none⟩) 1 1]).run Tryd.prog X = .ok (goInt ([.int .i64 n] : List Value).length) (X.setCells g i [.int .i64 n]) := fun X hWc hWf ty dc =>
  run_copy_cells X _ _ ty 2 g i (m + 1 - i) dc ⟨vb, 0, none⟩ 1 1 [.int .i64 n] Tryd.underlying67 hsz (by simp only [Nat.min_def, List.length_singleton]; split <;> omega)
   (fun j v hj => by
    rw [Addr.add_lit, hWc, hW1, World.cell?_setCells_out g _ _ _ _ (fun h _ => absurd h hne)]
    have : j = 0 := by have := (List.getElem?_eq_some_iff.1 hj).1; simpa using this
    subst this
    have e := zaO hvb 0
    show W.drew.cell? ⟨vb, 0, none⟩ = some v
    rw [show W.drew.cell? ⟨vb, 0, none⟩ = W.cell? ⟨vb, 0, none⟩ from rfl, e]
    simpa using hj)
   (fun j hj => by rw [hWc]; simp only [List.length_singleton] at hj; exact hsp1 _ (by omega)) (fun j hj => by rw [hWf, hW1, World.frozen?_setCells]; exact zaA hO.blk _) (fun v hv => by simp only [List.mem_singleton] at hv; subst hv; rfl)
 rw [← hW1] at hcp1
 clear hcell hone hcs hmm hsa hsb hsp1 hel
 have mixed : Tryd.prog.follows .mixedOrders = true := by kernel_rfl
 have hw1 : IntKind.i64.wrap ((i : Int) + 1) = (i : Int) + 1 := by rw [IntKind.wrap_i64]; omega
 have hw2 : IntKind.i64.wrap ((m : Int) + 1) = (m : Int) + 1 := by clear hw1; rw [IntKind.wrap_i64]; omega
 go_enter Tryd.func104, Tryd.ntmps104
 go_wp2_with (simp only [hov])
 go_region_law_o (refine step_copy_runI rfl _ _ 67 67 rfl _ _ (by simp [Act.eval, Act.put]) (by simp [Act.eval, Act.put]) (hcp1 _ _ _) ?_)
 go_wp2_with (at_builtin; refine wpList_copy_runI _ rfl _ _ 67 67 rfl _ _ rfl rfl (hcp2 _ (fun _ => rfl) (fun _ => rfl) _ _) ?_)
 go_ret
 first | exact ⟨rfl, rfl⟩ | exact ⟨rfl, by rw [hW1]⟩
set_option maxHeartbeats 4000000 in
set_option maxRecDepth 100000 in
theorem insert_grow (base g cap i vb : Nat) (l : List Int) (cur : Array Value) (n : Int) (W : World) (hO : OwnAt W base g cap l cur) (hi : i < l.length) (hroom : cap < l.length + 1) (hbig : (l.length + 1) * 8 ≤ 140737488355328) (hvb : W.heap[vb]? = some (.cells #[.int .i64 n] 2 (0, 0))) :
  Calls Tryd.prog 104 #[.slice (some ⟨g, 0, none⟩) l.length cap, .int .i64 i, .slice (some ⟨vb, 0, none⟩) 1 1] W fun e w' =>
   ∃ (G : Nat) (ROW : Array Value), l.length + 1 ≤ G ∧ G ≤ maxLen ∧ ROW.size = G ∧ ROW.toList.take i = (encs (Value.int .i64) l).take i ∧ e = .returned (.slice (some ⟨W.heap.size, 0, none⟩) (l.length + 1) G) ∧
   w' = (((W.alloc (.cells ROW 2)).drew.setCells W.heap.size i [.int .i64 n]).drew).setCells W.heap.size (i + 1) ((encs (Value.int .i64) l).drop i) := by
 have hel : (encs (Value.int .i64) l).length = l.length := by simp [encs]
 have hle := hO.len
 obtain ⟨cs, hcs⟩ : ∃ cs, cs = encs (Value.int .i64) l := ⟨_, rfl⟩
 have hcell : ∀ j v, cs[j]? = some v → W.cell? ⟨g, j, none⟩ = some v := by rw [hcs]; exact hO.cell
 have hone : ∀ v ∈ cs, v.oneCell' = true := by rw [hcs]; exact fun v hv => encs_one hv
 have hcl : cs.length = l.length := by rw [hcs]; exact hel
 rw [← hcs]
 obtain ⟨m, hmm⟩ : ∃ m, m = l.length := ⟨_, rfl⟩
 rw [← hmm] at hi hroom hcl hbig hle ⊢
 obtain ⟨i0, hi0, hz0, hzs, hzb⟩ := info_parts info2
 have hsz : (Tryd.prog.info? 2).map (·.size) = some 1 := by rw [hi0]; simp [hzs]
 have hgw : g < W.heap.size := blk_lt hO.blk
 have hvw : vb < W.heap.size := blk_lt hvb
 have hkk : (m : Int) + 1 - (i : Int) = ((m + 1 - i : Nat) : Int) := by omega
 have hik : i + (m + 1 - i) = m + 1 := by omega
 have hold : (Builtin.firstCells i0.size i (.slice (some ⟨g, 0, none⟩) i cap)).run Tryd.prog W.drew = .ok (cs.take i).toArray W.drew := by
  rw [hzs]
  exact run_firstCells_some W.drew 1 i ⟨g, 0, none⟩ i cap (cs.take i) (by rw [List.length_take]; omega) (fun j v hj => by
   rw [Addr.add_lit, Nat.zero_add]
   rw [List.getElem?_take] at hj
   split at hj
   ·exact hcell j v hj
   cases hj)
 have hrz : ∀ ty, (Builtin.append_ #[67, 3] ty #[.slice (some ⟨g, 0, none⟩) i cap, .int .i64 ((m : Int) + 1 - (i : Int))]).run Tryd.prog W =
   .ok (.slice (some ⟨W.heap.size, 0, none⟩) (m + 1) (grownCap W (m + 1) cap 2)) (W.drew.alloc (.cells ((cs.take i).toArray ++ Builtin.zeroCells (Value.int .i64 0).cells (m + 1 - i) ++ Builtin.zeroCells (Value.int .i64 0).cells (grownCap W (m + 1) cap 2 - (m + 1))) 2)) := fun ty => by
  have h := Lib.run_append_grow_zeros W 67 3 ty 2 i0 _ .i64 .i64 Tryd.underlying67 Tryd.underlying3 hi0 hz0 (some ⟨g, 0, none⟩) i cap (cs.take i) hold (m + 1 - i) (by omega) (by omega) (by omega) (by omega) (by rw [hzb]; omega) (by rw [hzb, hik]; exact growslice_fits hroom hbig)
  rw [hik] at h
  rw [hkk]
  exact h
 obtain ⟨G, hG⟩ : ∃ G, G = grownCap W (m + 1) cap 2 := ⟨_, rfl⟩
 have hGn : m + 1 ≤ G := by rw [hG]; exact grownCap_ge W _ _ _
 have hGm : G ≤ maxLen := by rw [hG]; exact grownCap_le_maxLen W (m + 1) cap 2 (by unfold maxLen; omega)
 obtain ⟨ROW, hROW⟩ : ∃ ROW : Array Value, ROW = (cs.take i).toArray ++ Builtin.zeroCells (Value.int .i64 0).cells (m + 1 - i) ++ Builtin.zeroCells (Value.int .i64 0).cells (G - (m + 1)) := ⟨_, rfl⟩
 rw [← hG] at hrz
 rw [← hROW] at hrz
 have hRG : ROW.size = G := by
  rw [hROW]
  simp [Builtin.zeroCells, Value.cells]
  omega
 have hRt : ROW.toList.take i = cs.take i := by
  rw [hROW]
  simp only [Array.toList_append, List.append_assoc]
  rw [List.take_append_of_le_length (by rw [List.length_take]; omega), List.take_take, Nat.min_self]
 have hG63 : G ≤ 9223372036854775807 := by unfold maxLen at hGm; omega
 obtain ⟨W1, hW1⟩ : ∃ W1, W1 = W.drew.alloc (.cells ROW 2) := ⟨_, rfl⟩
 rw [← hW1] at hrz
 have hN : ∀ j, j < m + 1 → (W1.cell? ⟨W.heap.size, j, none⟩).isSome = true := fun j hj => by
  rw [hW1, World.cell?_alloc_at (w := W.drew) ROW _ W.heap.size j rfl, Array.getElem?_eq_getElem (by omega)]; rfl
 have hNf : ∀ j, W1.frozen? ⟨W.heap.size, j, none⟩ = false := fun j => by rw [hW1]; exact World.frozen?_alloc_at (w := W.drew) ROW _ W.heap.size j rfl
 have hOb : ∀ j v, W.cell? ⟨g, j, none⟩ = some v → W1.cell? ⟨g, j, none⟩ = some v := fun j v h => by rw [hW1, World.cell?_alloc_past (w := W.drew) _ g j hgw]; exact h
 have hOv : ∀ j v, W.cell? ⟨vb, j, none⟩ = some v → W1.cell? ⟨vb, j, none⟩ = some v := fun j v h => by rw [hW1, World.cell?_alloc_past (w := W.drew) _ vb j hvw]; exact h
 have hcpA : ∀ (X : World), (∀ x, X.cell? x = W1.cell? x) → (∀ x, X.frozen? x = W1.frozen? x) → ∀ ty dc, (Builtin.copy_ #[67, 67] ty #[.slice (some ⟨W.heap.size, i, none⟩) (m + 1 - i) dc, .slice (some ⟨vb, 0, none⟩) 1 1]).run Tryd.prog X = .ok (goInt ([.int .i64 n] : List Value).length) (X.setCells W.heap.size i [.int .i64 n]) := fun X hWc hWf ty dc =>
  run_copy_cells X _ _ ty 2 W.heap.size i (m + 1 - i) dc ⟨vb, 0, none⟩ 1 1 [.int .i64 n] Tryd.underlying67 hsz (by simp only [Nat.min_def, List.length_singleton]; split <;> omega)
   (fun j v hj => by
    rw [Addr.add_lit, hWc]
    have : j = 0 := by have := (List.getElem?_eq_some_iff.1 hj).1; simpa using this
    subst this
    refine hOv _ v ?_
    rw [Nat.zero_add, zaO hvb 0]
    simpa using hj)
   (fun j hj => by rw [hWc]; simp only [List.length_singleton] at hj; exact hN _ (by omega)) (fun j hj => by rw [hWf]; exact hNf _) (fun v hv => by simp only [List.mem_singleton] at hv; subst hv; rfl)
 have hGi : ¬ (G = i) := by omega
 have hGim : ¬ (G = i + 1) := by omega
 have hci : ¬ (cap = i) := by omega
 have hbN : g ≠ W.heap.size := by omega
 have hdl : (cs.drop i).length = m - i := by rw [List.length_drop, hcl]
 have hcpB : ∀ (X : World), (∀ x, X.cell? x = (W1.setCells W.heap.size i [.int .i64 n]).cell? x) → (∀ x, X.frozen? x = (W1.setCells W.heap.size i [.int .i64 n]).frozen? x) → ∀ ty dc sc, (Builtin.copy_ #[67, 67] ty #[.slice (some ⟨W.heap.size, i + 1, none⟩) (m - i) dc, .slice (some ⟨g, i, none⟩) (m - i) sc]).run Tryd.prog X = .ok (goInt (cs.drop i).length) (X.setCells W.heap.size (i + 1) (cs.drop i)) := fun X hWc hWf ty dc sc =>
  run_copy_cells X _ _ ty 2 W.heap.size (i + 1) (m - i) dc ⟨g, i, none⟩ (m - i) sc (cs.drop i) Tryd.underlying67 hsz (by rw [hdl]; simp only [Nat.min_def]; split <;> omega)
   (fun j v hj => by
    rw [Addr.add_lit, hWc, World.cell?_setCells_out _ _ _ _ _ (fun h _ => absurd h hbN)]
    exact hOb _ v (hcell (i + j) v (by rwa [List.getElem?_drop] at hj)))
   (fun j hj => by rw [hdl] at hj; rw [hWc]; exact isSome_setCells _ _ _ _ (fun t ht => by simp only [List.length_singleton] at ht; exact hN _ (by omega)) _ (hN _ (by omega)))
   (fun j hj => by rw [hWf, World.frozen?_setCells]; exact hNf _) (fun v hv => hone v (List.mem_of_mem_drop hv))
 subst hW1
 have hE1 : ∀ x, ((W.alloc (.cells ROW 2)).drew).cell? x = (W.drew.alloc (.cells ROW 2)).cell? x := fun x => rfl
 have hE2 : ∀ x, ((W.alloc (.cells ROW 2)).drew).frozen? x = (W.drew.alloc (.cells ROW 2)).frozen? x := fun x => rfl
 have hF1 : ∀ x, (((W.alloc (.cells ROW 2)).drew.setCells W.heap.size i [.int .i64 n]).drew).cell? x = ((W.drew.alloc (.cells ROW 2)).setCells W.heap.size i [.int .i64 n]).cell? x := fun x => rfl
 have hF2 : ∀ x, (((W.alloc (.cells ROW 2)).drew.setCells W.heap.size i [.int .i64 n]).drew).frozen? x = ((W.drew.alloc (.cells ROW 2)).setCells W.heap.size i [.int .i64 n]).frozen? x := fun x => rfl
 have hz2 : ¬ ((i : Int) = (m : Int)) := by omega
 have hz3 : (cap : Int) < (m : Int) + 1 := by omega
 have hb1 : (0 : Int) ≤ (i : Int) + 1 := by omega
 have hin : i ≤ m := by omega
 have htn : ((i : Int) + 1).toNat = i + 1 := by omega
 have hb3 : (i : Int) ≤ (m : Int) := by omega
 have HRG := zac.mk hRG; have HRT := zac.mk hRt; have HGM := zac.mk hGm; clear hkk hik hold hROW hG hRG hRt hGm hcell hone hcs hmm hel hN hNf hOb hOv
 have mixed : Tryd.prog.follows .mixedOrders = true := by kernel_rfl
 have hw1 : IntKind.i64.wrap ((i : Int) + 1) = (i : Int) + 1 := by rw [IntKind.wrap_i64]; omega
 have hw2 : IntKind.i64.wrap ((m : Int) + 1) = (m : Int) + 1 := by clear hw1; rw [IntKind.wrap_i64]; omega
 go_enter Tryd.func104, Tryd.ntmps104
 go_wp2_with (first
  | (at_builtin; refine Lib.wpList_append_run _ rfl _ _ _ _ rfl _ _ rfl rfl _ _ (hrz _) ?_)
  | (at_builtin; refine wpList_copy_runI _ rfl _ _ 67 67 rfl _ _ rfl rfl (hcpA _ hE1 hE2 _ _) ?_)
  | (at_builtin; refine wpList_copy_runI _ rfl _ _ 67 67 rfl _ _ rfl rfl (hcpB _ (fun _ => rfl) (fun _ => rfl) _ _ _) ?_))
 go_region_law_o (refine step_copy_runI rfl _ _ 67 67 rfl (.slice (some ⟨W.heap.size, i + 1, none⟩) (m - i) (G - (i + 1))) (.slice (some ⟨g, i, none⟩) (m - i) (cap - i)) (by simp [Act.eval, Act.put]) (by simp [Act.eval, Act.put]) (hcpB _ hF1 hF2 3 (G - (i + 1)) (cap - i)) ?_)
 go_wp2
 go_ret
 exact ⟨G, ROW, hGn, HGM.out, HRG.out, HRT.out, rfl, rfl⟩
set_option maxHeartbeats 4000000 in
set_option maxRecDepth 100000 in
theorem insert_end (base vb : Nat) (v : Value) (l : List Int) (n : Int) (W : World) (hO : W.ownsRow base 2 1 v l.length (encs (Value.int .i64) l)) (hbase : base ≤ W.heap.size) (hbig : (l.length + 1) * 8 ≤ 140737488355328) (hvb : W.heap[vb]? = some (.cells #[.int .i64 n] 2 (0, 0))) :
  Calls Tryd.prog 104 #[v, .int .i64 l.length, .slice (some ⟨vb, 0, none⟩) 1 1] W fun e w' =>
   ∃ v', e = .returned v' ∧ w'.ownsRow base 2 1 v' (l.length + 1) (encs (Value.int .i64) l ++ [.int .i64 n]) ∧ W.grownBy w' v.ownBlock := by
 obtain ⟨i0, hi0, hz0, hzs, hzb⟩ := info_parts info2
 have hv0 : W.cell? ⟨vb, 0, none⟩ = some (.int .i64 n) := by rw [zaO hvb 0]; rfl
 have hsl : ∃ A c, v = .slice A l.length c ∧ l.length ≤ c ∧ c ≤ 9223372036854775807 ∧ (A = none → l.length = 0 ∧ c = 0) := by
  rcases hO.2 with ⟨e, h0⟩ | ⟨g, cap, cur, e, _, _, h1, h2, _⟩
  ·exact ⟨none, 0, by rw [e, h0], by omega, by omega, fun _ => ⟨h0, rfl⟩⟩
  exact ⟨_, cap, e, h1, by unfold maxLen at h2; omega, fun h => by cases h⟩
 obtain ⟨A, c, rfl, hlc, hc63, hnil⟩ := hsl
 have HO := zac.mk hO; have HI := zac.mk hi0
 obtain ⟨m, hmm⟩ : ∃ m, m = l.length := ⟨_, rfl⟩
 rw [← hmm] at hlc hbig hnil
 have HM := zac.mk hmm
 have HO2 := zac.mk (show W.ownsRow base 2 1 (.slice A m c) m (encs (Value.int .i64) l) by rw [hmm]; exact hO)
 rw [← hmm]
 clear hO hi0 hmm HO
 go_enter Tryd.func104, Tryd.ntmps104
 have main : ∀ (A : Option Addr) (c : Nat), zac (W.ownsRow base 2 1 (.slice A m c) m (encs (Value.int .i64) l)) → True := fun _ _ _ => trivial
 cases A with
 | none =>
  obtain ⟨hm0, hc0⟩ := hnil rfl
  subst hm0 hc0
  go_wp2_with (at_builtin; refine wpList_append_own _ rfl _ _ 67 rfl base 2 i0 (.int .i64 0) 1 8 Tryd.underlying67 HI.out hz0 hzs hzb rfl (by decide) _ _ _ rfl HO2.out ⟨vb, 0, none⟩ 1 1 [.int .i64 n] rfl rfl ?c1 ?c2 ?c3 ?c4 hbase ?_; (case c1 => (intro j u hj; have : j = 0 := (by have := (List.getElem?_eq_some_iff.1 hj).1; simpa using this); subst this; rw [← hj]; exact hv0)); (case c2 => (intro u hu; simp only [List.mem_singleton] at hu; subst hu; rfl)); (case c3 => (unfold maxLen; omega)); (case c4 => omega); intro v' w1 hown' hgrow _)
  go_ret
  exact ⟨_, rfl, hown', hgrow⟩
 | some a =>
  clear hnil
  obtain ⟨ab, ao, asp⟩ := a
  by_cases hcm : c = m
  all_goals
   go_wp2_with (at_builtin; refine wpList_append_own _ rfl _ _ 67 rfl base 2 i0 (.int .i64 0) 1 8 Tryd.underlying67 HI.out hz0 hzs hzb rfl (by decide) _ _ _ rfl HO2.out ⟨vb, 0, none⟩ 1 1 [.int .i64 n] rfl rfl ?c1 ?c2 ?c3 ?c4 hbase ?_; (case c1 => (intro j u hj; have : j = 0 := (by have := (List.getElem?_eq_some_iff.1 hj).1; simpa using this); subst this; rw [← hj]; exact hv0)); (case c2 => (intro u hu; simp only [List.mem_singleton] at hu; subst hu; rfl)); (case c3 => (unfold maxLen; omega)); (case c4 => omega); intro v' w1 hown' hgrow _)
   go_ret
   exact ⟨_, rfl, hown', hgrow⟩
theorem insert_own (base i vb : Nat) (v : Value) (l : List Int) (n : Int) (W : World) (hO : W.ownsRow base 2 1 v l.length (encs (Value.int .i64) l)) (hbase : base ≤ W.heap.size) (hi : i ≤ l.length) (hbig : (l.length + 1) * 8 ≤ 140737488355328)
  (hvb : W.heap[vb]? = some (.cells #[.int .i64 n] 2 (0, 0))) (hne : some vb ≠ v.ownBlock) :
  Calls Tryd.prog 104 #[v, .int .i64 i, .slice (some ⟨vb, 0, none⟩) 1 1] W fun e w' =>
   ∃ v', e = .returned v' ∧ w'.ownsRow base 2 1 v' (insAt l i n).length (encs (Value.int .i64) (insAt l i n)) ∧ W.grownBy w' v.ownBlock := by
 have hil := insAt_len l i n hi
 by_cases he : i = l.length
 ·subst he
  refine (insert_end base vb v l n W hO hbase hbig hvb).mono ?_
  rintro e w' ⟨v', he, ho, hg⟩
  refine ⟨v', he, ?_, hg⟩
  rw [hil]
  have e2 : encs (Value.int .i64) (insAt l l.length n) = encs (Value.int .i64) l ++ [.int .i64 n] := by simp [encs, insAt]
  rw [e2]
  exact ho
 have hlt : i < l.length := by omega
 rcases hO.2 with ⟨e, h0⟩ | ⟨g, cap, cur, rfl, h1, h2, h3, h4, h5, h6⟩
 ·omega
 have hA : OwnAt W base g cap l cur := ⟨h1, h2, h3, h4, by rw [h5]; omega, by rw [Nat.mul_one] at h6; exact h6⟩
 have hne' : vb ≠ g := fun h => hne (by rw [h]; rfl)
 have hel : (encs (Value.int .i64) l).length = l.length := by simp [encs]
 have hdl : ((encs (Value.int .i64) l).drop i).length = l.length - i := by rw [List.length_drop, hel]
 have hcl : cur.toList.length = cap := by rw [Array.length_toList]; exact hA.size
 by_cases hroom : l.length + 1 ≤ cap
 ·refine (insert_shift base g cap i vb l cur n W hA hlt hroom hvb hne').mono ?_
  rintro e w' ⟨he, hw⟩
  refine ⟨_, he, ?_, ?_⟩
  ·obtain ⟨c1, b1, s1, t1⟩ := setCells_row ((encs (Value.int .i64) l).drop i) (i + 1) W.drew cur h2 (by rw [hdl, hA.size]; omega)
   obtain ⟨c2, b2, s2, t2⟩ := setCells_row [.int .i64 n] i _ c1 b1 (by rw [s1, hA.size]; simp; omega)
   rw [← hw] at b2
   rw [hil]
   refine ⟨by simp only [encs, List.length_map]; rw [hil]; omega, .inr ⟨g, cap, c2, rfl, h1, b2, hroom, h4, by rw [s2, s1, hA.size]; omega, ?_⟩⟩
   rw [Nat.mul_one]
   refine list_shift l i n hlt cur.toList (by omega) hA.take c1.toList c2.toList t1 ?_
   rw [t2]; simp only [List.length_singleton]
  subst hw
  have g1 := grown_setCells W.drew g ((encs (Value.int .i64) l).drop i) (i + 1)
  have g2 := grown_setCells (W.drew.setCells g (i + 1) ((encs (Value.int .i64) l).drop i)) g [.int .i64 n] i
  exact ⟨g2.os.trans g1.os, g2.tape.trans g1.tape, g2.output.trans g1.output, Nat.le_trans g1.size g2.size, fun k hk hkn => (g2.block k (Nat.lt_of_lt_of_le hk g1.size) hkn).trans (g1.block k hk hkn)⟩
 refine (insert_grow base g cap i vb l cur n W hA hlt (by omega) hbig hvb).mono ?_
 rintro e w' ⟨G, ROW, q1, q2, q3, q4, he, hw⟩
 refine ⟨_, he, ?_, ?_⟩
 ·have hb0 : ((W.alloc (.cells ROW 2)).drew).heap[W.heap.size]? = some (.cells ROW 2 (0, 0)) := by
   show (W.alloc (.cells ROW 2)).heap[W.heap.size]? = _
   simpa using heap_alloc_new W (.cells ROW 2)
  obtain ⟨c1, b1, s1, t1⟩ := setCells_row [.int .i64 n] i _ ROW hb0 (by rw [q3]; simp; omega)
  obtain ⟨c2, b2, s2, t2⟩ := setCells_row ((encs (Value.int .i64) l).drop i) (i + 1) (((W.alloc (.cells ROW 2)).drew.setCells W.heap.size i [.int .i64 n]).drew) c1 b1 (by rw [hdl, s1, q3]; omega)
  rw [← hw] at b2
  rw [hil]
  refine ⟨by simp only [encs, List.length_map]; rw [hil]; omega, .inr ⟨W.heap.size, G, c2, rfl, hbase, b2, q1, q2, by rw [s2, s1, q3]; omega, ?_⟩⟩
  rw [Nat.mul_one]
  have e5 : (encs (Value.int .i64) (insAt l i n)) = (encs (Value.int .i64) l).take i ++ [.int .i64 n] ++ (encs (Value.int .i64) l).drop i := by
   simp [encs, insAt, List.map_take, List.map_drop]
  have e3 : ((encs (Value.int .i64) l).take i).length = i := by rw [List.length_take]; omega
  have e6 : c1.toList.take (i + 1) = (encs (Value.int .i64) l).take i ++ [.int .i64 n] := by
   rw [t1, q4, List.take_append_of_le_length (by simp only [List.length_append, List.length_singleton, e3]; omega), List.take_of_length_le (by simp only [List.length_append, List.length_singleton, e3]; omega)]
  rw [t2, e6, e5, List.take_append_of_le_length (by simp only [List.length_append, List.length_singleton, e3, hdl]; omega), List.take_of_length_le (by simp only [List.length_append, List.length_singleton, e3, hdl]; omega)]
 subst hw
 have g0 : W.grownBy ((W.alloc (.cells ROW 2)).drew) (some W.heap.size) := grown_of_below (zad (zae (Below.refl _ _) _)) _
 have g1 := grown_setCells ((W.alloc (.cells ROW 2)).drew) W.heap.size [.int .i64 n] i
 have g2 := grown_setCells (((W.alloc (.cells ROW 2)).drew.setCells W.heap.size i [.int .i64 n]).drew) W.heap.size ((encs (Value.int .i64) l).drop i) (i + 1)
 refine ⟨g2.os.trans (g1.os.trans g0.os), g2.tape.trans (g1.tape.trans g0.tape), g2.output.trans (g1.output.trans g0.output), Nat.le_trans g0.size (Nat.le_trans g1.size g2.size), fun k hk hkn => ?_⟩
 have hkw : some k ≠ some W.heap.size := fun h => by injection h with h; omega
 exact (g2.block k (Nat.lt_of_lt_of_le hk (Nat.le_trans g0.size g1.size)) hkw).trans ((g1.block k (Nat.lt_of_lt_of_le hk g0.size) hkw).trans (g0.block k hk hkw))
end Go.Proofs.YtbppeepihlajoaaDoor.P
