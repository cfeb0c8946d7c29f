/- impl's lines comes to what plain Lean functions say. -/
import Derived.Test.YtbppeepihlajoaaDoorXLnM
import Derived.OneCell
import Derived.RegionTactic
import Derived.ChangeAlike
namespace Go.Proofs.YtbppeepihlajoaaDoor.P
open Go.RowKit Go.Proofs.YtbppeepihlajoaaDoorW.PrintWords Go.Proofs.YtbppeepihlajoaaDoorW.PrintLast Go.Proofs.YtbppeepihlajoaaDoorW.PrintMore
set_option linter.unusedVariables false
set_option linter.unusedSimpArgs false
def Fx (L : List (Nat × Obj)) (w : World) : Prop := ∀ x ∈ L, w.heap[x.1]? = some x.2
theorem Fx.alloc {L : List (Nat × Obj)} {w : World} (h : Fx L w) (o : Obj) : Fx L (w.alloc o) := fun x hx => zai (h x hx) o
theorem Fx.drew {L : List (Nat × Obj)} {w : World} (h : Fx L w) : Fx L w.drew := h
theorem Fx.below {L : List (Nat × Obj)} {w w1 : World} (h : Fx L w) (hb : Below w.heap.size w w1) : Fx L w1 := fun x hx => za8 (h x hx) hb
theorem Fx.grown {L : List (Nat × Obj)} {w w1 : World} {row : Option Nat} (h : Fx L w) (hg : w.grownBy w1 row) (hne : ∀ x ∈ L, some x.1 ≠ row) : Fx L w1 := fun x hx => zbi (h x hx) hg (hne x hx)
theorem Fx.far {L : List (Nat × Obj)} {w : World} (h : Fx L w) {p : Addr} (hne : ∀ x ∈ L, x.1 ≠ p.block) (u : Value) : Fx L (w.setCell p u) := fun x hx => (Below.heap_setCell w p u x.1 (hne x hx)).trans (h x hx)
theorem Fx.lt {L : List (Nat × Obj)} {w : World} (h : Fx L w) : ∀ x ∈ L, x.1 < w.heap.size := fun x hx => blk_lt (h x hx)
theorem info3 : (Tryd.prog.info? 3).map (fun i => (i.zero, i.size, i.bytes)) = some (some (.int .i64 0), 1, 8) := by kernel_rfl
def encB (l : List Bool) : Array Value := (l.map Value.bool).toArray
def encI (l : List Int) : Array Value := (l.map (Value.int .i64)).toArray
theorem made_rep (z : Value) (hz : z.cells = #[z]) (n : Nat) : madeCells z.cells n = Array.replicate n z := by
 rw [hz]
 apply Array.ext
 ·simp [madeCells]
 intro i h1 h2
 simp [madeCells, Nat.mod_one]
theorem encB_rep (n : Nat) : encB (List.replicate n false) = Array.replicate n (.bool false) := by simp [encB, List.toArray_replicate]
theorem encI_rep (n : Nat) : encI (List.replicate n 0) = Array.replicate n (.int .i64 0) := by simp [encI, List.toArray_replicate]
theorem mkB (n : Nat) (hn : n ≤ 1000000000000) (W : World) : (Instr.makeSlice 79 (.int .i64 n) (.int .i64 n)).run Tryd.prog W = .ok (.slice (some ⟨W.heap.size, 0, none⟩) n n) (W.alloc (.cells (encB (List.replicate n false)) 4)) := by
 obtain ⟨i0, hi, hz0, hz1, hz2⟩ := info_parts info4
 have h := run_make (P := Tryd.prog) W 79 4 i0 (.bool false) Tryd.underlying79 hi hz0 .i64 .i64 n n (by omega) (by omega) (by rw [hz2]; omega) (by omega)
 rw [h, hz1, Nat.mul_one, Int.toNat_natCast, made_rep _ rfl, encB_rep]
theorem mkI (n : Nat) (hn : n ≤ 1000000000000) (W : World) : (Instr.makeSlice 80 (.int .i64 n) (.int .i64 n)).run Tryd.prog W = .ok (.slice (some ⟨W.heap.size, 0, none⟩) n n) (W.alloc (.cells (encI (List.replicate n 0)) 3)) := by
 obtain ⟨i0, hi, hz0, hz1, hz2⟩ := info_parts info3
 have h := run_make (P := Tryd.prog) W 80 3 i0 (.int .i64 0) Tryd.underlying80 hi hz0 .i64 .i64 n n (by omega) (by omega) (by rw [hz2]; omega) (by omega)
 rw [h, hz1, Nat.mul_one, Int.toNat_natCast, made_rep _ rfl, encI_rep]
theorem five (w : World) (c0 c1 c2 c3 c4 : Obj) : (((((w.alloc c0).alloc c1).alloc c2).alloc c3).alloc c4).drew.heap[w.heap.size]? = some c0 ∧ (((((w.alloc c0).alloc c1).alloc c2).alloc c3).alloc c4).drew.heap[w.heap.size + 1]? = some c1 ∧ (((((w.alloc c0).alloc c1).alloc c2).alloc c3).alloc c4).drew.heap[w.heap.size + 1 + 1]? = some c2 ∧ (((((w.alloc c0).alloc c1).alloc c2).alloc c3).alloc c4).drew.heap[w.heap.size + 1 + 1 + 1]? = some c3 ∧ (((((w.alloc c0).alloc c1).alloc c2).alloc c3).alloc c4).drew.heap[w.heap.size + 1 + 1 + 1 + 1]? = some c4 := by
 have a0 := blk_new w c0
 have a1 := blk_new (w.alloc c0) c1
 have a2 := blk_new ((w.alloc c0).alloc c1) c2
 have a3 := blk_new (((w.alloc c0).alloc c1).alloc c2) c3
 have a4 := blk_new ((((w.alloc c0).alloc c1).alloc c2).alloc c3) c4
 simp only [World.size_alloc] at a1 a2 a3 a4
 exact ⟨zat (zai (zai (zai (zai a0 _) _) _) _), zat (zai (zai (zai a1 _) _) _), zat (zai (zai a2 _) _), zat (zai a3 _), zat a4⟩
theorem encB_set (l : List Bool) (i : Nat) (b : Bool) : (encB l).setIfInBounds i (.bool b) = encB (l.set i b) := by simp [encB]
theorem encI_set (l : List Int) (i : Nat) (b : Int) : (encI l).setIfInBounds i (.int .i64 b) = encI (l.set i b) := by simp [encI]
theorem encB_get (l : List Bool) (i : Nat) (h : i < l.length) : (encB l)[i]? = some (.bool l[i]) := by simp [encB, h]
theorem encI_get (l : List Int) (i : Nat) (h : i < l.length) : (encI l)[i]? = some (.int .i64 l[i]) := by simp [encI, h]
theorem set_mid {α : Type} (a : List α) (z x : α) (n i : Nat) (h : a.length = i) (hi : i < n) : (a ++ List.replicate (n - i) z).set i x = (a ++ [x]) ++ List.replicate (n - (i + 1)) z := by
 obtain ⟨m, hm⟩ : ∃ m, n - i = m + 1 := ⟨n - i - 1, by omega⟩
 have hm2 : n - (i + 1) = m := by omega
 rw [hm, hm2, List.set_append_right _ _ (by omega), h, Nat.sub_self, List.replicate_succ, List.set_cons_zero, List.append_assoc]
 rfl
theorem set_mid2 {α : Type} (a r : List α) (c x : α) (i : Nat) (h : a.length = i) : ((a ++ [c]) ++ r).set i x = (a ++ [x]) ++ r := by
 rw [List.append_assoc, List.set_append_right _ _ (by omega), h, Nat.sub_self, List.append_assoc]
 rfl
theorem rep_step {W : World} {g i n : Nat} {l : List (Int × Bool)} (h : W.heap[g]? = some (.cells (encB (l.map (·.2) ++ List.replicate (n - i) false)) 4 (0, 0))) (hl : l.length = i) (hi : i < n) : W.heap[g]? = some (.cells (encB ((l.map (·.2) ++ [false]) ++ List.replicate (n - (i + 1)) false)) 4 (0, 0)) := by
 obtain ⟨m, hm⟩ : ∃ m, n - i = m + 1 := ⟨n - i - 1, by omega⟩
 rw [hm, List.replicate_succ] at h
 rw [show n - (i + 1) = m by omega, List.append_assoc]
 exact h
theorem rep_stepB {W : World} {g n : Nat} (h : W.heap[g]? = some (.cells (encB ([] ++ List.replicate (n - 0) false)) 4 (0, 0))) (hi : 0 < n) : W.heap[g]? = some (.cells (encB ([false] ++ List.replicate (n - (0 + 1)) false)) 4 (0, 0)) := by
 obtain ⟨m, hm⟩ : ∃ m, n = m + 1 := ⟨n - 1, by omega⟩
 rw [hm] at h ⊢
 exact h
theorem R_rowB {W : World} {g base n : Nat} {l : List Bool} (h : W.heap[g]? = some (.cells (encB l) 4 (0, 0))) (hb : base ≤ g) (hl : l.length = n) (hn : n ≤ 1000000000000) : Kd.R Kd.bool 4 W base (fun _ => True) (.slice (some ⟨g, 0, none⟩) n n) l := by
 subst hl
 exact Kd.R_of_own (h1 := fun _ => rfl) ⟨by simp [encs], .inr ⟨g, l.length, encB l, rfl, hb, h, Nat.le_refl _, by unfold maxLen; omega, by simp [encB], by rw [Nat.mul_one]; exact List.take_of_length_le (by simp [encB])⟩⟩ (fun _ _ => trivial)
theorem R_rowI {W : World} {g base n : Nat} {l : List Int} (h : W.heap[g]? = some (.cells (encI l) 3 (0, 0))) (hb : base ≤ g) (hl : l.length = n) (hn : n ≤ 1000000000000) : Kd.R (Kd.int .i64) 3 W base (fun _ => True) (.slice (some ⟨g, 0, none⟩) n n) l := by
 subst hl
 exact Kd.R_of_own (h1 := fun _ => rfl) ⟨by simp [encs], .inr ⟨g, l.length, encI l, rfl, hb, h, Nat.le_refl _, by unfold maxLen; omega, by simp [encI], by rw [Nat.mul_one]; exact List.take_of_length_le (by simp [encI])⟩⟩ (fun _ _ => trivial)
set_option maxHeartbeats 8000000 in
set_option maxRecDepth 100000 in
theorem ln_walk (k : Nat) (A0 : Option Addr) (c0 : Nat) (l0 : List Int) (w : World) (hr0 : Kd.C (Kd.int .i64) w A0 l0.length l0) (hc0 : l0.length ≤ c0) (hlen : l0.length ≤ 1000000000000) (rs : List (Int × Bool)) (h1 : ln1 k l0 none = some rs) (chs : List Bool) (h2 : impl_charCuts.f k l0 = some chs) (hcl : chs.length = l0.length) (hrl : rs.length = l0.length) (hhd : ∀ x, rs[0]? = some x → x.2 = false) (res : List (Bool × Bool)) (hres : ln2 l0 (rs.map (·.1)) (rs.map (·.2)) chs l0.length 0 [] 0 false false = res) :
  Calls Tryd.prog 63 #[.slice A0 l0.length c0] w fun e w' => ∃ v0_ v1_ v2_ v3_ : Value, e = .returned (.tuple #[v0_, v1_, v2_, v3_]) ∧ Kd.R Kd.bool 4 w' w.heap.size (fun _ => True) v0_ (res.map (·.1)) ∧ Kd.R Kd.bool 4 w' w.heap.size (fun _ => True) v1_ (res.map (·.2)) ∧ Kd.R (Kd.int .i64) 3 w' w.heap.size (fun _ => True) v2_ (rs.map (·.1)) ∧ Kd.R Kd.bool 4 w' w.heap.size (fun _ => True) v3_ (rs.map (·.2)) ∧ Below w.heap.size w w' := by
 have HR0 := zab.mk hr0; have HC0 := zab.mk hc0; have HL := zab.mk hlen; have H1 := zab.mk h1; have H2 := zab.mk h2; have HCL := zab.mk hcl; have HRL := zab.mk hrl; have HHD := zab.mk hhd; have HRES := zab.mk hres; clear h1 h2 hcl hrl hhd hres hr0 hc0
 have hmB := fun W => mkB l0.length hlen W
 have hmI := fun W => mkI l0.length hlen W
 clear hlen
 go_enter Tryd.func63, Tryd.ntmps63
 go_upto_region 2 with (fail)
 go_cut [2, 3, 4] (fun v2 v3 v4 wc => ∃ g2 g3 g4 gT : Nat, v2 = .slice (some ⟨g2, 0, none⟩) l0.length l0.length ∧ v3 = .slice (some ⟨g3, 0, none⟩) l0.length l0.length ∧ v4 = .slice (some ⟨g4, 0, none⟩) l0.length l0.length ∧ zab (w.heap.size < g2 ∧ w.heap.size < g3 ∧ w.heap.size < g4 ∧ w.heap.size < gT ∧ g2 ≠ g3 ∧ g2 ≠ g4 ∧ g2 ≠ gT ∧ g3 ≠ g4 ∧ g3 ≠ gT ∧ g4 ≠ gT) ∧ zab (wc.heap[w.heap.size]? = some (.cells #[.slice (some ⟨gT, 0, none⟩) l0.length l0.length] 79 (0, 0))) ∧ zab (wc.heap[g2]? = some (.cells (encB (List.replicate l0.length false)) 4 (0, 0))) ∧ zab (wc.heap[g3]? = some (.cells (encB (List.replicate l0.length false)) 4 (0, 0))) ∧ zab (wc.heap[g4]? = some (.cells (encI (List.replicate l0.length 0)) 3 (0, 0))) ∧ zab (wc.heap[gT]? = some (.cells (encB (List.replicate l0.length false)) 4 (0, 0))) ∧ zab (Below w.heap.size w wc))
 case first => as_aux_lemma =>
  go_region
  all_goals
   go_wp2
   go_meet
   case rel =>
    have hf := five w
    refine ⟨_, _, _, _, rfl, rfl, rfl, ?_, ⟨(hf _ _ _ _ _).1⟩, ?_, ?_, ?_, ?_, ⟨by with_reducible repeat (first | exact Below.refl _ _ | apply zac | apply zad)⟩⟩
    all_goals first | exact ⟨(hf _ _ _ _ _).2.1⟩ | exact ⟨(hf _ _ _ _ _).2.2.1⟩ | exact ⟨(hf _ _ _ _ _).2.2.2.1⟩ | exact ⟨(hf _ _ _ _ _).2.2.2.2⟩ | exact ⟨by omega⟩
 case rest => as_aux_lemma =>
  obtain ⟨g2, g3, g4, gT, rfl, rfl, rfl, HN, BT, B2, B3, B4, BK, HB⟩ := hcut
  go_wp2
  go_loopw [33] (fun v33 wr => ∃ (i : Nat) (pre t : List (Int × Bool)), v33 = .int .i64 i ∧ i ≤ l0.length ∧ zab (pre.length = i) ∧ zab (rs = pre ++ t) ∧ zab (ln1 k (l0.drop i) (lastC pre) = some t) ∧ zab (wr.heap[w.heap.size]? = some (.cells #[.slice (some ⟨gT, 0, none⟩) l0.length l0.length] 79 (0, 0))) ∧ zab (wr.heap[g2]? = some (.cells (encB (List.replicate l0.length false)) 4 (0, 0))) ∧ zab (wr.heap[g3]? = some (.cells (encB (List.replicate l0.length false)) 4 (0, 0))) ∧ zab (wr.heap[g4]? = some (.cells (encI (pre.map (·.1) ++ List.replicate (l0.length - i) 0)) 3 (0, 0))) ∧ zab (wr.heap[gT]? = some (.cells (encB (pre.map (·.2) ++ List.replicate (l0.length - i) false)) 4 (0, 0))) ∧ zab (Below w.heap.size w wr)) (fun v _ => l0.length - (intOf v).toNat)
  case atStart => exact ⟨0, [], rs, rfl, by omega, ⟨rfl⟩, ⟨rfl⟩, ⟨by rw [List.drop_zero]; exact H1.out⟩, BT, B2, B3, ⟨by simpa using B4.out⟩, ⟨by simpa using BK.out⟩, HB⟩
  case round => as_aux_lemma =>
   clear B2 B3 B4 BK BT HB H1 hmB hmI
   obtain ⟨i, pre, t, rfl, hi, HPL, HRT, HE, BT, B2, B3, B4, BK, HB⟩ := hrel
   obtain ⟨W6, hW6⟩ : ∃ W, W = wr := ⟨_, rfl⟩
   subst hW6
   by_cases hlt : i < l0.length
   ·obtain ⟨ad, rfl, hx⟩ := Kd.zbF HR0.out i (by omega) (by omega)
    have hL := HL.out
    replace hx := (HB.out.cell (World.block_lt_of_cell? w _ hx)).trans hx
    have es : rd l0 (i : Int) = l0[i] := by simp [rd, hlt]
    rw [es, Int.toNat_natCast] at hx
    have hE := HE.out
    rw [List.drop_eq_getElem_cons hlt] at hE
    unfold ln1 at hE
    generalize l0[i] = p at *
    obtain ⟨c, hc, hE2⟩ := Option.bind_eq_some_iff.mp hE
    obtain ⟨m, hm, hE3⟩ := Option.bind_eq_some_iff.mp hE2
    obtain ⟨t2, ht2, hE4⟩ := Option.bind_eq_some_iff.mp hE3
    have ht := Option.some.inj hE4
    subst ht; have HC := zab.mk hc; have HM := zab.mk hm; have HT2 := zab.mk ht2; clear hE hE2 hE3 hE4 hc hm ht2 HE es
    go_wp2_with (fail)
    refine (zax.calls k p c _ HC.out).mono ?_
    rintro e w7 ⟨rfl, hb7⟩
    have hpl := HPL.out
    have n1_ := zab.mk (za8 B4.out hb7)
    have n2_ := zab.mk (za8 BK.out hb7)
    have n3_ := zab.mk (za8 BT.out hb7)
    have n4_ := zab.mk (za8 B2.out hb7)
    have n5_ := zab.mk (za8 B3.out hb7)
    have n6_ := zab.mk (zaw HB.out hb7)
    clear B4 BK BT B2 B3 HB hx hb7
    have hc4 : w7.cell? ⟨g4, i, none⟩ = some (.int .i64 0) := by
     rw [zak n1_.out i, encI_get _ _ (by simp; omega), List.getElem_append_right (by simp; omega)]
     simp
    have hf4 := zaf n1_.out i
    go_upto_region 7 with (fail)
    have B4 := zab.mk (zbA n1_.out i (.int .i64 c) (by rw [encI_set, set_mid _ _ _ _ _ (by simp; omega) hlt]))
    have hN := HN.out
    have BK := zab.mk (zbb n2_.out (p := ⟨g4, i, none⟩) (by exact fun e => hN.2.2.2.2.2.2.2.2.2 e.symm) (.int .i64 c))
    have BT := zab.mk (zbb n3_.out (p := ⟨g4, i, none⟩) (by exact Nat.ne_of_lt hN.2.2.1) (.int .i64 c))
    have B2 := zab.mk (zbb n4_.out (p := ⟨g4, i, none⟩) (by exact hN.2.2.2.2.2.1) (.int .i64 c))
    have B3 := zab.mk (zbb n5_.out (p := ⟨g4, i, none⟩) (by exact hN.2.2.2.2.2.2.2.1) (.int .i64 c))
    have HB := zab.mk (zas (g := g4) (j := i) (v := .int .i64 c) n6_.out (Nat.le_of_lt hN.2.2.1))
    clear n1_ n2_ n3_ n4_ n5_ n6_ hc4 hf4 hN
    generalize w7.setCell ⟨g4, i, none⟩ (.int .i64 c) = X at *
    go_cut [48] (fun v wc => v = .bool (m || (p == 7936)) ∧ zau X wc)
    case first => as_aux_lemma =>
     go_wp2_with (fail)
     refine (impl_isMark.calls k p m _ HM.out).mono ?_
     rintro e w8 ⟨rfl, ⟨m8, rfl⟩⟩
     by_cases hp7 : p = 7936
     ·have b1 : (p == 7936) = true := beq_iff_eq.2 hp7
      clear hp7
      cases m
      all_goals
       go_wp2
       go_meet
       case rel => exact ⟨by simp [b1], by repeat (first | exact zau.refl _ | apply zau.step)⟩
     have b1 : (p == 7936) = false := beq_eq_false_iff_ne.2 hp7
     clear hp7
     cases m
     all_goals
      go_wp2
      go_meet
      case rel => exact ⟨by simp [b1], by repeat (first | exact zau.refl _ | apply zau.step)⟩
    case rest => as_aux_lemma =>
     obtain ⟨rfl, ⟨m0, rfl⟩⟩ := hcut
     clear HM
     generalize (m || (p == 7936)) = x at *
     have HLS := zab.mk (lastC_snoc pre (lnC (lastC pre) c x))
     cases x with
     | false =>
      go_wp2
      go_roundw
      case rel => exact ⟨i + 1, pre ++ [(c, false)], t2, by go_num, by omega, ⟨by rw [List.length_append, HPL.out]; rfl⟩, ⟨by rw [HRT.out, List.append_assoc]; rfl⟩, ⟨by rw [lastC_snoc]; exact HT2.out⟩, ⟨zar BT.out _⟩, ⟨zar B2.out _⟩, ⟨zar B3.out _⟩, ⟨by rw [List.map_append]; exact zar B4.out _⟩, ⟨by rw [List.map_append]; exact zar (rep_step BK.out HPL.out hlt) _⟩, ⟨zaa HB.out _⟩⟩
      case measure => simp [intOf]; omega
     | true =>
      by_cases h0 : i = 0
      ·obtain rfl : pre = [] := List.eq_nil_of_length_eq_zero (by rw [HPL.out, h0])
       obtain rfl : 0 = i := h0.symm
       have hc4 : X.cell? ⟨g4, 0, none⟩ = some (.int .i64 c) := by
        rw [zak B4.out 0, encI_get _ _ (by simp)]
        simp
       have hf4 := zaf B4.out 0
       go_wp2
       go_roundw
       case rel =>
        have hN := HN.out
        refine ⟨1, [(0, false)], t2, by go_num, by omega, ⟨rfl⟩, ⟨by rw [HRT.out]; rfl⟩, ⟨HT2.out⟩, ⟨zbb (zar BT.out _) (Nat.ne_of_lt hN.2.2.1) _⟩, ⟨zbb (zar B2.out _) hN.2.2.2.2.2.1 _⟩, ⟨zbb (zar B3.out _) hN.2.2.2.2.2.2.2.1 _⟩, ⟨zbA (zar B4.out _) 0 _ (by rw [encI_set, set_mid2 _ _ _ _ _ (by rfl)]; rfl)⟩, ⟨zbb (zar (rep_step BK.out (by rfl) hlt) _) (fun e => hN.2.2.2.2.2.2.2.2.2 e.symm) _⟩, ⟨zas (zaa HB.out _) (Nat.le_of_lt hN.2.2.1)⟩⟩
       case measure => simp [intOf]; omega
      obtain ⟨d, hd⟩ : ∃ d, d = (pre.map (·.1)).getD (i - 1) 0 := ⟨_, rfl⟩
      have hpl := HPL.out
      have hlc : lastC pre = some d := by rw [hd]; exact lastC_some pre (i - 1) (by omega)
      have hcd : X.cell? ⟨g4, i - 1, none⟩ = some (.int .i64 d) := by
       rw [zak B4.out (i - 1), encI_get _ _ (by simp; omega), List.getElem_append_left (by simp; omega), List.getElem_append_left (by simp; omega), hd, List.getD_eq_getElem?_getD, List.getElem?_eq_getElem (by simp; omega)]
       rfl
      have hc4 : X.cell? ⟨g4, i, none⟩ = some (.int .i64 c) := by
       rw [zak B4.out i, encI_get _ _ (by simp; omega), List.getElem_append_left (by simp; omega), List.getElem_append_right (by simp; omega)]
       simp [hpl]
      have hf4 := zaf B4.out i
      rw [hlc] at HRT HT2 HLS
      have hds : d = 1 ∨ d = 2 ∨ d = 4 ∨ ((d != 1) = true ∧ (d != 2) = true ∧ (d != 4) = true ∧ ¬ (d = 1 ∨ d = 2 ∨ d = 4)) := by
       by_cases e1 : d = 1
       ·exact .inl e1
       by_cases e2 : d = 2
       ·exact .inr (.inl e2)
       by_cases e4 : d = 4
       ·exact .inr (.inr (.inl e4))
       exact .inr (.inr (.inr ⟨bne_iff_ne.2 e1, bne_iff_ne.2 e2, bne_iff_ne.2 e4, by omega⟩))
      clear hlc hd hpl
      have p1 : (0 : Int) ≤ (i : Int) - 1 := by omega
      have p2 : (1 : Int) ≤ (i : Int) := by omega
      have p3 : (0 : Int) < (i : Int) := by omega
      have p4 : decide (0 < i) = true := decide_eq_true (by omega)
      have q1 : (i : Int) - 1 < (l0.length : Int) := by omega
      have ne1 : ¬ i = i - 1 := by omega
      have ne2 : ¬ i - 1 = i := by omega
      rcases hds with rfl | rfl | rfl | ⟨k1, k2, k3, k4⟩
      iterate 3
       go_wp2
       go_roundw
       case rel =>
        have hN := HN.out
        refine ⟨i + 1, pre ++ [(0, false)], t2, by go_num, by omega, ⟨by rw [List.length_append, HPL.out]; rfl⟩, ⟨by rw [HRT.out, List.append_assoc]; rfl⟩, ⟨by rw [lastC_snoc]; exact HT2.out⟩, ⟨zbb (zar BT.out _) (Nat.ne_of_lt hN.2.2.1) _⟩, ⟨zbb (zar B2.out _) hN.2.2.2.2.2.1 _⟩, ⟨zbb (zar B3.out _) hN.2.2.2.2.2.2.2.1 _⟩, ⟨zbA (zar B4.out _) i _ (by rw [encI_set, set_mid2 _ _ _ _ _ (by simp; exact HPL.out), List.map_append]; rfl)⟩, ⟨zbb (zar (by rw [List.map_append]; exact rep_step BK.out HPL.out hlt) _) (fun e => hN.2.2.2.2.2.2.2.2.2 e.symm) _⟩, ⟨zas (zaa HB.out _) (Nat.le_of_lt hN.2.2.1)⟩⟩
       case measure => simp [intOf]; omega
      rw [show lnC (some d) c true = (d, true) from if_neg k4] at HRT HT2
      clear k4 HLS
      go_wp2
      have hN := HN.out
      have hpl := HPL.out
      have n1_ := zab.mk (zbA (zar B4.out m0) i (.int .i64 0) (by rw [encI_set, set_mid2 _ _ _ _ _ (by simp; exact hpl)]))
      have n2_ := zab.mk (zbb (zar BK.out m0) (p := ⟨g4, i, none⟩) (fun e => hN.2.2.2.2.2.2.2.2.2 e.symm) (.int .i64 0))
      have n3_ := zab.mk (zbb (zar BT.out m0) (p := ⟨g4, i, none⟩) (Nat.ne_of_lt hN.2.2.1) (.int .i64 0))
      have n4_ := zab.mk (zbb (zar B2.out m0) (p := ⟨g4, i, none⟩) hN.2.2.2.2.2.1 (.int .i64 0))
      have n5_ := zab.mk (zbb (zar B3.out m0) (p := ⟨g4, i, none⟩) hN.2.2.2.2.2.2.2.1 (.int .i64 0))
      have n6_ := zab.mk (zas (g := g4) (j := i) (v := .int .i64 0) (zaa HB.out m0) (Nat.le_of_lt hN.2.2.1))
      have hcd2 : ((X.drewN m0).setCell ⟨g4, i, none⟩ (.int .i64 0)).cell? ⟨g4, i - 1, none⟩ = some (.int .i64 d) := by
       rw [World.cell?_setCell_other _ _ _ _ (fun e => ne1 (congrArg Addr.off e))]
       exact hcd
      clear hcd hc4 hf4 B4 BK BT B2 B3 HB
      generalize (X.drewN m0).setCell ⟨g4, i, none⟩ (.int .i64 0) = Y at *
      have hc4 : Y.cell? ⟨g4, i, none⟩ = some (.int .i64 0) := by
       rw [zak n1_.out i, encI_get _ _ (by simp; omega), List.getElem_append_left (by simp; omega), List.getElem_append_right (by simp; omega)]
       simp [hpl]
      have hf4 := zaf n1_.out i
      have hcT : Y.cell? ⟨gT, i, none⟩ = some (.bool false) := by
       rw [zak n2_.out i, encB_get _ _ (by simp; omega), List.getElem_append_right (by simp; omega)]
       simp
      have hfT := zaf n2_.out i
      have hcz : Y.cell? ⟨w.heap.size, 0, none⟩ = some (.slice (some ⟨gT, 0, none⟩) l0.length l0.length) := cell_of_one n3_.out
      have e1 : ¬ g4 = gT := hN.2.2.2.2.2.2.2.2.2
      have e2 : ¬ gT = g4 := fun e => e1 e.symm
      have e3 : ¬ w.heap.size = g4 := Nat.ne_of_lt hN.2.2.1
      have e4 : ¬ g4 = w.heap.size := fun e => e3 e.symm
      have e5 : ¬ w.heap.size = gT := Nat.ne_of_lt hN.2.2.2.1
      have e6 : ¬ gT = w.heap.size := fun e => e5 e.symm
      clear hN hpl
      go_region
      trace "REGION"
      all_goals
       go_wp2
       go_roundw
       case rel => exact ⟨i + 1, pre ++ [(d, true)], t2, by go_num, by omega, ⟨by rw [List.length_append, HPL.out]; rfl⟩, ⟨by rw [HRT.out, List.append_assoc]; rfl⟩, ⟨by rw [lastC_snoc]; exact HT2.out⟩, ⟨zat (zbb (zbb n3_.out e3 _) e5 _)⟩, ⟨zat (zbb (zbb n4_.out HN.out.2.2.2.2.2.1 _) HN.out.2.2.2.2.2.2.1 _)⟩, ⟨zat (zbb (zbb n5_.out HN.out.2.2.2.2.2.2.2.1 _) HN.out.2.2.2.2.2.2.2.2.1 _)⟩, ⟨zat (zbb (zbA n1_.out i _ (by rw [encI_set, set_mid2 _ _ _ _ _ (by simp; exact HPL.out), List.map_append]; rfl)) e1 _)⟩, ⟨zat (zbA (zbb n2_.out e2 _) i _ (by rw [encB_set, set_mid _ _ _ _ _ (by simp; exact HPL.out) hlt, List.map_append]; rfl))⟩, ⟨zad (zas (zas n6_.out (Nat.le_of_lt HN.out.2.2.1)) (Nat.le_of_lt HN.out.2.2.2.1))⟩⟩
       case measure => simp [intOf]; omega
   obtain rfl : i = l0.length := by omega
   have hE := HE.out
   rw [List.drop_eq_nil_of_le (by omega)] at hE
   unfold ln1 at hE
   obtain rfl := Option.some.inj hE
   obtain rfl : rs = pre := by rw [HRT.out, List.append_nil]
   have n1_ := zab.mk (show W6.heap[g4]? = some (.cells (encI (rs.map (·.1))) 3 (0, 0)) by have h := B4.out; rwa [Nat.sub_self, List.replicate_zero, List.append_nil] at h)
   have n2_ := zab.mk (show W6.heap[gT]? = some (.cells (encB (rs.map (·.2))) 4 (0, 0)) by have h := BK.out; rwa [Nat.sub_self, List.replicate_zero, List.append_nil] at h)
   clear B4 BK HE hE HRT hi hlt
   have B4 := n1_
   have BK := n2_
   clear n1_ n2_
   have hL := HL.out
   have q1 : decide (l0.length < l0.length) = false := decide_eq_false (by omega)
   have q2 : decide ((l0.length : Int) < (l0.length : Int)) = false := decide_eq_false (by omega)
   go_wp2_with (fail)
   refine (impl_charCuts.calls k A0 c0 l0 chs _ (Kd.C_below HR0.out HB.out) HC0.out H2.out).mono ?_
   rintro e w7 ⟨v91, rfl, hr91, hb7⟩
   obtain ⟨A91, c91, rfl⟩ := Kd.zbl hr91
   have hcl : chs.length = l0.length := HCL.out
   have ho := Kd.own_of_R hr91
   have hle := hb7.size
   have HCH : ∃ oC : List (Nat × Obj), Fx oC w7 ∧ (∀ x ∈ oC, W6.heap.size ≤ x.1) ∧ (∀ i, i < l0.length → ∃ gC curC, oC = [(gC, .cells curC 4 (0, 0))] ∧ A91 = some ⟨gC, 0, none⟩ ∧ curC[i]? = some (.bool (rdOf false chs i))) := by
    rcases ho.2 with ⟨hv, hn⟩ | ⟨g, cap, cur, hv, hg, hb, hn, hcp, hsz, htk⟩
    ·exact ⟨[], fun x hx => (List.not_mem_nil hx).elim, fun x hx => (List.not_mem_nil hx).elim, fun i hi => by omega⟩
    refine ⟨[(g, .cells cur 4 (0, 0))], fun x hx => by rw [List.mem_singleton.1 hx]; exact hb, fun x hx => by rw [List.mem_singleton.1 hx]; exact hg, fun i hi => ⟨g, cur, rfl, by injection hv, ?_⟩⟩
    have hic : i < cur.size := by omega
    have e1 : (cur.toList.take (chs.length * 1))[i]? = some (.bool (rdOf false chs i)) := by
     rw [htk, encs]
     simp [rdOf, List.getElem?_eq_getElem (l := chs) (i := i) (by omega)]
    rw [List.getElem?_take_of_lt (by omega)] at e1
    simpa using e1
   obtain ⟨oC, hoC1, hoC2, hoC3⟩ := HCH
   have HO3 := zab.mk hoC3
   have hlt4 := blk_lt B4.out
   have hltK := blk_lt BK.out
   have hltz := blk_lt BT.out
   have hlt2 := blk_lt B2.out
   have hlt3 := blk_lt B3.out
   have HLT := zab.mk (show g2 < w7.heap.size ∧ g3 < w7.heap.size ∧ (∀ x ∈ oC, x.1 ≠ g2 ∧ x.1 ≠ g3) ∧ w.heap.size < w7.heap.size from ⟨by omega, by omega, fun x hx => by have := hoC2 x hx; omega, by omega⟩)
   have hfx : Fx ([(w.heap.size, .cells #[.slice (some ⟨gT, 0, none⟩) l0.length l0.length] 79 (0, 0)), (g4, .cells (encI (rs.map (·.1))) 3 (0, 0)), (gT, .cells (encB (rs.map (·.2))) 4 (0, 0))] ++ oC) w7 := by
    intro x hx
    rcases List.mem_append.1 hx with hx | hx
    ·simp only [List.mem_cons, List.not_mem_nil, or_false] at hx
     rcases hx with rfl | rfl | rfl
     ·exact za8 BT.out hb7
     ·exact za8 B4.out hb7
     exact za8 BK.out hb7
    exact hoC1 x hx
   have HFX := zab.mk hfx
   have n4_ := zab.mk (za8 B2.out hb7)
   have n5_ := zab.mk (za8 B3.out hb7)
   have n6_ := zab.mk (zaw HB.out hb7)
   clear B4 BK BT B2 B3 HB hb7 hoC1 hoC2 hoC3 hfx hlt4 hltK hltz hlt2 hlt3 ho hle hr91 hcl
   go_wp2
   obtain ⟨G, hG⟩ : ∃ G, w7.heap.size = G := ⟨_, rfl⟩
   have BX := zab.mk (show ((((w7.alloc (.cells #[.slice A91 chs.length c91] 79)).alloc (.cells #[.int .i64 0] 3)).alloc (.cells #[.bool false] 4)).alloc (.cells #[.bool false] 4)).heap[G]? = some (.cells #[.slice A91 chs.length c91] 79 (0, 0)) from by rw [← hG]; refine zai (zai (zai ?_ _) _) _; exact blk_new w7 _)
   have BF := zab.mk (show ((((w7.alloc (.cells #[.slice A91 chs.length c91] 79)).alloc (.cells #[.int .i64 0] 3)).alloc (.cells #[.bool false] 4)).alloc (.cells #[.bool false] 4)).heap[G + 1]? = some (.cells #[.int .i64 0] 3 (0, 0)) from by rw [← hG]; refine zai (zai ?_ _) _; have h := blk_new (w7.alloc (.cells #[.slice A91 chs.length c91] 79)) (.cells #[.int .i64 0] 3); simpa using h)
   have BO := zab.mk (show ((((w7.alloc (.cells #[.slice A91 chs.length c91] 79)).alloc (.cells #[.int .i64 0] 3)).alloc (.cells #[.bool false] 4)).alloc (.cells #[.bool false] 4)).heap[G + 1 + 1]? = some (.cells #[.bool false] 4 (0, 0)) from by rw [← hG]; refine zai ?_ _; have h := blk_new ((w7.alloc (.cells #[.slice A91 chs.length c91] 79)).alloc (.cells #[.int .i64 0] 3)) (.cells #[.bool false] 4); simpa using h)
   have BG := zab.mk (show ((((w7.alloc (.cells #[.slice A91 chs.length c91] 79)).alloc (.cells #[.int .i64 0] 3)).alloc (.cells #[.bool false] 4)).alloc (.cells #[.bool false] 4)).heap[G + 1 + 1 + 1]? = some (.cells #[.bool false] 4 (0, 0)) from by rw [← hG]; have h := blk_new (((w7.alloc (.cells #[.slice A91 chs.length c91] 79)).alloc (.cells #[.int .i64 0] 3)).alloc (.cells #[.bool false] 4)) (.cells #[.bool false] 4); simpa using h)
   have HSZ := zab.mk (show ((((w7.alloc (.cells #[.slice A91 chs.length c91] 79)).alloc (.cells #[.int .i64 0] 3)).alloc (.cells #[.bool false] 4)).alloc (.cells #[.bool false] 4)).heap.size = G + 4 from by rw [← hG]; simp)
   have FX := zab.mk (Fx.alloc (Fx.alloc (Fx.alloc (Fx.alloc HFX.out (.cells #[.slice A91 chs.length c91] 79)) (.cells #[.int .i64 0] 3)) (.cells #[.bool false] 4)) (.cells #[.bool false] 4))
   have HFL := zab.mk (show ∀ x ∈ ([(w.heap.size, .cells #[.slice (some ⟨gT, 0, none⟩) l0.length l0.length] 79 (0, 0)), (g4, .cells (encI (rs.map (·.1))) 3 (0, 0)), (gT, .cells (encB (rs.map (·.2))) 4 (0, 0))] ++ oC : List (Nat × Obj)), x.1 < G from by rw [← hG]; exact HFX.out.lt)
   have B2 := zab.mk (show ((((w7.alloc (.cells #[.slice A91 chs.length c91] 79)).alloc (.cells #[.int .i64 0] 3)).alloc (.cells #[.bool false] 4)).alloc (.cells #[.bool false] 4)).heap[g2]? = some (.cells (encB (List.replicate l0.length false)) 4 (0, 0)) from zai (zai (zai (zai n4_.out _) _) _) _)
   have B3 := zab.mk (show ((((w7.alloc (.cells #[.slice A91 chs.length c91] 79)).alloc (.cells #[.int .i64 0] 3)).alloc (.cells #[.bool false] 4)).alloc (.cells #[.bool false] 4)).heap[g3]? = some (.cells (encB (List.replicate l0.length false)) 4 (0, 0)) from zai (zai (zai (zai n5_.out _) _) _) _)
   have HB := zab.mk (show Below w.heap.size w ((((w7.alloc (.cells #[.slice A91 chs.length c91] 79)).alloc (.cells #[.int .i64 0] 3)).alloc (.cells #[.bool false] 4)).alloc (.cells #[.bool false] 4)) from zac (zac (zac (zac n6_.out _) _) _) _)
   rw [hG] at HLT ⊢
   clear HFX n4_ n5_ n6_ hG
   generalize (((w7.alloc (.cells #[.slice A91 chs.length c91] 79)).alloc (.cells #[.int .i64 0] 3)).alloc (.cells #[.bool false] 4)).alloc (.cells #[.bool false] 4) = W9 at *
   obtain ⟨LX, hLX⟩ : ∃ L : List (Nat × Obj), (G, .cells #[.slice A91 chs.length c91] 79 (0, 0)) :: ([(w.heap.size, .cells #[.slice (some ⟨gT, 0, none⟩) l0.length l0.length] 79 (0, 0)), (g4, .cells (encI (rs.map (·.1))) 3 (0, 0)), (gT, .cells (encB (rs.map (·.2))) 4 (0, 0))] ++ oC) = L := ⟨_, rfl⟩
   have M0 := zab.mk (show (G, .cells #[.slice A91 chs.length c91] 79 (0, 0)) ∈ LX from hLX ▸ List.mem_cons_self)
   have M1 := zab.mk (show (w.heap.size, .cells #[.slice (some ⟨gT, 0, none⟩) l0.length l0.length] 79 (0, 0)) ∈ LX from hLX ▸ by simp)
   have M2 := zab.mk (show (g4, .cells (encI (rs.map (·.1))) 3 (0, 0)) ∈ LX from hLX ▸ by simp)
   have M3 := zab.mk (show (gT, .cells (encB (rs.map (·.2))) 4 (0, 0)) ∈ LX from hLX ▸ by simp)
   have M4 := zab.mk (show ∀ x ∈ oC, x ∈ LX from fun x hx => hLX ▸ List.mem_cons_of_mem _ (List.mem_append_right _ hx))
   have n1_ := zab.mk (show Fx LX W9 from by rw [← hLX]; intro x hx; rcases List.mem_cons.1 hx with rfl | hx; exact BX.out; exact FX.out x hx)
   have FAR := zab.mk (show ∀ x ∈ LX, x.1 ≠ g2 ∧ x.1 ≠ g3 ∧ x.1 < G + 1 from by
    have hlt := HLT.out
    have hfl := HFL.out
    have hN := HN.out
    rw [← hLX]
    intro x hx
    rcases List.mem_cons.1 hx with rfl | hx
    ·exact ⟨fun e => by have : G = g2 := e; omega, fun e => by have : G = g3 := e; omega, Nat.lt_succ_self _⟩
    have h3 := hfl x hx
    rcases List.mem_append.1 hx with hx | hx
    ·simp only [List.mem_cons, List.not_mem_nil, or_false] at hx
     rcases hx with rfl | rfl | rfl
     ·exact ⟨Nat.ne_of_lt hN.1, Nat.ne_of_lt hN.2.1, Nat.lt_succ_of_lt h3⟩
     ·exact ⟨fun e => hN.2.2.2.2.2.1 e.symm, fun e => hN.2.2.2.2.2.2.2.1 e.symm, Nat.lt_succ_of_lt h3⟩
     exact ⟨fun e => hN.2.2.2.2.2.2.1 e.symm, fun e => hN.2.2.2.2.2.2.2.2.1 e.symm, Nat.lt_succ_of_lt h3⟩
    exact ⟨(hlt.2.2.1 x hx).1, (hlt.2.2.1 x hx).2, Nat.lt_succ_of_lt h3⟩)
   have HG23 := zab.mk (show g2 < G ∧ g3 < G ∧ g2 ≠ g3 ∧ w.heap.size < g2 ∧ w.heap.size < g3 ∧ w.heap.size < G ∧ w.heap.size < g4 ∧ w.heap.size < gT from ⟨HLT.out.1, HLT.out.2.1, HN.out.2.2.2.2.1, HN.out.1, HN.out.2.1, HLT.out.2.2.2, HN.out.2.2.1, HN.out.2.2.2.1⟩)
   clear FX BX HFL HLT hLX HN
   have FX := n1_
   clear n1_
   go_loopw [10, 94] (fun v10 v94 wr => ∃ (i : Nat) (pre t : List (Bool × Bool)) (bs : List Int) (flags : Int) (opn gap : Bool), v94 = .int .i64 i ∧ i ≤ l0.length ∧ zab (pre.length = i) ∧ zab (ln2 l0 (rs.map (·.1)) (rs.map (·.2)) chs l0.length 0 [] 0 false false = pre ++ t) ∧ zab (ln2 l0 (rs.map (·.1)) (rs.map (·.2)) chs (l0.length - i) i bs flags opn gap = t) ∧ zab (∀ b ∈ bs, 0 ≤ b ∧ b < (i : Int)) ∧ zab ((0 < i → 0 < bs.length) ∧ bs.length ≤ i) ∧ zab (Fx LX wr) ∧ zab (wr.heap[g2]? = some (.cells (encB (pre.map (·.1) ++ List.replicate (l0.length - i) false)) 4 (0, 0))) ∧ zab (wr.heap[g3]? = some (.cells (encB (pre.map (·.2) ++ List.replicate (l0.length - i) false)) 4 (0, 0))) ∧ zab (wr.heap[G + 1]? = some (.cells #[.int .i64 flags] 3 (0, 0))) ∧ zab (wr.heap[G + 1 + 1]? = some (.cells #[.bool opn] 4 (0, 0))) ∧ zab (wr.heap[G + 1 + 1 + 1]? = some (.cells #[.bool gap] 4 (0, 0))) ∧ zab (Kd.R (Kd.int .i64) 3 wr w.heap.size (fun k => G + 4 ≤ k) v10 bs) ∧ zab (Below w.heap.size w wr)) (fun _ v _ => l0.length - (intOf v).toNat)
   case atStart => exact ⟨0, [], _, [], 0, false, false, rfl, by omega, ⟨rfl⟩, ⟨rfl⟩, ⟨rfl⟩, ⟨fun b hb => (List.not_mem_nil hb).elim⟩, ⟨⟨fun h => by omega, by simp⟩⟩, FX, ⟨by simpa using B2.out⟩, ⟨by simpa using B3.out⟩, BF, BO, BG, ⟨Kd.R_nil _ _ _ _ _⟩, HB⟩
   case round => as_aux_lemma =>
    clear FX B2 B3 BF BO BG HB HSZ
    obtain ⟨i, pre, t, bs, flags, opn, gap, rfl, hi, HPL, HRT, HE, HBB, HBL, FX, B2, B3, BF, BO, BG, HBS, HB⟩ := hrel
    by_cases hlt : i < l0.length
    ·obtain ⟨W8, hW8⟩ : ∃ W, W = wr := ⟨_, rfl⟩
     subst hW8
     obtain ⟨ad, rfl, hx⟩ := Kd.zbF HR0.out i (by omega) (by omega)
     have hL := HL.out
     replace hx := (HB.out.cell (World.block_lt_of_cell? w _ hx)).trans hx
     rw [Int.toNat_natCast] at hx
     obtain ⟨m, hm⟩ : ∃ m, l0.length - i = m + 1 := ⟨l0.length - i - 1, by omega⟩
     have hE := HE.out
     rw [hm] at hE
     unfold ln2 at hE
     have HM := zab.mk hm
     have HPC := zab.mk (show prevOf l0 (i + 1) = some (rd l0 i) by simp [prevOf, rd, hlt])
     obtain ⟨ao, co, rfl⟩ := Kd.zbl HBS.out
     have hrl : rs.length = l0.length := HRL.out
     have hcc : ∀ q, ((W8.alloc (.cells #[.int .i64 i] 3)).alloc (.cells #[.int .i64 q] 2)).cell? ⟨g4, i, none⟩ = some (.int .i64 (rd (rs.map (·.1)) i)) := by
      intro q
      rw [zak (zai (zai (FX.out _ M2.out) _) _) i, encI_get _ _ (by simp; omega)]
      simp [rd, List.getElem?_eq_getElem (l := rs) (i := i) (by omega)]
     have HE2 := zab.mk hE; clear hE HE hm hrl
     obtain ⟨p, hp⟩ : ∃ p, rd l0 i = p := ⟨_, rfl⟩
     obtain ⟨c, hc⟩ : ∃ c, rd (rs.map (·.1)) i = c := ⟨_, rfl⟩
     rw [hp] at hx HE2
     rw [hc] at hcc HE2
     have HP := zab.mk hp; have HC := zab.mk hc
     replace hcc := hcc p
     clear hp hc
     go_upto_if 104 with (fail)
     obtain ⟨Y, hY⟩ : ∃ Y, W8.heap.size = Y := ⟨_, rfl⟩
     have BI := zab.mk (show (((W8.alloc (.cells #[.int .i64 i] 3)).alloc (.cells #[.int .i64 p] 2)).alloc (.cells #[.int .i64 c] 3)).heap[Y]? = some (.cells #[.int .i64 i] 3 (0, 0)) from by rw [← hY]; exact zai (zai (blk_new _ _) _) _)
     have BP := zab.mk (show (((W8.alloc (.cells #[.int .i64 i] 3)).alloc (.cells #[.int .i64 p] 2)).alloc (.cells #[.int .i64 c] 3)).heap[Y + 1]? = some (.cells #[.int .i64 p] 2 (0, 0)) from by rw [← hY]; refine zai ?_ _; have h := blk_new (W8.alloc (.cells #[.int .i64 i] 3)) (.cells #[.int .i64 p] 2); simpa using h)
     have BC := zab.mk (show (((W8.alloc (.cells #[.int .i64 i] 3)).alloc (.cells #[.int .i64 p] 2)).alloc (.cells #[.int .i64 c] 3)).heap[Y + 1 + 1]? = some (.cells #[.int .i64 c] 3 (0, 0)) from by rw [← hY]; have h := blk_new ((W8.alloc (.cells #[.int .i64 i] 3)).alloc (.cells #[.int .i64 p] 2)) (.cells #[.int .i64 c] 3); simpa using h)
     have HGY := zab.mk (show G + 4 ≤ Y from by have := blk_lt BG.out; omega)
     have n0_ := zab.mk (show Fx LX (((W8.alloc (.cells #[.int .i64 i] 3)).alloc (.cells #[.int .i64 p] 2)).alloc (.cells #[.int .i64 c] 3)) from Fx.alloc (Fx.alloc (Fx.alloc FX.out _) _) _)
     have n1_ := zab.mk (show (((W8.alloc (.cells #[.int .i64 i] 3)).alloc (.cells #[.int .i64 p] 2)).alloc (.cells #[.int .i64 c] 3)).heap[g2]? = some (.cells (encB (pre.map (·.1) ++ List.replicate (l0.length - i) false)) 4 (0, 0)) from zai (zai (zai B2.out _) _) _)
     have n2_ := zab.mk (show (((W8.alloc (.cells #[.int .i64 i] 3)).alloc (.cells #[.int .i64 p] 2)).alloc (.cells #[.int .i64 c] 3)).heap[g3]? = some (.cells (encB (pre.map (·.2) ++ List.replicate (l0.length - i) false)) 4 (0, 0)) from zai (zai (zai B3.out _) _) _)
     have n3_ := zab.mk (show (((W8.alloc (.cells #[.int .i64 i] 3)).alloc (.cells #[.int .i64 p] 2)).alloc (.cells #[.int .i64 c] 3)).heap[G + 1]? = some (.cells #[.int .i64 flags] 3 (0, 0)) from zai (zai (zai BF.out _) _) _)
     have n4_ := zab.mk (show (((W8.alloc (.cells #[.int .i64 i] 3)).alloc (.cells #[.int .i64 p] 2)).alloc (.cells #[.int .i64 c] 3)).heap[G + 1 + 1]? = some (.cells #[.bool opn] 4 (0, 0)) from zai (zai (zai BO.out _) _) _)
     have n5_ := zab.mk (show (((W8.alloc (.cells #[.int .i64 i] 3)).alloc (.cells #[.int .i64 p] 2)).alloc (.cells #[.int .i64 c] 3)).heap[G + 1 + 1 + 1]? = some (.cells #[.bool gap] 4 (0, 0)) from zai (zai (zai BG.out _) _) _)
     have n6_ := zab.mk (show Kd.R (Kd.int .i64) 3 (((W8.alloc (.cells #[.int .i64 i] 3)).alloc (.cells #[.int .i64 p] 2)).alloc (.cells #[.int .i64 c] 3)) w.heap.size (fun k => G + 4 ≤ k ∧ k < Y) (.slice ao bs.length co) bs from by (with_reducible repeat (first | apply Kd.zao | apply Kd.zan | apply Kd.zav)); exact Kd.za2 (Kd.R_bound HBS.out) (fun k hk => ⟨hk.1, hY ▸ hk.2.2.1⟩))
     have n7_ := zab.mk (show Below w.heap.size w (((W8.alloc (.cells #[.int .i64 i] 3)).alloc (.cells #[.int .i64 p] 2)).alloc (.cells #[.int .i64 c] 3)) from zac (zac (zac HB.out _) _) _)
     clear FX B2 B3 BF BO BG HBS HB hx hcc
     rw [hY]
     have FX := n0_
     have B2 := n1_
     have B3 := n2_
     have BF := n3_
     have BO := n4_
     have BG := n5_
     have HBS := n6_
     have HB := n7_
     clear n0_ n1_ n2_ n3_ n4_ n5_ n6_ n7_ hY
     generalize ((W8.alloc (.cells #[.int .i64 i] 3)).alloc (.cells #[.int .i64 p] 2)).alloc (.cells #[.int .i64 c] 3) = X at *
     obtain ⟨bb, hbb⟩ : ∃ bb : Bool × Bool, (if i = 0 then (false, false) else lnB (rdOf false (rs.map (·.2)) i) (rdOf false chs i) (rd l0 ((i : Int) - 1)) p c (rd (rs.map (·.1)) ((i : Int) - 1)) gap opn (digP l0 (rs.map (·.1)) bs) flags) = bb := ⟨_, rfl⟩
     have HHB := zab.mk hbb
     go_cut [14] (fun v14 wc => v14 = .pointer (some ⟨Y, 0, none⟩) ∧ zab (Fx LX wc) ∧ zab (wc.heap[g2]? = some (.cells (encB ((pre ++ [bb]).map (·.1) ++ List.replicate (l0.length - (i + 1)) false)) 4 (0, 0))) ∧ zab (wc.heap[g3]? = some (.cells (encB ((pre ++ [bb]).map (·.2) ++ List.replicate (l0.length - (i + 1)) false)) 4 (0, 0))) ∧ zab (wc.heap[G + 1]? = some (.cells #[.int .i64 flags] 3 (0, 0))) ∧ zab (wc.heap[G + 1 + 1]? = some (.cells #[.bool opn] 4 (0, 0))) ∧ zab (wc.heap[G + 1 + 1 + 1]? = some (.cells #[.bool gap] 4 (0, 0))) ∧ zab (wc.heap[Y]? = some (.cells #[.int .i64 i] 3 (0, 0))) ∧ zab (wc.heap[Y + 1 + 1]? = some (.cells #[.int .i64 c] 3 (0, 0))) ∧ zab (Kd.R (Kd.int .i64) 3 wc w.heap.size (fun k => G + 4 ≤ k ∧ k < Y) (.slice ao bs.length co) bs) ∧ zab (Below w.heap.size w wc))
     case first => as_aux_lemma =>
      have hci := cell_of_one BI.out
      by_cases h0 : 0 < i
      ·have p1 : (0 : Int) ≤ (i : Int) - 1 := by omega
       have p2 : (1 : Int) ≤ (i : Int) := by omega
       have p3 : (0 : Int) < (i : Int) := by omega
       have p4 : decide (0 < i) = true := decide_eq_true h0
       have q1 : (i : Int) - 1 < (l0.length : Int) := by omega
       have HBB2 := zab.mk (show bb = lnB (rdOf false (rs.map (·.2)) i) (rdOf false chs i) (rd l0 ((i : Int) - 1)) p c (rd (rs.map (·.1)) ((i : Int) - 1)) gap opn (digP l0 (rs.map (·.1)) bs) flags from by rw [← hbb, if_neg (by omega)])
       clear hbb HE2
       have hb0 := HBL.out.1 h0
       have hrl : rs.length = l0.length := HRL.out
       obtain ⟨ad1, hA1, hx1⟩ := Kd.zbF HR0.out ((i : Int) - 1) p1 q1
       cases hA1
       rw [show ((i : Int) - 1).toNat = i - 1 by omega] at hx1
       replace hx1 := (HB.out.cell (World.block_lt_of_cell? w _ hx1)).trans hx1
       have hxd : ∀ q, (X.alloc (.cells #[.int .i64 q] 2)).cell? ⟨g4, i - 1, none⟩ = some (.int .i64 (rd (rs.map (·.1)) ((i : Int) - 1))) := by
        intro q
        rw [zak (zai (FX.out _ M2.out) _) (i - 1), encI_get _ _ (by simp; omega)]
        have e : ((i : Int) - 1).toNat = i - 1 := by omega
        simp [rd, e, List.getElem?_eq_getElem (l := rs) (i := i - 1) (by omega)]
       have r1 : (0 : Int) ≤ (bs.length : Int) - 1 := by omega
       have r2 : (1 : Int) ≤ (bs.length : Int) := by omega
       have r3 : (bs.length : Int) - 1 < (bs.length : Int) := by omega
       have r4 : (bs.length : Int) ≤ 1000000000000 := by have := HBL.out.2; omega
       obtain ⟨ab, hA2, hx2⟩ := Kd.zbF (Kd.zaz HBS.out).2.2 ((bs.length : Int) - 1) r1 r3
       cases hA2
       rw [show ((bs.length : Int) - 1).toNat = bs.length - 1 by omega] at hx2
       obtain ⟨q, hq⟩ : ∃ q, rd l0 ((i : Int) - 1) = q := ⟨_, rfl⟩
       obtain ⟨d, hd⟩ : ∃ d, rd (rs.map (·.1)) ((i : Int) - 1) = d := ⟨_, rfl⟩
       obtain ⟨la, hla⟩ : ∃ la, rd bs ((bs.length : Int) - 1) = la := ⟨_, rfl⟩
       have hxd2 := hxd q
       rw [hq] at hx1 HBB2
       rw [hd] at hxd2 HBB2
       rw [hla] at hx2
       have hx3 : ((X.alloc (.cells #[.int .i64 q] 2)).alloc (.cells #[.int .i64 d] 3)).cell? (ab.add (bs.length - 1)) = some (.int .i64 la) := ((zac (zac (Below.refl _ _) _) _).cell (World.block_lt_of_cell? X _ hx2)).trans hx2
       have hci2 : (X.alloc (.cells #[.int .i64 q] 2)).cell? ⟨Y, 0, none⟩ = some (.int .i64 i) := cell_of_one (zai BI.out _)
       have HQ := zab.mk hq; have HD := zab.mk hd; have HLA := zab.mk hla; clear hq hd hla hxd hx2 hb0 hrl
       go_upto_region 24 with (fail)
       obtain ⟨Z, hZ⟩ : ∃ Z, X.heap.size = Z := ⟨_, rfl⟩
       have HYZ := zab.mk (show Y + 1 + 1 < Z from hZ ▸ blk_lt BC.out)
       have BQ := zab.mk (show ((X.alloc (.cells #[.int .i64 q] 2)).alloc (.cells #[.int .i64 d] 3)).heap[Z]? = some (.cells #[.int .i64 q] 2 (0, 0)) from by rw [← hZ]; exact zai (blk_new _ _) _)
       have BD := zab.mk (show ((X.alloc (.cells #[.int .i64 q] 2)).alloc (.cells #[.int .i64 d] 3)).heap[Z + 1]? = some (.cells #[.int .i64 d] 3 (0, 0)) from by rw [← hZ]; have h := blk_new (X.alloc (.cells #[.int .i64 q] 2)) (.cells #[.int .i64 d] 3); simpa using h)
       have n0_ := zab.mk (show Fx LX ((X.alloc (.cells #[.int .i64 q] 2)).alloc (.cells #[.int .i64 d] 3)) from Fx.alloc (Fx.alloc FX.out _) _)
       have n1_ := zab.mk (show ((X.alloc (.cells #[.int .i64 q] 2)).alloc (.cells #[.int .i64 d] 3)).heap[g2]? = some (.cells (encB (pre.map (·.1) ++ List.replicate (l0.length - i) false)) 4 (0, 0)) from zai (zai B2.out _) _)
       have n2_ := zab.mk (show ((X.alloc (.cells #[.int .i64 q] 2)).alloc (.cells #[.int .i64 d] 3)).heap[g3]? = some (.cells (encB (pre.map (·.2) ++ List.replicate (l0.length - i) false)) 4 (0, 0)) from zai (zai B3.out _) _)
       have n3_ := zab.mk (show ((X.alloc (.cells #[.int .i64 q] 2)).alloc (.cells #[.int .i64 d] 3)).heap[G + 1]? = some (.cells #[.int .i64 flags] 3 (0, 0)) from zai (zai BF.out _) _)
       have n4_ := zab.mk (show ((X.alloc (.cells #[.int .i64 q] 2)).alloc (.cells #[.int .i64 d] 3)).heap[G + 1 + 1]? = some (.cells #[.bool opn] 4 (0, 0)) from zai (zai BO.out _) _)
       have n5_ := zab.mk (show ((X.alloc (.cells #[.int .i64 q] 2)).alloc (.cells #[.int .i64 d] 3)).heap[G + 1 + 1 + 1]? = some (.cells #[.bool gap] 4 (0, 0)) from zai (zai BG.out _) _)
       have n6_ := zab.mk (show Kd.R (Kd.int .i64) 3 ((X.alloc (.cells #[.int .i64 q] 2)).alloc (.cells #[.int .i64 d] 3)) w.heap.size (fun k => G + 4 ≤ k ∧ k < Y) (.slice (some ab) bs.length co) bs from by (with_reducible repeat (first | apply Kd.zao | apply Kd.zan | apply Kd.zav)); exact HBS.out)
       have n7_ := zab.mk (show Below w.heap.size w ((X.alloc (.cells #[.int .i64 q] 2)).alloc (.cells #[.int .i64 d] 3)) from zac (zac HB.out _) _)
       have n8_ := zab.mk (show ((X.alloc (.cells #[.int .i64 q] 2)).alloc (.cells #[.int .i64 d] 3)).heap[Y]? = some (.cells #[.int .i64 i] 3 (0, 0)) from zai (zai BI.out _) _)
       have n9_ := zab.mk (show ((X.alloc (.cells #[.int .i64 q] 2)).alloc (.cells #[.int .i64 d] 3)).heap[Y + 1]? = some (.cells #[.int .i64 p] 2 (0, 0)) from zai (zai BP.out _) _)
       have n10_ := zab.mk (show ((X.alloc (.cells #[.int .i64 q] 2)).alloc (.cells #[.int .i64 d] 3)).heap[Y + 1 + 1]? = some (.cells #[.int .i64 c] 3 (0, 0)) from zai (zai BC.out _) _)
       clear FX B2 B3 BF BO BG HBS HB BI BP BC hx1 hxd2 hx3 hci hci2
       rw [hZ]
       have FX := n0_
       have B2 := n1_
       have B3 := n2_
       have BF := n3_
       have BO := n4_
       have BG := n5_
       have HBS := n6_
       have HB := n7_
       have BI := n8_
       have BP := n9_
       have BC := n10_
       clear n0_ n1_ n2_ n3_ n4_ n5_ n6_ n7_ n8_ n9_ n10_ hZ
       generalize (X.alloc (.cells #[.int .i64 q] 2)).alloc (.cells #[.int .i64 d] 3) = V at *
       go_cut [20] (fun v20 wc => ∃ D : Nat, v20 = .pointer (some ⟨D, 0, none⟩) ∧ zab (Below V.heap.size V wc) ∧ zab (V.heap.size ≤ D) ∧ zab (wc.heap[D]? = some (.cells #[.bool (digP l0 (rs.map (·.1)) bs)] 4 (0, 0))))
       case first => as_aux_lemma =>
        have hbL := HBB.out
        have hdp : digP l0 (rs.map (·.1)) bs = ((decide (1 < bs.length) && oneB (rd l0 la) [44, 46]) && (rd (rs.map (·.1)) (rd bs ((bs.length : Int) - 2)) == 9)) := by rw [← HLA.out]; rfl
        have hlam : la ∈ bs := by
         rw [← HLA.out]
         have : rd bs ((bs.length : Int) - 1) = bs[bs.length - 1] := by rw [show (bs.length : Int) - 1 = ((bs.length - 1 : Nat) : Int) by omega]; simp [rd, List.getElem?_eq_getElem (l := bs) (i := bs.length - 1) (by omega)]
         rw [this]
         exact List.getElem_mem _
        obtain ⟨l1, l2⟩ := hbL la hlam
        have l3 : la < (l0.length : Int) := by omega
        by_cases h1 : 1 < bs.length
        ·have g1 : decide (1 < bs.length) = true := decide_eq_true h1
         obtain ⟨ad3, hA3, hx3⟩ := Kd.zbF HR0.out la l1 l3
         cases hA3
         replace hx3 := (HB.out.cell (World.block_lt_of_cell? w _ hx3)).trans hx3
         have f1 : zbI.f (rd l0 la) ⟨(44 :: 46 :: []).toArray⟩ = some (oneB (rd l0 la) [44, 46]) := rfl
         have F1 := zab.mk f1; have HDP := zab.mk hdp; clear hdp f1 hbL hlam
         go_wp2_with (fail)
         refine (zbI.calls (rd l0 la) _ _ _ F1.out).mono ?_
         rintro e w10 ⟨rfl, hb10⟩
         have HB10 := zab.mk hb10; clear hx3 hb10
         by_cases h2 : oneB (rd l0 la) [44, 46] = true
         ·have s1 : (0 : Int) ≤ (bs.length : Int) - 2 := by omega
          have s2 : (2 : Int) ≤ (bs.length : Int) := by omega
          have s3 : (bs.length : Int) - 2 < (bs.length : Int) := by omega
          obtain ⟨ab2, hA4, hx4⟩ := Kd.zbF (Kd.zaz HBS.out).2.2 ((bs.length : Int) - 2) s1 s3
          cases hA4
          rw [show ((bs.length : Int) - 2).toNat = bs.length - 2 by omega] at hx4
          replace hx4 := (HB10.out.cell (World.block_lt_of_cell? V _ hx4)).trans hx4
          have hem : rd bs ((bs.length : Int) - 2) ∈ bs := by
           have : rd bs ((bs.length : Int) - 2) = bs[bs.length - 2] := by rw [show (bs.length : Int) - 2 = ((bs.length - 2 : Nat) : Int) by omega]; simp [rd, List.getElem?_eq_getElem (l := bs) (i := bs.length - 2) (by omega)]
           rw [this]
           exact List.getElem_mem _
          obtain ⟨l4, l5⟩ := HBB.out _ hem
          obtain ⟨e, he⟩ : ∃ e, rd bs ((bs.length : Int) - 2) = e := ⟨_, rfl⟩
          have hdp2 := HDP.out
          rw [he] at hx4 l4 l5 hdp2
          have l6 : e < (l0.length : Int) := by omega
          have hrl : rs.length = l0.length := HRL.out
          have hx5 : w10.cell? ⟨g4, e.toNat, none⟩ = some (.int .i64 (rd (rs.map (·.1)) e)) := by
           have h := za8 (FX.out _ M2.out) HB10.out
           rw [zak h, encI_get _ _ (by simp; omega)]
           simp [rd, List.getElem?_eq_getElem (l := rs) (i := e.toNat) (by omega)]
          obtain ⟨ce, hce⟩ : ∃ ce, rd (rs.map (·.1)) e = ce := ⟨_, rfl⟩
          rw [hce] at hx5 hdp2
          rw [g1, h2, Bool.true_and, Bool.true_and] at hdp2
          have HDP2 := zab.mk hdp2; clear hem he hdp2 hrl hce HDP
          rw [h2]
          clear h2
          by_cases h3 : ce = 9
          ·have g3_ : (ce == 9) = true := beq_iff_eq.2 h3
           rw [g3_] at HDP2
           subst h3; clear g3_
           go_wp2
           go_meet
           case rel => exact ⟨_, rfl, ⟨zac HB10.out _⟩, ⟨HB10.out.size⟩, ⟨by rw [HDP2.out]; exact blk_new _ _⟩⟩
          have g3_ : (ce == 9) = false := beq_eq_false_iff_ne.2 h3
          rw [g3_] at HDP2
          clear h3
          go_wp2
          go_meet
          case rel => exact ⟨_, rfl, ⟨zac HB10.out _⟩, ⟨HB10.out.size⟩, ⟨by rw [HDP2.out]; exact blk_new _ _⟩⟩
         have h2' : oneB (rd l0 la) [44, 46] = false := Bool.eq_false_iff.2 h2
         clear h2
         have hdp2 := HDP.out
         rw [h2', Bool.and_false, Bool.false_and] at hdp2
         have HDP2 := zab.mk hdp2; clear hdp2 HDP
         rw [h2']
         clear h2'
         go_wp2
         go_meet
         case rel => exact ⟨_, rfl, ⟨zac HB10.out _⟩, ⟨HB10.out.size⟩, ⟨by rw [HDP2.out]; exact blk_new _ _⟩⟩
        have g1 : decide (1 < bs.length) = false := decide_eq_false h1
        rw [g1, Bool.false_and, Bool.false_and] at hdp
        have HDP2 := zab.mk hdp; clear hdp hbL hlam
        go_wp2
        go_meet
        case rel => exact ⟨_, rfl, ⟨zac (Below.refl _ _) _⟩, ⟨Nat.le_refl _⟩, ⟨by rw [HDP2.out]; exact blk_new _ _⟩⟩
       case rest => as_aux_lemma =>
        obtain ⟨D, rfl, HBV, HVD, BE⟩ := hcut
        have hbv := HBV.out
        have n0_ := zab.mk (Fx.below FX.out hbv)
        have n1_ := zab.mk (za8 B2.out hbv)
        have n2_ := zab.mk (za8 B3.out hbv)
        have n3_ := zab.mk (za8 BF.out hbv)
        have n4_ := zab.mk (za8 BO.out hbv)
        have n5_ := zab.mk (za8 BG.out hbv)
        have n6_ := zab.mk (Kd.zaN HBS.out hbv)
        have n7_ := zab.mk (zaw HB.out hbv)
        have n8_ := zab.mk (za8 BI.out hbv)
        have n9_ := zab.mk (za8 BP.out hbv)
        have n10_ := zab.mk (za8 BC.out hbv)
        have n11_ := zab.mk (za8 BQ.out hbv)
        have n12_ := zab.mk (za8 BD.out hbv)
        have HZV := zab.mk (show Z + 1 < V.heap.size from blk_lt BD.out)
        clear FX B2 B3 BF BO BG HBS HB BI BP BC BQ BD hbv HBV
        have FX := n0_
        have B2 := n1_
        have B3 := n2_
        have BF := n3_
        have BO := n4_
        have BG := n5_
        have HBS := n6_
        have HB := n7_
        have BI := n8_
        have BP := n9_
        have BC := n10_
        have BQ := n11_
        have BD := n12_
        clear n0_ n1_ n2_ n3_ n4_ n5_ n6_ n7_ n8_ n9_ n10_ n11_ n12_
        obtain ⟨gC, curC, hoc, hA91, hcC⟩ := HO3.out i hlt
        subst hA91
        have hci := cell_of_one BI.out
        have hrl : rs.length = l0.length := HRL.out
        have hkT : wc.cell? ⟨gT, i, none⟩ = some (.bool (rdOf false (rs.map (·.2)) i)) := by
         rw [zak (FX.out _ M3.out) i, encB_get _ _ (by simp; omega)]
         simp [rdOf, List.getElem?_eq_getElem (l := rs) (i := i) (by omega)]
        have hkC : wc.cell? ⟨gC, i, none⟩ = some (.bool (rdOf false chs i)) := by
         rw [zak (FX.out _ (M4.out (gC, .cells curC 4 (0, 0)) (by rw [hoc]; exact List.mem_singleton.2 rfl))) i]
         exact hcC
        have hkc : wc.cell? ⟨G, 0, none⟩ = some (.slice (some ⟨gC, 0, none⟩) l0.length c91) := by
         rw [← HCL.out]
         exact cell_of_one (FX.out _ M0.out)
        have HBR := zab.mk (show bb = lnB (rdOf false (rs.map (·.2)) i) (rdOf false chs i) q p c d gap opn (digP l0 (rs.map (·.1)) bs) flags from HBB2.out)
        have hd : ∀ a, wc.drew.cell? a = wc.cell? a := fun _ => rfl
        have HCALL := zab.mk (ln_calls w.heap.size Y G Z (Y + 1) (Y + 1 + 1) (G + 1 + 1 + 1) (Z + 1) (G + 1 + 1) D (G + 1) gT gC l0.length c91 l0.length i (rdOf false (rs.map (·.2)) i) (rdOf false chs i) q p c d gap opn (digP l0 (rs.map (·.1)) bs) flags wc.drew hlt ((hd _).trans (cell_of_one (FX.out _ M1.out))) ((hd _).trans hci) ((hd _).trans hkc) ((hd _).trans (cell_of_one BQ.out)) ((hd _).trans (cell_of_one BP.out)) ((hd _).trans (cell_of_one BC.out)) ((hd _).trans (cell_of_one BG.out)) ((hd _).trans (cell_of_one BD.out)) ((hd _).trans (cell_of_one BO.out)) ((hd _).trans (cell_of_one BE.out)) ((hd _).trans (cell_of_one BF.out)) ((hd _).trans hkT) ((hd _).trans hkC))
        rw [← HBR.out] at HCALL
        clear hkT hkC hkc hcC hoc hrl HBB2 hd
        obtain ⟨b1, b2⟩ := bb
        have hpl := HPL.out
        have hc2 : wc.cell? ⟨g2, i, none⟩ = some (.bool false) := by
         rw [zak B2.out i, encB_get _ _ (by simp; omega), List.getElem_append_right (by simp; omega)]
         simp
        have hf2 := zaf B2.out i
        have hc3 : wc.cell? ⟨g3, i, none⟩ = some (.bool false) := by
         rw [zak B3.out i, encB_get _ _ (by simp; omega), List.getElem_append_right (by simp; omega)]
         simp
        have hf3 := zaf B3.out i
        have e1 : ¬ g2 = g3 := HG23.out.2.2.1
        have e2 : ¬ g3 = g2 := fun e => e1 e.symm
        have hmf : ∀ (fn : Fn) (fs cp : Array Value) (w : World), (Instr.makeFunc fn fs cp).run Tryd.prog w = .ok (.func fn fs cp) w := fun _ _ _ _ => rfl
        clear hpl
        go_upto_region 25 with (fail)
        go_region_with ((refine (HCALL.out).mono ?_; rintro e w9 ⟨rfl, rfl⟩))
        all_goals
         go_wp2
         go_meet
         case rel => exact ⟨rfl, ⟨Fx.far (Fx.far (Fx.drew FX.out) (p := ⟨g2, i, none⟩) (fun x hx => (FAR.out x hx).1) _) (p := ⟨g3, i, none⟩) (fun x hx => (FAR.out x hx).2.1) _⟩, ⟨zbb (zbA (zat B2.out) i _ (by rw [encB_set, set_mid _ _ _ _ _ (by simp; exact HPL.out) hlt, List.map_append]; rfl)) e1 _⟩, ⟨zbA (zbb (zat B3.out) e2 _) i _ (by rw [encB_set, set_mid _ _ _ _ _ (by simp; exact HPL.out) hlt, List.map_append]; rfl)⟩, ⟨zbb (zbb (zat BF.out) (by have := HG23.out; show G + 1 ≠ g2; omega) _) (by have := HG23.out; show G + 1 ≠ g3; omega) _⟩, ⟨zbb (zbb (zat BO.out) (by have := HG23.out; show G + 1 + 1 ≠ g2; omega) _) (by have := HG23.out; show G + 1 + 1 ≠ g3; omega) _⟩, ⟨zbb (zbb (zat BG.out) (by have := HG23.out; show G + 1 + 1 + 1 ≠ g2; omega) _) (by have := HG23.out; show G + 1 + 1 + 1 ≠ g3; omega) _⟩, ⟨zbb (zbb (zat BI.out) (by have := HG23.out; have := HGY.out; show Y ≠ g2; omega) _) (by have := HG23.out; have := HGY.out; show Y ≠ g3; omega) _⟩, ⟨zbb (zbb (zat BC.out) (by have := HG23.out; have := HGY.out; show Y + 1 + 1 ≠ g2; omega) _) (by have := HG23.out; have := HGY.out; show Y + 1 + 1 ≠ g3; omega) _⟩, ⟨Kd.za4 (p := ⟨g3, i, none⟩) (Kd.za4 (p := ⟨g2, i, none⟩) (Kd.zav HBS.out) (fun k hk => by have := HG23.out; show k ≠ g2; omega) _) (fun k hk => by have := HG23.out; show k ≠ g3; omega) _⟩, ⟨zas (zas (zad HB.out) (Nat.le_of_lt HG23.out.2.2.2.1)) (Nat.le_of_lt HG23.out.2.2.2.2.1)⟩⟩
      obtain rfl : pre = [] := List.eq_nil_of_length_eq_zero (by rw [HPL.out]; omega)
      obtain rfl : 0 = i := by omega
      have p4 : decide (0 < 0) = false := rfl
      rw [if_pos rfl] at hbb
      subst hbb
      have hr2 := rep_stepB B2.out hlt
      have hr3 := rep_stepB B3.out hlt
      have HR2 := zab.mk hr2; have HR3 := zab.mk hr3; clear hr2 hr3 h0 HE2
      go_wp2
      go_meet
      case rel => exact ⟨rfl, FX, HR2, HR3, BF, BO, BG, BI, BC, HBS, HB⟩
     case rest => as_aux_lemma =>
      clear FX B2 B3 BF BO BG HBS HB BI BP BC
      obtain ⟨rfl, FX, B2, B3, BF, BO, BG, BI, BC, HBS, HB⟩ := hcut
      have hhb := HHB.out
      have hE := HE2.out
      rw [hhb] at hE
      subst hE; clear hhb hbb HHB HE2
      have hrl : rs.length = l0.length := HRL.out
      have hcz : wc.cell? ⟨w.heap.size, 0, none⟩ = some (.slice (some ⟨gT, 0, none⟩) l0.length l0.length) := cell_of_one (FX.out _ M1.out)
      have hci := cell_of_one BI.out
      have hkT : wc.cell? ⟨gT, i, none⟩ = some (.bool (rdOf false (rs.map (·.2)) i)) := by
       rw [zak (FX.out _ M3.out) i, encB_get _ _ (by simp; omega)]
       simp [rdOf, List.getElem?_eq_getElem (l := rs) (i := i) (by omega)]
      have htk0 : i = 0 → rdOf false (rs.map (·.2)) i = false := by
       rintro rfl
       have hl : 0 < rs.length := by omega
       have h := HHD.out rs[0] (List.getElem?_eq_getElem hl)
       simp [rdOf, List.getElem?_eq_getElem (l := rs) (i := 0) hl, h]
      clear hrl
      cases htk : rdOf false (rs.map (·.2)) i with
      | true =>
       rw [htk] at hkT
       have hi0 : 0 < i := Nat.pos_of_ne_zero fun e => by rw [htk0 e] at htk; cases htk
       have HRT2 := HRT.out
       rw [if_pos htk] at HRT2
       have n1_ := zab.mk HRT2; clear HRT2 HRT htk htk0; have HI0 := zab.mk hi0; clear hi0
       go_wp2
       go_roundw
       case rel =>
        have hm := HM.out
        refine ⟨i + 1, pre ++ [bb], _, bs, flags, opn, gap, by go_num, by omega, ⟨by rw [List.length_append, HPL.out]; rfl⟩, ⟨by rw [n1_.out, List.append_assoc]; rfl⟩, ⟨by rw [show l0.length - (i + 1) = m by omega]⟩, ⟨fun b hb => ⟨(HBB.out b hb).1, by have := (HBB.out b hb).2; omega⟩⟩, ⟨⟨fun _ => HBL.out.1 HI0.out, by have := HBL.out.2; omega⟩⟩, FX, B2, B3, BF, BO, BG, ⟨Kd.za2 HBS.out (fun k hk => hk.1)⟩, HB⟩
       case measure => simp [intOf]; omega
      | false =>
       rw [htk] at hkT
       have HRT2 := HRT.out
       rw [if_neg (by rw [htk]; decide)] at HRT2
       have HR2 := zab.mk HRT2; clear HRT2 HRT htk htk0
       go_upto_region 28 with (first | ((with_reducible refine zbs (b := .append) (xs := #[.tmp 159, .tmp 161]) rfl ?_); at_builtin; refine Kd.R_append (Kd.int .i64) (w0 := w) w.heap.size rfl (.tmp 159) (.tmp 161) 80 3 (.int .i64 0) 8 rfl Tryd.underlying80 info3 rfl (by decide) (by omega) (.slice ao bs.length co) bs (i : Int) [.int .i64 i] (fun k_ => G + 4 ≤ k_) (fun _ => False) rfl rfl ?aP (fun _ hk => hk.elim) ?aF ?aO ?aB ?aS ?aL ?_; (case aP => exact rfl); (case aB => exact HB.out); (case aF => exact (fun k_ hk => by have := blk_lt BI.out; have := HGY.out; omega)); (case aO => exact Kd.za2 HBS.out (fun k hk => hk.1)); (case aS => exact zaC HB.out); (case aL => have := HBL.out.2; omega); intro v149 w22 ho hb hg hat))
       have HOB := HBS.out.1
       have ng : ∀ g : Nat, (g < G + 4 ∨ Y ≤ g) → some g ≠ (Value.slice ao bs.length co).ownBlock := fun g h e => by have := HOB _ e.symm; omega
       have hy := HGY.out
       have hg23 := HG23.out
       have n0_ := zab.mk (Fx.grown FX.out hg (fun x hx => ng _ (.inl (by have := (FAR.out x hx).2.2; omega))))
       have n1_ := zab.mk (zbi B2.out hg (ng _ (.inl (by omega))))
       have n2_ := zab.mk (zbi B3.out hg (ng _ (.inl (by omega))))
       have n3_ := zab.mk (zbi BF.out hg (ng _ (.inl (by omega))))
       have n4_ := zab.mk (zbi BO.out hg (ng _ (.inl (by omega))))
       have n5_ := zab.mk (zbi BG.out hg (ng _ (.inl (by omega))))
       have n6_ := zab.mk (zbi BC.out hg (ng _ (.inr (by omega))))
       have n7_ := zab.mk ho; have n8_ := zab.mk hb; clear FX B2 B3 BF BO BG BC BI HBS HB HOB ng hy hg23 hg hat ho hb hcz hci hkT
       have hcf := cell_of_one n3_.out
       have hco := cell_of_one n4_.out
       have hcg := cell_of_one n5_.out
       have hcc := cell_of_one n6_.out
       have hff := free_of_one n3_.out
       have hfo := free_of_one n4_.out
       have hfg := free_of_one n5_.out
       have g1 : ¬ G + 1 + 1 = G + 1 := by omega
       have g2_ : ¬ G + 1 + 1 + 1 = G + 1 := by omega
       have g3_ : ¬ G + 1 + 1 + 1 = G + 1 + 1 := by omega
       have g4_ : ¬ G + 1 = G + 1 + 1 := by omega
       have g5_ : ¬ G + 1 = G + 1 + 1 + 1 := by omega
       have g6_ : ¬ G + 1 + 1 = G + 1 + 1 + 1 := by omega
       have g7_ : ¬ Y + 1 + 1 = G + 1 := by have := HGY.out; omega
       have g8_ : ¬ Y + 1 + 1 = G + 1 + 1 := by have := HGY.out; omega
       have g9_ : ¬ Y + 1 + 1 = G + 1 + 1 + 1 := by have := HGY.out; omega
       have g10_ : ¬ G + 1 = Y + 1 + 1 := by have := HGY.out; omega
       have g11_ : ¬ G + 1 + 1 = Y + 1 + 1 := by have := HGY.out; omega
       have g12_ : ¬ G + 1 + 1 + 1 = Y + 1 + 1 := by have := HGY.out; omega
       have hcs : c = 2 ∨ c = 12 ∨ ((c != 2) = true ∧ (c == 12) = false ∧ ¬ c = 2 ∧ ¬ c = 12) := by
        by_cases h2 : c = 2
        ·exact .inl h2
        by_cases h9 : c = 12
        ·exact .inr (.inl h9)
        exact .inr (.inr ⟨bne_iff_ne.2 h2, beq_eq_false_iff_ne.2 h9, h2, h9⟩)
       rcases hcs with hc2 | hc12 | ⟨k1, k2, k3, k4⟩
       ·subst hc2
        have h3 := HR2.out
        rw [if_neg (by decide), if_pos rfl, if_pos rfl] at h3
        have HR3 := zab.mk h3; clear h3 HR2
        go_wp2
        go_roundw
        case rel =>
         have hm := HM.out
         have hg23 := HG23.out
         refine ⟨i + 1, pre ++ [bb], _, bs ++ [(i : Int)], 0, opn, gap, by go_num, by omega, ⟨by rw [List.length_append, HPL.out]; rfl⟩, ⟨by rw [HR3.out, List.append_assoc]; rfl⟩, ⟨by rw [show l0.length - (i + 1) = m by omega]⟩, ⟨fun b hb => (List.mem_append.1 hb).elim (fun h => ⟨(HBB.out b h).1, by have := (HBB.out b h).2; omega⟩) (fun h => by rw [List.mem_singleton.1 h]; omega)⟩, ⟨⟨fun _ => by simp, by have := HBL.out.2; simp; omega⟩⟩, ⟨Fx.far n0_.out (p := ⟨G + 1, 0, none⟩) (fun x hx => Nat.ne_of_lt (FAR.out x hx).2.2) _⟩, ⟨zbb n1_.out (by show g2 ≠ G + 1; omega) _⟩, ⟨zbb n2_.out (by show g3 ≠ G + 1; omega) _⟩, ⟨one_setCell n3_.out⟩, ⟨one_far n4_.out g1 _⟩, ⟨one_far n5_.out g2_ _⟩, ⟨Kd.za4 (p := ⟨G + 1, 0, none⟩) n7_.out (fun k hk => by show k ≠ G + 1; omega) _⟩, ⟨zas n8_.out (by omega)⟩⟩
        case measure => simp [intOf]; omega
       ·subst hc12
        have h3 := HR2.out
        rw [if_pos rfl, if_neg (by decide), if_neg (by decide)] at h3
        have HR3 := zab.mk h3; clear h3 HR2
        go_wp2
        go_region
        all_goals
         go_wp2
         go_roundw
         case rel =>
          have hm := HM.out
          have hg23 := HG23.out
          refine ⟨i + 1, pre ++ [bb], _, bs ++ [(i : Int)], wrap64 (flags + 1), ((12 : Int) == 6), ((12 : Int) == 4), by go_num, by omega, ⟨by rw [List.length_append, HPL.out]; rfl⟩, ⟨by rw [HR3.out, List.append_assoc]; rfl⟩, ⟨by rw [show l0.length - (i + 1) = m by omega]⟩, ⟨fun b hb => (List.mem_append.1 hb).elim (fun h => ⟨(HBB.out b h).1, by have := (HBB.out b h).2; omega⟩) (fun h => by rw [List.mem_singleton.1 h]; omega)⟩, ⟨⟨fun _ => by simp, by have := HBL.out.2; simp; omega⟩⟩, ⟨Fx.drew (Fx.far (Fx.far (Fx.far n0_.out (p := ⟨G + 1, 0, none⟩) (fun x hx => Nat.ne_of_lt (FAR.out x hx).2.2) _) (p := ⟨G + 1 + 1, 0, none⟩) (fun x hx => Nat.ne_of_lt (Nat.lt_succ_of_lt (FAR.out x hx).2.2)) _) (p := ⟨G + 1 + 1 + 1, 0, none⟩) (fun x hx => Nat.ne_of_lt (Nat.lt_succ_of_lt (Nat.lt_succ_of_lt (FAR.out x hx).2.2))) _)⟩, ⟨zat (zbb (zbb (zbb n1_.out (by show g2 ≠ G + 1; omega) _) (by show g2 ≠ G + 1 + 1; omega) _) (by show g2 ≠ G + 1 + 1 + 1; omega) _)⟩, ⟨zat (zbb (zbb (zbb n2_.out (by show g3 ≠ G + 1; omega) _) (by show g3 ≠ G + 1 + 1; omega) _) (by show g3 ≠ G + 1 + 1 + 1; omega) _)⟩, ⟨zat (one_far (one_far (one_setCell n3_.out) g4_ _) g5_ _)⟩, ⟨zat (one_far (one_setCell (one_far n4_.out g1 _)) g6_ _)⟩, ⟨zat (one_setCell (one_far (one_far n5_.out g2_ _) g3_ _))⟩, ⟨Kd.zav (Kd.za4 (p := ⟨G + 1 + 1 + 1, 0, none⟩) (Kd.za4 (p := ⟨G + 1 + 1, 0, none⟩) (Kd.za4 (p := ⟨G + 1, 0, none⟩) n7_.out (fun k hk => by show k ≠ G + 1; omega) _) (fun k hk => by show k ≠ G + 1 + 1; omega) _) (fun k hk => by show k ≠ G + 1 + 1 + 1; omega) _)⟩, ⟨zad (zas (zas (zas n8_.out (by omega)) (by omega)) (by omega))⟩⟩
         case measure => simp [intOf]; omega
       have h3 := HR2.out
       rw [if_neg k4, if_neg k3, if_neg k3] at h3
       have HR3 := zab.mk h3; clear h3 HR2 k3 k4
       go_wp2
       go_region
       all_goals
        go_wp2
        go_roundw
        case rel =>
         have hm := HM.out
         have hg23 := HG23.out
         refine ⟨i + 1, pre ++ [bb], _, bs ++ [(i : Int)], 0, (c == 6), (c == 4), by go_num, by omega, ⟨by rw [List.length_append, HPL.out]; rfl⟩, ⟨by rw [HR3.out, List.append_assoc]; rfl⟩, ⟨by rw [show l0.length - (i + 1) = m by omega]⟩, ⟨fun b hb => (List.mem_append.1 hb).elim (fun h => ⟨(HBB.out b h).1, by have := (HBB.out b h).2; omega⟩) (fun h => by rw [List.mem_singleton.1 h]; omega)⟩, ⟨⟨fun _ => by simp, by have := HBL.out.2; simp; omega⟩⟩, ⟨Fx.drew (Fx.far (Fx.far (Fx.far n0_.out (p := ⟨G + 1, 0, none⟩) (fun x hx => Nat.ne_of_lt (FAR.out x hx).2.2) _) (p := ⟨G + 1 + 1, 0, none⟩) (fun x hx => Nat.ne_of_lt (Nat.lt_succ_of_lt (FAR.out x hx).2.2)) _) (p := ⟨G + 1 + 1 + 1, 0, none⟩) (fun x hx => Nat.ne_of_lt (Nat.lt_succ_of_lt (Nat.lt_succ_of_lt (FAR.out x hx).2.2))) _)⟩, ⟨zat (zbb (zbb (zbb n1_.out (by show g2 ≠ G + 1; omega) _) (by show g2 ≠ G + 1 + 1; omega) _) (by show g2 ≠ G + 1 + 1 + 1; omega) _)⟩, ⟨zat (zbb (zbb (zbb n2_.out (by show g3 ≠ G + 1; omega) _) (by show g3 ≠ G + 1 + 1; omega) _) (by show g3 ≠ G + 1 + 1 + 1; omega) _)⟩, ⟨zat (one_far (one_far (one_setCell n3_.out) g4_ _) g5_ _)⟩, ⟨zat (one_far (one_setCell (one_far n4_.out g1 _)) g6_ _)⟩, ⟨zat (one_setCell (one_far (one_far n5_.out g2_ _) g3_ _))⟩, ⟨Kd.zav (Kd.za4 (p := ⟨G + 1 + 1 + 1, 0, none⟩) (Kd.za4 (p := ⟨G + 1 + 1, 0, none⟩) (Kd.za4 (p := ⟨G + 1, 0, none⟩) n7_.out (fun k hk => by show k ≠ G + 1; omega) _) (fun k hk => by show k ≠ G + 1 + 1; omega) _) (fun k hk => by show k ≠ G + 1 + 1 + 1; omega) _)⟩, ⟨zad (zas (zas (zas n8_.out (by omega)) (by omega)) (by omega))⟩⟩
        case measure => simp [intOf]; omega
    obtain rfl : i = l0.length := by omega
    have hE := HE.out
    rw [Nat.sub_self] at hE
    unfold ln2 at hE
    subst hE
    obtain rfl : res = pre := by rw [← HRES.out, HRT.out, List.append_nil]
    have n2_ := zab.mk (show wr.heap[g2]? = some (.cells (encB (res.map (·.1))) 4 (0, 0)) by have h := B2.out; rwa [Nat.sub_self, List.replicate_zero, List.append_nil] at h)
    have n3_ := zab.mk (show wr.heap[g3]? = some (.cells (encB (res.map (·.2))) 4 (0, 0)) by have h := B3.out; rwa [Nat.sub_self, List.replicate_zero, List.append_nil] at h)
    clear B2 B3 HE HRT hi hlt BF BO BG HBS HBB HBL
    have q1 : decide (l0.length < l0.length) = false := decide_eq_false (by omega)
    have q2 : decide ((l0.length : Int) < (l0.length : Int)) = false := decide_eq_false (by omega)
    have hcz : wr.cell? ⟨w.heap.size, 0, none⟩ = some (.slice (some ⟨gT, 0, none⟩) l0.length l0.length) := cell_of_one (FX.out _ M1.out)
    have hfz : wr.frozen? ⟨w.heap.size, 0, none⟩ = false := free_of_one (FX.out _ M1.out)
    have hct : ((wr.setCell ⟨w.heap.size, 0, none⟩ (.slice (some ⟨gT, 0, none⟩) l0.length l0.length)).drew).cell? ⟨w.heap.size, 0, none⟩ = some (.slice (some ⟨gT, 0, none⟩) l0.length l0.length) := cell_of_one (zat (one_setCell (FX.out _ M1.out)))
    go_wp2
    go_region
    go_wp2
    refine bodyPost_ret (v := .tuple #[.slice (some ⟨g2, 0, none⟩) l0.length l0.length, .slice (some ⟨g3, 0, none⟩) l0.length l0.length, .slice (some ⟨g4, 0, none⟩) l0.length l0.length, .slice (some ⟨gT, 0, none⟩) l0.length l0.length]) (by simp [results, Tryd.results63, go_sem, hct]) rfl ?_
    have hg := HG23.out
    have hL := HL.out
    have hrl : rs.length = l0.length := HRL.out
    refine ⟨_, _, _, _, rfl, R_rowB (zat (zbb n2_.out (by show g2 ≠ w.heap.size; omega) _)) (by omega) (by rw [List.length_map]; exact HPL.out) hL, R_rowB (zat (zbb n3_.out (by show g3 ≠ w.heap.size; omega) _)) (by omega) (by rw [List.length_map]; exact HPL.out) hL, R_rowI (zat (zbb (FX.out _ M2.out) (by show g4 ≠ w.heap.size; omega) _)) (by omega) (by rw [List.length_map]; exact hrl) hL, R_rowB (zat (zbb (FX.out _ M3.out) (by show gT ≠ w.heap.size; omega) _)) (by omega) (by rw [List.length_map]; exact hrl) hL, zad (zas HB.out (Nat.le_refl _))⟩
theorem ln1_len (k : Nat) : ∀ l prev rs, ln1 k l prev = some rs → rs.length = l.length
 | [], _, rs, h => by cases h; rfl
 | p :: r, prev, rs, h => by
  unfold ln1 at h
  obtain ⟨c, _, h⟩ := Option.bind_eq_some_iff.mp h
  obtain ⟨m, _, h⟩ := Option.bind_eq_some_iff.mp h
  obtain ⟨t, ht, h⟩ := Option.bind_eq_some_iff.mp h
  cases h
  rw [List.length_cons, List.length_cons, ln1_len k r _ t ht]
theorem ln1_head (k : Nat) (l : List Int) (rs : List (Int × Bool)) (h : ln1 k l none = some rs) : ∀ x, rs[0]? = some x → x.2 = false := by
 intro x hx
 cases l with
 | nil => cases h; cases hx
 | cons p r =>
  unfold ln1 at h
  obtain ⟨c, _, h⟩ := Option.bind_eq_some_iff.mp h
  obtain ⟨m, _, h⟩ := Option.bind_eq_some_iff.mp h
  obtain ⟨t, ht, h⟩ := Option.bind_eq_some_iff.mp h
  cases h
  cases hx
  unfold lnC
  split <;> rfl
def impl_lines.f (k : Nat) (l0 : List Int) : Option (List Bool × List Bool × List Int × List Bool) :=
 if l0.length ≤ 1000000000000 then (ln1 k l0 none).bind fun rs => (impl_charCuts.f k l0).bind fun chs =>
  if chs.length = l0.length then some ((ln2 l0 (rs.map (·.1)) (rs.map (·.2)) chs l0.length 0 [] 0 false false).map (·.1), (ln2 l0 (rs.map (·.1)) (rs.map (·.2)) chs l0.length 0 [] 0 false false).map (·.2), rs.map (·.1), rs.map (·.2)) else none else none
theorem impl_lines.calls (k : Nat) (A0 : Option Addr) (c0 : Nat) (l0 : List Int) (r1 r2 : List Bool) (r3 : List Int) (r4 : List Bool) (w : World) (hr0 : Kd.C (Kd.int .i64) w A0 l0.length l0) (hc0 : l0.length ≤ c0) (h : impl_lines.f k l0 = some (r1, r2, r3, r4)) :
  Calls Tryd.prog 63 #[.slice A0 l0.length c0] w fun e w' => ∃ v0_ v1_ v2_ v3_ : Value, e = .returned (.tuple #[v0_, v1_, v2_, v3_]) ∧ Kd.R Kd.bool 4 w' w.heap.size (fun _ => True) v0_ r1 ∧ Kd.R Kd.bool 4 w' w.heap.size (fun _ => True) v1_ r2 ∧ Kd.R (Kd.int .i64) 3 w' w.heap.size (fun _ => True) v2_ r3 ∧ Kd.R Kd.bool 4 w' w.heap.size (fun _ => True) v3_ r4 ∧ Below w.heap.size w w' := by
 unfold impl_lines.f at h
 by_cases hl : l0.length ≤ 1000000000000
 ·rw [if_pos hl] at h
  obtain ⟨rs, h1, h⟩ := Option.bind_eq_some_iff.mp h
  obtain ⟨chs, h2, h⟩ := Option.bind_eq_some_iff.mp h
  by_cases hc : chs.length = l0.length
  ·rw [if_pos hc] at h
   cases h
   exact ln_walk k A0 c0 l0 w hr0 hc0 hl rs h1 chs h2 hc (ln1_len k _ _ _ h1) (ln1_head k _ _ h1) _ rfl
  rw [if_neg hc] at h
  cases h
 rw [if_neg hl] at h
 cases h
end Go.Proofs.YtbppeepihlajoaaDoor.P
