/- Parts of a proof: words of the print tool that this claim uses, or plain lists. -/
import Derived.Test.YtfafjbolmeimmaaGreatDoorAb
import Derived.Test.YtfafjbolmeimmaaGreatDoorF18
import Derived.Test.YtfafjbolmeimmaaGreatDoorF22
import Derived.Test.YtfafjbolmeimmaaGreatDoorF21
import Derived.Test.YtfafjbolmeimmaaGreatDoorJ24
import Derived.Test.YtfafjbolmeimmaaGreatDoorJ4
import Derived.Test.YtfafjbolmeimmaaGreatDoorJ28
import Derived.Test.YtfafjbolmeimmaaGreatDoorF6
import Derived.Test.YtfafjbolmeimmaaGreatDoorF5
import Derived.Test.YtfafjbolmeimmaaGreatDoorF7
namespace Go.Proofs.YtfafjbolmeimmaaGreatDoor.P
open Go.RowKit Go.Proofs.YtfafjbolmeimmaaGreatDoorW.PrintWords
set_option linter.unusedVariables false
def locOf (x : S26) : S31 := ⟨x.f0, x.f1, x.f2, x.f3, x.f4, x.f5, x.f6, x.f7.map plOf, x.f8, x.f9, x.f10, x.f11, x.f12, x.f13, x.f14⟩
structure bigL (x : S26) : Prop where
 b0 : bigT x.f0
 b1 : bigT x.f1
 b2 : bigT x.f2
 b3 : bigT x.f3
 b4 : bigT x.f4
 b8 : bigT x.f8
 b9 : bigT x.f9
 b10 : bigT x.f10
 b11 : bigT x.f11
 b14 : bigT x.f14
 b5 : x.f5.length ≤ 9223372036854775807
 b7 : x.f7.length ≤ 9223372036854775807
 c7 : ∀ y ∈ x.f7, bigT y.f0 ∧ bigT y.f1
 b12 : x.f12.length ≤ 9223372036854775807
 c12 : ∀ s ∈ x.f12, s.size ≤ 9223372036854775807
 b13 : x.f13.length ≤ 9223372036854775807
 c13 : ∀ s ∈ x.f13, s.size ≤ 9223372036854775807
def smL (x : S31) : Prop := smallLoc x.f0 x.f1 x.f2 x.f3 x.f4 x.f5 x.f7 x.f8 x.f9 x.f10 x.f11 x.f12 x.f13 x.f14 = true
theorem szL1 (x : S26) (h : bigL x) (y : Int) (y0 : 0 ≤ y) (y1 : y ≤ 1048576) : ∃ r, Ev (fun k => laws_szLocale.f k x.f0 x.f1 x.f2 x.f3 x.f4 x.f5 x.f6 x.f7 x.f8 x.f9 x.f10 x.f11 x.f12 x.f13 x.f14 y) r ∧ (r ≤ y ∧ (0 ≤ r → smL (locOf x))) :=
 szLoc_g x.f0 x.f1 x.f2 x.f3 x.f4 x.f5 x.f6 x.f7 x.f8 x.f9 x.f10 x.f11 x.f12 x.f13 x.f14 h.b0 h.b1 h.b2 h.b3 h.b4 h.b8 h.b9 h.b10 h.b11 h.b14 h.b5 h.b7 h.c7 h.b12 h.c12 h.b13 h.c13 y y0 y1
theorem szLs_l (l : List S26) (hl : l.length ≤ 9223372036854775807) (hs : ∀ x ∈ l, bigL x) : ∀ (d i : Nat), l.length - i = d → i ≤ l.length → ∀ a : Int, 0 ≤ a → a ≤ 1048576 →
  ∃ r, Ev (fun k => za4.l0 k l a (i : Int)) r ∧ r ≤ a ∧ (0 ≤ r → ∀ x ∈ l.drop i, smL (locOf x)) := by
 intro d
 induction d with
 | zero =>
  intro i hd hi a h0 h1
  refine ⟨a, Ev.step (fun k => by rw [za4.l0]) (Ev.neg yq9 (Ev.now _)), Int.le_refl _, fun _ s hm => ?_⟩
  rw [List.drop_eq_nil_of_le yq9] at hm
  cases hm
 | succ d ih =>
  intro i hd hi a h0 h1
  have hlt : i < l.length := by omega
  have hz := hs l[i] (List.getElem_mem hlt)
  have e3 : zaA l (i : Int) = l[i] := by simp [zaA, hlt]
  have e2 : wrap64 ((i : Int) + 1) = ((i + 1 : Nat) : Int) := by rw [w64 yq9 yq9]; omega
  obtain ⟨r1, hr1, hle, hsm⟩ := szL1 l[i] hz a h0 h1
  by_cases hn : r1 < 0
  ·refine ⟨-1, Ev.step (fun k => by rw [za4.l0]) (Ev.pos yq9 (Ev.pos yq9 ?_)), yq9, fun h => by omega⟩
   rw [e3]
   exact Ev.bind hr1 (Ev.pos hn (Ev.now _))
  obtain ⟨r, hr, hra, hrs⟩ := ih (i + 1) yq9 yq9 r1 yq9 yq9
  refine ⟨r, Ev.step (fun k => by rw [za4.l0]) (Ev.pos yq9 (Ev.pos yq9 ?_)), yq9, fun h s hm => ?_⟩
  ·rw [e3, e2]
   exact Ev.bind hr1 (Ev.neg hn hr)
  rw [List.drop_eq_getElem_cons hlt] at hm
  rcases List.mem_cons.1 hm with rfl | h2
  ·exact hsm yq9
  exact hrs h s h2
theorem szLs_f (l : List S26) (hl : l.length ≤ 9223372036854775807) (hs : ∀ x ∈ l, bigL x) :
  ∃ r, Ev (fun k => za4.f k l 1048576) r ∧ (0 ≤ r → l.length ≤ 1048576 ∧ ∀ x ∈ l, smL (locOf x)) := by
 have e3 : wrap64 (1048576 - (l.length : Int)) = 1048576 - (l.length : Int) := w64 yq9 yq9
 by_cases hn : 1048576 - (l.length : Int) < 0
 ·refine ⟨-1, ?_, fun h => by omega⟩
  unfold za4.f
  rw [e3]
  exact Ev.pos hn (Ev.now _)
 obtain ⟨r, hr, hra, hrs⟩ := szLs_l l hl hs _ 0 rfl yq9 (1048576 - (l.length : Int)) yq9 yq9
 refine ⟨r, ?_, fun h => ⟨yq9, fun s hm => hrs h s (by simpa using hm)⟩⟩
 unfold za4.f
 rw [e3]
 exact Ev.neg hn hr
theorem toLs_l (l : List S26) (hl : l.length ≤ 1048576) (hs : ∀ x ∈ l, smL (locOf x)) : ∀ (d i : Nat), l.length - i = d → i ≤ l.length →
  Ev (fun k => za5.l0 k l ((l.map locOf).take i ++ List.replicate (l.length - i) z31) (i : Int)) (l.map locOf) := by
 intro d
 induction d with
 | zero =>
  intro i hd hi
  obtain rfl : i = l.length := by omega
  refine Ev.step (fun k => by rw [za5.l0]) (Ev.neg yq9 ((Ev.now _).to ?_))
  rw [Nat.sub_self, List.replicate_zero, List.append_nil]
  exact List.take_of_length_le yq21
 | succ d ih =>
  intro i hd hi
  have hlt : i < l.length := by omega
  have e2 := w_succ i yq9
  have e3 : zaA l (i : Int) = l[i] := by simp [zaA, hlt]
  obtain ⟨-, t5, t7, -, t12, -, t13, -⟩ := small_parts' (hs l[i] (List.getElem_mem hlt))
  have t7' : l[i].f7.length ≤ 1073741824 := by simpa [locOf] using t7
  refine Ev.step (fun k => by rw [za5.l0]) ?_
  rw [e3, e2, Int.toNat_natCast]
  refine Ev.pos yq9 (Ev.pos yq9 (Ev.bind (toLoc_f l[i].f0 l[i].f1 l[i].f2 l[i].f3 l[i].f4 l[i].f5 l[i].f6 l[i].f7 l[i].f8 l[i].f9 l[i].f10 l[i].f11 l[i].f12 l[i].f13 l[i].f14 (Nat.le_trans t5 yq9) yq9 (Nat.le_trans t12 yq9) (Nat.le_trans t13 yq9)) (Ev.pos (by simp; omega) ?_)))
  have hc := copy_map locOf l z31 i hlt
  show Ev (fun k => za5.l0 k l (List.set _ i (locOf l[i])) _) _
  rw [hc]
  exact ih (i + 1) yq9 yq9
theorem toLs_f (l : List S26) (hl : l.length ≤ 1048576) (hs : ∀ x ∈ l, smL (locOf x)) : Ev (fun k => za5.f k l) (l.map locOf) := by
 have h := toLs_l l hl hs _ 0 rfl yq9
 refine Ev.pos yq9 (Ev.pos yq9 ?_)
 rw [Int.toNat_natCast]
 simpa using h
theorem eqLs_l (l : List S31) (hl : l.length ≤ 1048576) (hs : ∀ x ∈ l, smL x) : ∀ (d i : Nat), l.length - i = d → i ≤ l.length → Ev (fun k => zaL.l0 k l l (i : Int)) true := by
 intro d
 induction d with
 | zero =>
  intro i hd hi
  refine Ev.step (fun k => by rw [zaL.l0]) ?_
  exact Ev.neg yq9 (Ev.now _)
 | succ d ih =>
  intro i hd hi
  have hlt : i < l.length := by omega
  have e2 := w_succ i yq9
  have e3 : zao l (i : Int) = l[i] := by simp [zao, hlt]
  obtain ⟨-, t5, t7, -, t12, -, t13, -⟩ := small_parts' (hs l[i] (List.getElem_mem hlt))
  refine Ev.step (fun k => by rw [zaL.l0]) ?_
  rw [e3, e2]
  exact Ev.pos yq9 (Ev.pos yq9 (Ev.pos yq9 (Ev.bind (Ev.done (if_pos ⟨⟨rfl, rfl, rfl, rfl, rfl, rfl, rfl, rfl, rfl, rfl, rfl, rfl, rfl, rfl, rfl⟩, t5, t7, t12, t13⟩)) (Ev.pos rfl (ih (i + 1) yq9 yq9)))))
theorem eqLs_f (l : List S31) (hl : l.length ≤ 1048576) (hs : ∀ x ∈ l, smL x) : Ev (fun k => zaL.f k l l) true := Ev.pos rfl (eqLs_l l hl hs _ 0 rfl yq9)
end Go.Proofs.YtfafjbolmeimmaaGreatDoor.P
namespace Go.Proofs.YtfafjbolmeimmaaGreatDoor.P
open Go.RowKit Go.Proofs.YtfafjbolmeimmaaGreatDoorW.PrintWords Go.Proofs.YtfafjbolmeimmaaGreatDoorW.PrintLast Go.Proofs.YtfafjbolmeimmaaGreatDoorW.PrintMore
set_option linter.unusedVariables false
set_option linter.unusedSimpArgs false
theorem mt_one (d : Int) : (strOfNums [d]).size = 1 := by
 show (ByteArray.mk _).size = 1
 rfl
theorem mt_l : ∀ (n : Nat) (x : Int) (o : ByteArray), x.toNat ≤ n → 0 ≤ x → x ≤ 4611686018427387904 → (o.size : Int) + x ≤ 4611686018427387904 → ∃ y, Ev (fun k => za0.l0 k x o) y
 | 0, x, o, hn, h0, h1, h2 => ⟨_, Ev.step (fun k => by rw [za0.l0]) (Ev.neg yq9 (Ev.pos yq9 (Ev.now _)))⟩
 | n + 1, x, o, hn, h0, h1, h2 => by
  by_cases hx : x > 0
  ·have e : wrap64 (Int.tdiv x 10) = x / 10 := by rw [Int.tdiv_eq_ediv_of_nonneg h0, w64 yq9 yq9]
   obtain ⟨d, hd⟩ : ∃ d, (wrap64 (48 + (Int.tmod x 10))) % 256 = d := ⟨_, rfl⟩
   have hz : ((strOfNums [d]) ++ o).size = 1 + o.size := by rw [ByteArray.size_append, mt_one]
   obtain ⟨y, hy⟩ := mt_l n (x / 10) ((strOfNums [d]) ++ o) yq9 yq9 yq9 (by rw [hz]; omega)
   refine ⟨y, Ev.step (fun k => by rw [za0.l0, e, hd, Option.bind_some]) (Ev.pos hx (Ev.pos (by rw [mt_one]; omega) hy))⟩
  exact ⟨_, Ev.step (fun k => by rw [za0.l0]) (Ev.neg hx (Ev.pos yq9 (Ev.now _)))⟩
theorem mt_ev (x : Int) (h1 : x ≤ 4611686018427387904) : ∃ y, Ev (fun k => za0.f k x) y := by
 by_cases h : x ≤ 0
 ·exact ⟨_, Ev.pos h (Ev.now _)⟩
 obtain ⟨y, hy⟩ := mt_l x.toNat x ⟨#[]⟩ (Nat.le_refl _) yq9 h1 (by show (0 : Int) + x ≤ _; omega)
 exact ⟨y, Ev.neg h hy⟩
noncomputable def mtV (x : Int) : ByteArray := if h : x ≤ 4611686018427387904 then (mt_ev x h).choose else ⟨#[]⟩
theorem mt_V (x : Int) (h : x ≤ 4611686018427387904) : Ev (fun k => za0.f k x) (mtV x) := by
 unfold mtV
 rw [dif_pos h]
 exact (mt_ev x h).choose_spec
noncomputable def upS : Nat → Int → List ByteArray
 | 0, _ => []
 | n + 1, x => mtV x :: upS n (x + 1)
theorem upS_len : ∀ (n : Nat) (x : Int), (upS n x).length = n
 | 0, _ => rfl
 | n + 1, x => by simp [upS, upS_len n]
theorem upS_get : ∀ (n : Nat) (x : Int) (i : Nat) (h : i < (upS n x).length), (upS n x)[i] = mtV (x + i)
 | 0, _, i, h => by simp [upS] at h
 | n + 1, x, 0, h => by simp [upS]
 | n + 1, x, i + 1, h => by
  simp only [upS, List.getElem_cons_succ]
  rw [upS_get n (x + 1) i]
  congr 1
  omega
theorem markS_ev : ∀ (j : Nat) (l : List ByteArray) (i : Nat) (x : Int), l.length - i = j → i ≤ l.length → l.length ≤ 1000000000 → 0 ≤ x → x + j ≤ 2000000000 → Ev (fun k => zaY.l0 k l x (i : Int)) (x + j, l.take i ++ upS j x)
 | 0, l, i, x, hj, hi, hl, hx, hx2 => by
  obtain rfl : i = l.length := by omega
  refine Ev.step (fun k => by rw [zaY.l0]) (Ev.neg yq9 (Ev.to (Ev.now _) ?_))
  simp [upS]
 | j + 1, l, i, x, hj, hi, hl, hx, hx2 => by
  have hlt : i < l.length := by omega
  refine Ev.step (fun k => by rw [zaY.l0, w_succ i yq9, w64 (x := x + 1) yq9 yq9, Int.toNat_natCast]) (Ev.pos yq9 (Ev.bind (mt_V x yq9) (Ev.pos (c := (0 : Int) ≤ (i : Int)) yq9 ?_)))
  refine Ev.to (markS_ev j (l.set i (mtV x)) (i + 1) (x + 1) (by rw [List.length_set]; omega) (by rw [List.length_set]; omega) (by rw [List.length_set]; omega) yq9 yq9) ?_
  have e1 : (l.set i (mtV x)).take (i + 1) = l.take i ++ [mtV x] := by
   rw [List.take_succ_eq_append_getElem (by rw [List.length_set]; exact hlt), List.getElem_set_self, List.take_set_of_le (Nat.le_refl _)]
  rw [e1, List.append_assoc, List.singleton_append]
  simp only [upS, Prod.mk.injEq, and_true]
  omega
theorem heldS_ev (l : List ByteArray) (n : Nat) (hl : l.length = n) (hn : n ≤ 1000000000) (hg : ∀ i, (h : i < l.length) → l[i] = mtV (1 + (i : Int))) : ∀ (j i : Nat), n - i = j → i ≤ n → Ev (fun k => za1.l0 k l (1 + (i : Int)) (i : Int)) (1 + (n : Int)) := by
 intro j
 induction j with
 | zero =>
  intro i hj hi
  obtain rfl : i = n := by omega
  exact Ev.step (fun k => by rw [za1.l0]) (Ev.neg yq9 (Ev.now _))
 | succ j ih =>
  intro i hj hi
  have hlt : i < l.length := by omega
  have hr : rdOf ByteArray.empty l (i : Int) = mtV (1 + (i : Int)) := by
   have e : rdOf ByteArray.empty l (i : Int) = l[i] := by simp [rdOf, hlt]
   rw [e, hg i hlt]
  refine Ev.step (fun k => by rw [za1.l0, hr, w_succ i yq9, w64 (x := 1 + (i : Int) + 1) yq9 yq9]) (Ev.pos yq9 (Ev.pos yq9 (Ev.bind (mt_V (1 + (i : Int)) yq9) (Ev.pos rfl ?_))))
  have := ih (i + 1) yq9 yq9
  rw [show (1 : Int) + ((i + 1 : Nat) : Int) = 1 + (i : Int) + 1 by omega] at this
  exact this
theorem marksS_ev (l : List ByteArray) (hl : l.length ≤ 1000000000) : ∃ y : List ByteArray, Ev (fun k => zaY.f k l 1) (1 + (l.length : Int), y) ∧ y.length = l.length ∧ Ev (fun k => za1.f k y 1) (1 + (l.length : Int)) := by
 refine ⟨upS l.length 1, ?_, upS_len _ _, ?_⟩
 ·have := markS_ev l.length l 0 1 yq9 yq9 hl yq9 yq9
  rw [List.take_zero, List.nil_append] at this
  exact this
 exact heldS_ev (upS l.length 1) l.length (upS_len _ _) hl (fun i h => upS_get _ _ i h) _ 0 rfl yq9
end Go.Proofs.YtfafjbolmeimmaaGreatDoor.P
namespace Go.Proofs.YtfafjbolmeimmaaGreatDoor.P
open Go.RowKit Go.Proofs.YtfafjbolmeimmaaGreatDoorW.PrintWords Go.Proofs.YtfafjbolmeimmaaGreatDoorW.PrintLast Go.Proofs.YtfafjbolmeimmaaGreatDoorW.PrintMore
set_option linter.unusedVariables false
set_option linter.unusedSimpArgs false
inductive Shp : Value → Value → Prop
 | refl (u : Value) : Shp u u
 | str (s t : ByteArray) : Shp (.string s) (.string t)
 | int (x y : Int) : Shp (.int .i64 x) (.int .i64 y)
def okR (W : World) (lo hi : Nat) (k : Nat) : Prop := lo ≤ k ∧ k < hi ∧ ∃ cells q, W.heap[k]? = some (.cells cells q (0, 0))
structure Sm (W : World) (lo hi : Nat) (w : World) : Prop where
 os : w.os = W.os
 tape : w.tape = W.tape
 output : w.output = W.output
 top : hi ≤ W.heap.size
 size : W.heap.size ≤ w.heap.size
 out : ∀ k, k < W.heap.size → ¬ (lo ≤ k ∧ k < hi) → w.heap[k]? = W.heap[k]?
 reg : ∀ (k : Nat) (cells : Array Value) (q : TypeId), lo ≤ k → k < hi → W.heap[k]? = some (.cells cells q (0, 0)) → ∃ cells' : Array Value, w.heap[k]? = some (.cells cells' q (0, 0)) ∧ ∀ (i : Nat) (u : Value), cells[i]? = some u → ∃ u' : Value, cells'[i]? = some u' ∧ Shp u u'
variable {W : World} {lo hi : Nat} {w w' : World}
theorem Sm.refl {W : World} {lo hi : Nat} (h : hi ≤ W.heap.size) : Sm W lo hi W := ⟨rfl, rfl, rfl, h, Nat.le_refl _, fun _ _ _ => rfl, fun k cells q _ _ hc => ⟨cells, hc, fun i u hu => ⟨u, hu, .refl u⟩⟩⟩
theorem Sm.below (h : Sm W lo hi w) (hb : Below w.heap.size w w') : Sm W lo hi w' :=
 ⟨hb.os.trans h.os, hb.tape.trans h.tape, hb.output.trans h.output, h.top, Nat.le_trans h.size hb.size, fun k hk hn => (hb.block k (Nat.lt_of_lt_of_le hk h.size)).trans (h.out k hk hn), fun k cells q h1 h2 hc => by
  rw [hb.block k (Nat.lt_of_lt_of_le (Nat.lt_of_lt_of_le h2 h.top) h.size)]
  exact h.reg k cells q h1 h2 hc⟩
theorem cell_spot {W : World} {a : Addr} {u : Value} (h : W.cell? a = some u) : ∃ cells q fz, W.heap[a.block]? = some (.cells cells q fz) ∧ cells[a.off]? = some u ∧ a = ⟨a.block, a.off, none⟩ := by
 unfold World.cell? at h
 split at h
 ·rename_i c q fz hc
  obtain ⟨b, o, s⟩ := a
  cases s with
  | some s => simp at h
  | none => exact ⟨c, q, fz, hc, by simpa using h, rfl⟩
 cases h
theorem Sm.rd (h : Sm W lo hi w) {a : Addr} {u : Value} (hc : W.cell? a = some u) (hk : okR W lo hi a.block) : ∃ u', w.cell? a = some u' ∧ Shp u u' := by
 obtain ⟨cells, q, fz, h1, h2, h3⟩ := cell_spot hc
 obtain ⟨l1, l2, cs, q2, h4⟩ := hk
 rw [h1] at h4
 injection h4 with h4
 injection h4 with e1 e2 e3
 subst e1; subst e2; subst e3
 obtain ⟨cells', h5, h6⟩ := h.reg _ _ _ l1 l2 h1
 obtain ⟨u', h7, h8⟩ := h6 _ _ h2
 refine ⟨u', ?_, h8⟩
 rw [h3]
 unfold World.cell?
 simp only [h5]
 simpa using h7
theorem Sm.fz (h : Sm W lo hi w) {a : Addr} (hk : okR W lo hi a.block) : w.frozen? a = false := by
 obtain ⟨l1, l2, cs, q2, h4⟩ := hk
 obtain ⟨cells', h5, _⟩ := h.reg _ _ _ l1 l2 h4
 unfold World.frozen?
 simp only [h5]
 simp
theorem Sm.set (h : Sm W lo hi w) {a : Addr} {u u2 : Value} (hc : W.cell? a = some u) (hk : okR W lo hi a.block) (hs : Shp u u2) : Sm W lo hi (w.setCell a u2) := by
 obtain ⟨cells, q, fz, h1, h2, h3⟩ := cell_spot hc
 refine ⟨h.os, h.tape, h.output, h.top, by show _ ≤ (w.setCell a u2).heap.size; simp [World.setCell]; exact h.size, fun k hk1 hn => (Below.heap_setCell w a u2 k (fun e => hn (by rw [e]; exact ⟨hk.1, hk.2.1⟩))).trans (h.out k hk1 hn), fun k cs q2 g1 g2 hcs => ?_⟩
 obtain ⟨cells', h5, h6⟩ := h.reg _ _ _ g1 g2 hcs
 by_cases hka : k = a.block
 ·subst hka
  rw [h3]
  rw [h1] at hcs
  injection hcs with hcs
  injection hcs with e1 e2 e3
  subst e1; subst e2; subst e3
  refine ⟨cells'.setIfInBounds a.off u2, zbb h5 a.off u2 rfl, fun i v hv => ?_⟩
  obtain ⟨v', h7, h8⟩ := h6 i v hv
  by_cases hi : i = a.off
  ·subst hi
   rw [h2] at hv
   cases hv
   refine ⟨u2, ?_, hs⟩
   have := (Array.getElem?_eq_some_iff.1 h7).1
   rw [Array.getElem?_setIfInBounds_self_of_lt this]
  exact ⟨v', by rw [Array.getElem?_setIfInBounds_ne (fun e => hi e.symm)]; exact h7, h8⟩
 exact ⟨cells', by rw [Below.heap_setCell w a u2 k hka]; exact h5, h6⟩
theorem Sm.str (h : Sm W lo hi w) {a : Addr} {s : ByteArray} (hc : W.cell? a = some (.string s)) (hk : okR W lo hi a.block) : ∃ t, w.cell? a = some (.string t) := by
 obtain ⟨u, h1, h2⟩ := h.rd hc hk
 cases h2 <;> exact ⟨_, h1⟩
theorem Sm.int (h : Sm W lo hi w) {a : Addr} {s : Int} (hc : W.cell? a = some (.int .i64 s)) (hk : okR W lo hi a.block) : ∃ t, w.cell? a = some (.int .i64 t) := by
 obtain ⟨u, h1, h2⟩ := h.rd hc hk
 cases h2 <;> exact ⟨_, h1⟩
theorem Sm.sl (h : Sm W lo hi w) {a : Addr} {A : Option Addr} {n c : Nat} (hc : W.cell? a = some (.slice A n c)) (hk : okR W lo hi a.block) : w.cell? a = some (.slice A n c) := by
 obtain ⟨u, h1, h2⟩ := h.rd hc hk
 cases h2
 exact h1
theorem mtx_calls (x : Int) (w : World) (h : x ≤ 4611686018427387904) : Calls Tryz.prog 64 #[.int .i64 x] w fun e w' => e = .returned (.string (mtV x)) ∧ Below w.heap.size w w' := by
 obtain ⟨k, hk⟩ := ev_some (mt_V x h)
 exact za0.calls k x _ w hk
end Go.Proofs.YtfafjbolmeimmaaGreatDoor.P
namespace Go.Proofs.YtfafjbolmeimmaaGreatDoor.P
open Go.RowKit Go.Proofs.YtfafjbolmeimmaaGreatDoorW.PrintWords Go.Proofs.YtfafjbolmeimmaaGreatDoorW.PrintLast Go.Proofs.YtfafjbolmeimmaaGreatDoorW.PrintMore
set_option linter.unusedVariables false
set_option linter.unusedSimpArgs false
def Rg (W : World) (lo hi : Nat) (A : Option Addr) : Prop := ∀ ad, A = some ad → okR W lo hi ad.block
theorem add_blk (ad : Addr) (n : Nat) : (ad.add n).block = ad.block := by unfold Addr.add; split <;> rfl
theorem Rg.at {W : World} {lo hi : Nat} {ad : Addr} (h : Rg W lo hi (some ad)) (n : Nat) : okR W lo hi (ad.add n).block := by rw [add_blk]; exact h _ rfl
set_option maxHeartbeats 4000000 in
set_option maxRecDepth 100000 in
theorem mkI_calls (A : Option Addr) (n c : Nat) (xs : List Int) (k : Int) (W w : World) (lo hi : Nat) (hS : Sm W lo hi w) (hC : Kd.C (Kd.int .i64) W A n xs) (hg : Rg W lo hi A) (hn : n ≤ 1073741824) (hk : 0 ≤ k ∧ k ≤ 1152921504606846976) :
  Calls Tryz.prog 65 #[.slice A n c, .int .i64 k] w fun e w' => e = .returned (.int .i64 (k + n)) ∧ Sm W lo hi w' := by
 have HS := zaa.mk hS; have HC := zaa.mk hC; have HG := zaa.mk hg; have HN := zaa.mk hn; have HK := zaa.mk hk; clear hS hC hg hn hk
 go_enter Tryz.func65, Tryz.ntmps65
 go_wp2_with (fail)
 go_loopg [1, 5] (n + 1) (fun gk v1 v5 wr => ∃ (x y : Int) (i : Nat), v1 = .int .i64 y ∧ v5 = .int .i64 x ∧ zaa (x = (i : Int) ∧ y = k + i ∧ i ≤ n ∧ n + 1 ≤ gk + i) ∧ zaa (Sm W lo hi wr))
 case atStart => exact ⟨0, k, 0, rfl, rfl, ⟨rfl, yq9, Nat.zero_le _, Nat.le_refl _⟩, HS⟩
 case round =>
  clear HS
  obtain ⟨x, y, i, rfl, rfl, HX, HS⟩ := hrel
  cases gk with
  | zero => exact absurd HX.out.2.2.2 (yq15 HX.out)
  | succ k1 =>
   by_cases hlt : i < n
   case neg =>
    have g1 : decide (x < (n : Int)) = false := decide_eq_false (yq15 HX.out)
    have HV : zaa (y = k + n) := ⟨yq15 HX.out⟩
    clear hlt
    go_wp2
    go_ret
    exact ⟨by rw [HV.out]; rfl, HS.out⟩
   have g1 : decide (x < (n : Int)) = true := decide_eq_true (yq15 HX.out)
   have g2 : (0 ≤ x) = True := eq_true (yq15 HX.out)
   have g3 : (x < (n : Int)) = True := eq_true (yq15 HX.out)
   obtain ⟨ad, ea, q0⟩ := Kd.at_int HC.out x (yq15 HX.out) (yq15 HX.out)
   cases ea
   have HO := zaa.mk (HG.out.at x.toNat)
   have HQ := zaa.mk q0
   obtain ⟨t, q1⟩ := HS.out.int q0 HO.out
   have q2 := HS.out.fz HO.out
   have HSN : zaa (Sm W lo hi (wr.setCell (ad.add x.toNat) (.int .i64 y))) := ⟨HS.out.set q0 HO.out (.int _ _)⟩
   have HLt := zaa.mk hlt; clear hlt q0
   go_wp2
   go_roundg k1
   case measure => have := HX.out; have := HLt.out; omega
   case rel => exact ⟨_, _, i + 1, rfl, rfl, ⟨by have := HX.out; have := HLt.out; have := HN.out; rw [w64 yq9 yq9]; omega, by have := HX.out; have := HLt.out; have := HN.out; have := HK.out; rw [w64 yq9 yq9]; omega, HLt.out, yq15 HX.out⟩, HSN⟩
set_option maxHeartbeats 4000000 in
set_option maxRecDepth 100000 in
theorem mkS_calls (A : Option Addr) (n c : Nat) (xs : List ByteArray) (k : Int) (W w : World) (lo hi : Nat) (hS : Sm W lo hi w) (hC : Kd.C Kd.string W A n xs) (hg : Rg W lo hi A) (hn : n ≤ 1073741824) (hk : 0 ≤ k ∧ k ≤ 1152921504606846976) :
  Calls Tryz.prog 28 #[.slice A n c, .int .i64 k] w fun e w' => e = .returned (.int .i64 (k + n)) ∧ Sm W lo hi w' := by
 have HS := zaa.mk hS; have HC := zaa.mk hC; have HG := zaa.mk hg; have HN := zaa.mk hn; have HK := zaa.mk hk; clear hS hC hg hn hk
 go_enter Tryz.func28, Tryz.ntmps28
 go_wp2_with (fail)
 go_loopg [1, 5] (n + 1) (fun gk v1 v5 wr => ∃ (x y : Int) (i : Nat), v1 = .int .i64 y ∧ v5 = .int .i64 x ∧ zaa (x = (i : Int) ∧ y = k + i ∧ i ≤ n ∧ n + 1 ≤ gk + i) ∧ zaa (Sm W lo hi wr))
 case atStart => exact ⟨0, k, 0, rfl, rfl, ⟨rfl, yq9, Nat.zero_le _, Nat.le_refl _⟩, HS⟩
 case round =>
  clear HS
  obtain ⟨x, y, i, rfl, rfl, HX, HS⟩ := hrel
  cases gk with
  | zero => exact absurd HX.out.2.2.2 (yq15 HX.out)
  | succ k1 =>
   by_cases hlt : i < n
   case neg =>
    have g1 : decide (x < (n : Int)) = false := decide_eq_false (yq15 HX.out)
    have HV : zaa (y = k + n) := ⟨yq15 HX.out⟩
    clear hlt
    go_wp2
    go_ret
    exact ⟨by rw [HV.out]; rfl, HS.out⟩
   have g1 : decide (x < (n : Int)) = true := decide_eq_true (yq15 HX.out)
   have g2 : (0 ≤ x) = True := eq_true (yq15 HX.out)
   have g3 : (x < (n : Int)) = True := eq_true (yq15 HX.out)
   obtain ⟨ad, ea, q0⟩ := Kd.at_string HC.out x (yq15 HX.out) (yq15 HX.out)
   cases ea
   have HO := zaa.mk (HG.out.at x.toNat)
   have HQ := zaa.mk q0; have HLt := zaa.mk hlt
   have HY : zaa (y ≤ 4611686018427387904) := ⟨yq33 HX.out HK.out HN.out⟩
   clear hlt q0
   go_wp2_with (first | ((with_reducible refine (mtx_calls y _ HY.out).mono ?_); rintro e w1 ⟨rfl, hb⟩; have n0_ := zaa.mk (HS.out.below hb); clear HS; have HS := n0_; clear n0_ hb; obtain ⟨t, q1⟩ := HS.out.str HQ.out HO.out; have q2 := HS.out.fz HO.out; have HSN : zaa (Sm W lo hi (w1.setCell (ad.add x.toNat) (.string (mtV y)))) := ⟨HS.out.set HQ.out HO.out (.str _ _)⟩) | fail)
   go_roundg k1
   case measure => have := HX.out; have := HLt.out; omega
   case rel => exact ⟨_, _, i + 1, rfl, rfl, ⟨by have := HX.out; have := HLt.out; have := HN.out; rw [w64 yq9 yq9]; omega, by have := HX.out; have := HLt.out; have := HN.out; have := HK.out; rw [w64 yq9 yq9]; omega, HLt.out, yq15 HX.out⟩, HSN⟩
end Go.Proofs.YtfafjbolmeimmaaGreatDoor.P
namespace Go.Proofs.YtfafjbolmeimmaaGreatDoor.P
open Go.ChangeShapes Go.WideShapes Go.ChangeAt Go.RowKit Go.Deep Go.Proofs.YtfafjbolmeimmaaGreatDoorW.PrintWords
set_option linter.unusedVariables false
section
variable {H : Type} {enc : TypeId × Value → H} {w : World} {base : Nat} {spare : Nat → Bool} {held : Bool}
theorem open_cells {P : Program} {t : TypeId} {fs : Array Field} {fuel : Nat} {cs : List Value} {y : DataW H × List MemPlace} (hs : P.underlying t = some (.struct fs)) (hone : oneCellFields P fs = true) (hC : P.cellsOf t = fs.size)
  (h : DataW.trod enc P w base spare held fuel t cs = some y) : ∃ n, cs.length = fs.size ∧ ∀ (j : Nat) (f : Field), fs[j]? = some f → ∃ c y, cs[j]? = some c ∧ DataW.trod enc P w base spare held n f.type [c] = some y := by
 obtain ⟨xs, n, _, hx, hcl, hlen, hg⟩ := DataW.trod_struct hs h
 have hl := hcl.trans hC
 refine ⟨n, hl, fun j f hj => ?_⟩
 obtain ⟨o, k⟩ := hone_of hone j f hj
 have hjl : j < fs.size := (Array.getElem?_eq_some_iff.1 hj).1
 have h1 := hg j f hj
 rw [o, k] at h1
 have hjc : j < cs.length := by omega
 have e1 : (cs.drop j).take 1 = [cs[j]] := by
  rw [List.drop_eq_getElem_cons hjc]
  rfl
 rw [e1] at h1
 have hxl : j < xs.length := by omega
 exact ⟨cs[j], xs[j], List.getElem?_eq_getElem hjc, h1.trans (List.getElem?_eq_getElem hxl)⟩
set_option maxRecDepth 100000 in
theorem open_loc {fuel : Nat} {cs : List Value} {y : DataW H × List MemPlace} (h : DataW.trod enc Tryz.prog w base spare held fuel 26 cs = some y) : ∃ x : S26, bigL x ∧ cs.length = 15 ∧ k26.K w x cs := by
 obtain ⟨n, hsz, hf⟩ := open_cells Tryz.underlying26 yq10 yq10 h
 obtain ⟨c0, y0, e0, h0⟩ := hf 0 _ rfl
 obtain ⟨c1, y1, e1, h1⟩ := hf 1 _ rfl
 obtain ⟨c2, y2, e2, h2⟩ := hf 2 _ rfl
 obtain ⟨c3, y3, e3, h3⟩ := hf 3 _ rfl
 obtain ⟨c4, y4, e4, h4⟩ := hf 4 _ rfl
 obtain ⟨c5, y5, e5, h5⟩ := hf 5 _ rfl
 obtain ⟨c6, y6, e6, h6⟩ := hf 6 _ rfl
 obtain ⟨c7, y7, e7, h7⟩ := hf 7 _ rfl
 obtain ⟨c8, y8, e8, h8⟩ := hf 8 _ rfl
 obtain ⟨c9, y9, e9, h9⟩ := hf 9 _ rfl
 obtain ⟨c10, y10, e10, h10⟩ := hf 10 _ rfl
 obtain ⟨c11, y11, e11, h11⟩ := hf 11 _ rfl
 obtain ⟨c12, y12, e12, h12⟩ := hf 12 _ rfl
 obtain ⟨c13, y13, e13, h13⟩ := hf 13 _ rfl
 obtain ⟨c14, y14, e14, h14⟩ := hf 14 _ rfl
 obtain ⟨a0, x0, _, b0⟩ := DataW.trod_string Tryz.underlying9 h0
 simp only [List.cons.injEq, and_true] at x0
 subst x0
 obtain ⟨a1, x1, _, b1⟩ := DataW.trod_string Tryz.underlying9 h1
 simp only [List.cons.injEq, and_true] at x1
 subst x1
 obtain ⟨a2, x2, _, b2⟩ := DataW.trod_string Tryz.underlying9 h2
 simp only [List.cons.injEq, and_true] at x2
 subst x2
 obtain ⟨a3, x3, _, b3⟩ := DataW.trod_string Tryz.underlying9 h3
 simp only [List.cons.injEq, and_true] at x3
 subst x3
 obtain ⟨a4, x4, _, b4⟩ := DataW.trod_string Tryz.underlying9 h4
 simp only [List.cons.injEq, and_true] at x4
 subst x4
 obtain ⟨a8, x8, _, b8⟩ := DataW.trod_string Tryz.underlying9 h8
 simp only [List.cons.injEq, and_true] at x8
 subst x8
 obtain ⟨a9, x9, _, b9⟩ := DataW.trod_string Tryz.underlying9 h9
 simp only [List.cons.injEq, and_true] at x9
 subst x9
 obtain ⟨a10, x10, _, b10⟩ := DataW.trod_string Tryz.underlying9 h10
 simp only [List.cons.injEq, and_true] at x10
 subst x10
 obtain ⟨a11, x11, _, b11⟩ := DataW.trod_string Tryz.underlying9 h11
 simp only [List.cons.injEq, and_true] at x11
 subst x11
 obtain ⟨a14, x14, _, b14⟩ := DataW.trod_string Tryz.underlying9 h14
 simp only [List.cons.injEq, and_true] at x14
 subst x14
 obtain ⟨a6, x6, _, _⟩ := DataW.trod_int Tryz.underlying2 h6
 simp only [List.cons.injEq, and_true] at x6
 subst x6
 obtain ⟨A5, k5, l5, rfl, C5, K5, L5, _⟩ := open_nums Tryz.underlying22 Tryz.underlying2 yq10 h5
 obtain ⟨A7, k7, l7, rfl, C7, K7, L7, M7⟩ := open_pls Tryz.underlying23 Tryz.underlying79 yq10 rfl rfl yq10 yq10 Tryz.underlying9 Tryz.underlying9 h7
 obtain ⟨A12, k12, l12, rfl, C12, K12, L12, M12⟩ := open_texts Tryz.underlying24 Tryz.underlying9 yq10 h12
 obtain ⟨A13, k13, l13, rfl, C13, K13, L13, M13⟩ := open_texts Tryz.underlying24 Tryz.underlying9 yq10 h13
 have ecs : cs = [.string a0, .string a1, .string a2, .string a3, .string a4, .slice A5 l5.length k5, .int .i64 a6, .slice A7 l7.length k7, .string a8, .string a9, .string a10, .string a11, .slice A12 l12.length k12, .slice A13 l13.length k13, .string a14] := by
  apply List.ext_getElem?
  intro j
  have hsz' : cs.length = 15 := hsz
  match j with
  | 0 => exact e0
  | 1 => exact e1
  | 2 => exact e2
  | 3 => exact e3
  | 4 => exact e4
  | 5 => exact e5
  | 6 => exact e6
  | 7 => exact e7
  | 8 => exact e8
  | 9 => exact e9
  | 10 => exact e10
  | 11 => exact e11
  | 12 => exact e12
  | 13 => exact e13
  | 14 => exact e14
  | j + 15 => rw [List.getElem?_eq_none yq9, List.getElem?_eq_none yq21]
 subst ecs
 unfold maxLen at b0 b1 b2 b3 b4 b8 b9 b10 b11 b14
 refine ⟨⟨a0, a1, a2, a3, a4, l5, a6, l7, a8, a9, a10, a11, l12, l13, a14⟩, ⟨b0, b1, b2, b3, b4, b8, b9, b10, b11, b14, L5, L7, M7, L12, M12, L13, M13⟩, rfl, ?_⟩
 exact ⟨[_], _, rfl, rfl, ⟨[_], _, rfl, rfl, ⟨[_], _, rfl, rfl, ⟨[_], _, rfl, rfl, ⟨[_], _, rfl, rfl, ⟨[_], _, rfl, ⟨_, _, rfl, K5, C5⟩, ⟨[_], _, rfl, rfl, ⟨[_], _, rfl, ⟨_, _, rfl, K7, C7⟩, ⟨[_], _, rfl, rfl, ⟨[_], _, rfl, rfl, ⟨[_], _, rfl, rfl, ⟨[_], _, rfl, rfl, ⟨[_], _, rfl, ⟨_, _, rfl, K12, C12⟩, ⟨[_], _, rfl, ⟨_, _, rfl, K13, C13⟩, rfl⟩⟩⟩⟩⟩⟩⟩⟩⟩⟩⟩⟩⟩⟩
set_option maxRecDepth 100000 in
theorem open_locs {r : Reach} {b0 : Nat} {v : Value} {d : DataW H} {p : List MemPlace} (hval : Value.okWide Tryz.prog w r b0 35 v) (h : DataW.Trod enc Tryz.prog w base spare held 35 v d p) :
  ∃ A cap l, v = .slice A l.length cap ∧ Kd.C k26 w A l.length l ∧ l.length ≤ cap ∧ l.length ≤ 9223372036854775807 ∧ ∀ x ∈ l, bigL x := by
 obtain ⟨a1, len1, cap1, rfl⟩ := okWide_slice Tryz.underlying35 hval
 obtain ⟨fuel, hm⟩ := h
 have h : DataW.trod enc Tryz.prog w base spare held fuel 35 [.slice a1 len1 cap1] = some (d, p) := hm
 rcases Deep.open_slice Tryz.underlying35 h with ⟨hcs, _⟩ | ⟨a, len, cap, m, n, D, Pl, hcs, _, hl, hm, hmm, _, hall⟩
 ·simp only [List.cons.injEq, and_true] at hcs
  exact ⟨none, 0, [], hcs, Kd.C_nil _ _, Nat.le_refl _, yq21, yq21⟩
 simp only [List.cons.injEq, and_true] at hcs
 have hlm : len ≤ m := by rw [hmm]; split <;> omega
 haveI : Inhabited S26 := ⟨z26⟩
 have e15 : Tryz.prog.cellsOf 26 = 15 := by kernel_rfl
 obtain ⟨q, hq⟩ := Deep.choose_lt (α := S26) (p := fun i x => bigL x ∧ ∃ cs, cs.length = 15 ∧ k26.K w x cs ∧ ∀ (j : Nat) (u : Value), cs[j]? = some u → w.cell? (a.add (i * 15 + j)) = some u) (n := m) (fun i hi => by
  obtain ⟨cs, h1, h2⟩ := hall i hi
  rw [e15] at h1
  obtain ⟨_, hlen, hcell⟩ := World.cells?_some h1
  obtain ⟨x, hb, hc, hk⟩ := open_loc h2
  refine ⟨x, hb, cs, hc, hk, fun j u hu => ?_⟩
  have hj : j < 15 := by
   have := (List.getElem?_eq_some_iff.1 hu).1
   omega
  rw [← Deep.add_add, hcell j hj, hu])
 have el : ((List.range len).map q).length = len := by simp
 refine ⟨some a, cap, (List.range len).map q, by rw [el]; exact hcs, ?_, yq9, by unfold maxLen at hm; omega, ?_⟩
 ·refine ⟨rfl, by unfold maxLen at hm; omega, fun _ => ⟨a, rfl, fun j p hp => ?_⟩⟩
  have hj : j < len := by
   have := (List.getElem?_eq_some_iff.1 hp).1
   omega
  have ep : p = q j := by
   rw [List.getElem?_map, List.getElem?_range hj] at hp
   exact (Option.some.inj hp).symm
  subst ep
  obtain ⟨_, cs, hc, hk, hcell⟩ := hq j yq9
  exact ⟨cs, hc, hk, hcell⟩
 intro x hx
 obtain ⟨i, hi, rfl⟩ := List.mem_map.1 hx
 exact (hq i (by have := List.mem_range.1 hi; omega)).1
end
end Go.Proofs.YtfafjbolmeimmaaGreatDoor.P
