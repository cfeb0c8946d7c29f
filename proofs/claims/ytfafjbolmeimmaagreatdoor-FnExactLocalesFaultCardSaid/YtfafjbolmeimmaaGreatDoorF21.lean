/- Parts of a proof: words of the print tool that this claim uses, or plain lists. -/
import Derived.Test.YtfafjbolmeimmaaGreatDoorF17
import Derived.Test.YtfafjbolmeimmaaGreatDoorXLsS
import Derived.Test.YtfafjbolmeimmaaGreatDoorXLsI
import Derived.Test.YtfafjbolmeimmaaGreatDoorJ28
import Derived.Test.YtfafjbolmeimmaaGreatDoorXRw
namespace Go.Proofs.YtfafjbolmeimmaaGreatDoor.P
open Go.RowKit Go.Proofs.YtfafjbolmeimmaaGreatDoorW.PrintWords
set_option linter.unusedVariables false
def locOf (x : S26) : S31 := ⟨x.f0, x.f1, x.f2, x.f3, x.f4, x.f5, x.f6, x.f7.map plOf, x.f8, x.f9, x.f10, x.f11, x.f12, x.f13, x.f14⟩
structure bigL (x : S26) : Prop where
 b0 : bigT x.f0
 b1 : bigT x.f1
 b2 : bigT x.f2
 b3 : bigT x.f3
 b4 : bigT x.f4
 b8 : bigT x.f8
 b9 : bigT x.f9
 b10 : bigT x.f10
 b11 : bigT x.f11
 b14 : bigT x.f14
 b5 : x.f5.length ≤ 9223372036854775807
 b7 : x.f7.length ≤ 9223372036854775807
 c7 : ∀ y ∈ x.f7, bigT y.f0 ∧ bigT y.f1
 b12 : x.f12.length ≤ 9223372036854775807
 c12 : ∀ s ∈ x.f12, s.size ≤ 9223372036854775807
 b13 : x.f13.length ≤ 9223372036854775807
 c13 : ∀ s ∈ x.f13, s.size ≤ 9223372036854775807
def smL (x : S31) : Prop := smallLoc x.f0 x.f1 x.f2 x.f3 x.f4 x.f5 x.f7 x.f8 x.f9 x.f10 x.f11 x.f12 x.f13 x.f14 = true
theorem szL1 (x : S26) (h : bigL x) (y : Int) (y0 : 0 ≤ y) (y1 : y ≤ 1048576) : ∃ r, Ev (fun k => laws_szLocale.f k x.f0 x.f1 x.f2 x.f3 x.f4 x.f5 x.f6 x.f7 x.f8 x.f9 x.f10 x.f11 x.f12 x.f13 x.f14 y) r ∧ (r ≤ y ∧ (0 ≤ r → smL (locOf x))) :=
 szLoc_g x.f0 x.f1 x.f2 x.f3 x.f4 x.f5 x.f6 x.f7 x.f8 x.f9 x.f10 x.f11 x.f12 x.f13 x.f14 h.b0 h.b1 h.b2 h.b3 h.b4 h.b8 h.b9 h.b10 h.b11 h.b14 h.b5 h.b7 h.c7 h.b12 h.c12 h.b13 h.c13 y y0 y1
theorem szLs_l (l : List S26) (hl : l.length ≤ 9223372036854775807) (hs : ∀ x ∈ l, bigL x) : ∀ (d i : Nat), l.length - i = d → i ≤ l.length → ∀ a : Int, 0 ≤ a → a ≤ 1048576 →
  ∃ r, Ev (fun k => zaW.l0 k l a (i : Int)) r ∧ r ≤ a ∧ (0 ≤ r → ∀ x ∈ l.drop i, smL (locOf x)) := by
 intro d
 induction d with
 | zero =>
  intro i hd hi a h0 h1
  refine ⟨a, Ev.step (fun k => by rw [zaW.l0]) (Ev.neg (by omega) (Ev.now _)), Int.le_refl _, fun _ s hm => ?_⟩
  rw [List.drop_eq_nil_of_le (by omega)] at hm
  cases hm
 | succ d ih =>
  intro i hd hi a h0 h1
  have hlt : i < l.length := by omega
  have hz := hs l[i] (List.getElem_mem hlt)
  have e3 : zaA l (i : Int) = l[i] := by simp [zaA, hlt]
  have e2 : wrap64 ((i : Int) + 1) = ((i + 1 : Nat) : Int) := by rw [w64 (by omega) (by omega)]; omega
  obtain ⟨r1, hr1, hle, hsm⟩ := szL1 l[i] hz a h0 h1
  by_cases hn : r1 < 0
  ·refine ⟨-1, Ev.step (fun k => by rw [zaW.l0]) (Ev.pos (by omega) (Ev.pos (by omega) ?_)), by omega, fun h => by omega⟩
   rw [e3]
   exact Ev.bind hr1 (Ev.pos hn (Ev.now _))
  obtain ⟨r, hr, hra, hrs⟩ := ih (i + 1) (by omega) (by omega) r1 (by omega) (by omega)
  refine ⟨r, Ev.step (fun k => by rw [zaW.l0]) (Ev.pos (by omega) (Ev.pos (by omega) ?_)), by omega, fun h s hm => ?_⟩
  ·rw [e3, e2]
   exact Ev.bind hr1 (Ev.neg hn hr)
  rw [List.drop_eq_getElem_cons hlt] at hm
  rcases List.mem_cons.1 hm with rfl | h2
  ·exact hsm (by omega)
  exact hrs h s h2
theorem szLs_f (l : List S26) (hl : l.length ≤ 9223372036854775807) (hs : ∀ x ∈ l, bigL x) :
  ∃ r, Ev (fun k => zaW.f k l 1048576) r ∧ (0 ≤ r → l.length ≤ 1048576 ∧ ∀ x ∈ l, smL (locOf x)) := by
 have e3 : wrap64 (1048576 - (l.length : Int)) = 1048576 - (l.length : Int) := w64 (by omega) (by omega)
 by_cases hn : 1048576 - (l.length : Int) < 0
 ·refine ⟨-1, ?_, fun h => by omega⟩
  unfold zaW.f
  rw [e3]
  exact Ev.pos hn (Ev.now _)
 obtain ⟨r, hr, hra, hrs⟩ := szLs_l l hl hs _ 0 rfl (by omega) (1048576 - (l.length : Int)) (by omega) (by omega)
 refine ⟨r, ?_, fun h => ⟨by omega, fun s hm => hrs h s (by simpa using hm)⟩⟩
 unfold zaW.f
 rw [e3]
 exact Ev.neg hn hr
theorem toLs_l (l : List S26) (hl : l.length ≤ 1048576) (hs : ∀ x ∈ l, smL (locOf x)) : ∀ (d i : Nat), l.length - i = d → i ≤ l.length →
  Ev (fun k => zaB.l0 k l ((l.map locOf).take i ++ List.replicate (l.length - i) z31) (i : Int)) (l.map locOf) := by
 intro d
 induction d with
 | zero =>
  intro i hd hi
  obtain rfl : i = l.length := by omega
  refine Ev.step (fun k => by rw [zaB.l0]) (Ev.neg (by omega) ((Ev.now _).to ?_))
  rw [Nat.sub_self, List.replicate_zero, List.append_nil]
  exact List.take_of_length_le (by simp)
 | succ d ih =>
  intro i hd hi
  have hlt : i < l.length := by omega
  have e2 := w_succ i (by omega)
  have e3 : zaA l (i : Int) = l[i] := by simp [zaA, hlt]
  obtain ⟨-, t5, t7, -, t12, -, t13, -⟩ := small_parts' (hs l[i] (List.getElem_mem hlt))
  have t7' : l[i].f7.length ≤ 1073741824 := by simpa [locOf] using t7
  refine Ev.step (fun k => by rw [zaB.l0]) ?_
  rw [e3, e2, Int.toNat_natCast]
  refine Ev.pos (by omega) (Ev.pos (by omega) (Ev.bind (toLoc_f l[i].f0 l[i].f1 l[i].f2 l[i].f3 l[i].f4 l[i].f5 l[i].f6 l[i].f7 l[i].f8 l[i].f9 l[i].f10 l[i].f11 l[i].f12 l[i].f13 l[i].f14 (Nat.le_trans t5 (by omega)) (by omega) (Nat.le_trans t12 (by omega)) (Nat.le_trans t13 (by omega))) (Ev.pos (by simp; omega) ?_)))
  have hc := copy_map locOf l z31 i hlt
  show Ev (fun k => zaB.l0 k l (List.set _ i (locOf l[i])) _) _
  rw [hc]
  exact ih (i + 1) (by omega) (by omega)
theorem toLs_f (l : List S26) (hl : l.length ≤ 1048576) (hs : ∀ x ∈ l, smL (locOf x)) : Ev (fun k => zaB.f k l) (l.map locOf) := by
 have h := toLs_l l hl hs _ 0 rfl (by omega)
 refine Ev.pos (by omega) (Ev.pos (by omega) ?_)
 rw [Int.toNat_natCast]
 simpa using h
theorem eqLs_l (l : List S31) (hl : l.length ≤ 1048576) (hs : ∀ x ∈ l, smL x) : ∀ (d i : Nat), l.length - i = d → i ≤ l.length → Ev (fun k => zaE.l0 k l l (i : Int)) true := by
 intro d
 induction d with
 | zero =>
  intro i hd hi
  refine Ev.step (fun k => by rw [zaE.l0]) ?_
  exact Ev.neg (by omega) (Ev.now _)
 | succ d ih =>
  intro i hd hi
  have hlt : i < l.length := by omega
  have e2 := w_succ i (by omega)
  have e3 : zao l (i : Int) = l[i] := by simp [zao, hlt]
  obtain ⟨-, t5, t7, -, t12, -, t13, -⟩ := small_parts' (hs l[i] (List.getElem_mem hlt))
  refine Ev.step (fun k => by rw [zaE.l0]) ?_
  rw [e3, e2]
  exact Ev.pos (by omega) (Ev.pos (by omega) (Ev.pos (by omega) (Ev.bind (Ev.done (if_pos ⟨⟨rfl, rfl, rfl, rfl, rfl, rfl, rfl, rfl, rfl, rfl, rfl, rfl, rfl, rfl, rfl⟩, t5, t7, t12, t13⟩)) (Ev.pos rfl (ih (i + 1) (by omega) (by omega))))))
theorem eqLs_f (l : List S31) (hl : l.length ≤ 1048576) (hs : ∀ x ∈ l, smL x) : Ev (fun k => zaE.f k l l) true := Ev.pos rfl (eqLs_l l hl hs _ 0 rfl (by omega))
theorem law_LocalesFault (l : List S26) (hl : l.length ≤ 9223372036854775807) (hs : ∀ x ∈ l, bigL x) : Ev (fun k => laws_FnExactLocalesFault.f k l) true := by
 obtain ⟨r, hr, hsm⟩ := szLs_f l hl hs
 by_cases hn : r < 0
 ·exact Ev.bind hr (Ev.pos hn (Ev.now _))
 obtain ⟨h1, h2⟩ := hsm (by omega)
 have ht := toLs_f l h1 h2
 have h2' : ∀ x ∈ l.map locOf, smL x := fun x hx => by
  obtain ⟨y, hy, rfl⟩ := List.mem_map.1 hx
  exact h2 y hy
 have h1' : (l.map locOf).length ≤ 1048576 := by simpa using h1
 have hL : lsS (l.map locOf) = true := Bool.and_eq_true_iff.2 ⟨decide_eq_true h1', List.all_eq_true.2 h2'⟩
 exact Ev.bind hr (Ev.neg hn (Ev.bind ht (Ev.bind (Ev.done (if_pos hL)) (Ev.bind ht (Ev.bind (Ev.done (if_pos hL)) (Ev.pos rfl (Ev.bind ht (Ev.bind (eqLs_f _ h1' h2') (Ev.pos rfl (Ev.now _))))))))))
end Go.Proofs.YtfafjbolmeimmaaGreatDoor.P
namespace Go.Proofs.YtfafjbolmeimmaaGreatDoor.P
open Go.ChangeShapes Go.WideShapes Go.ChangeAt Go.RowKit Go.Deep Go.Proofs.YtfafjbolmeimmaaGreatDoorW.PrintWords
set_option linter.unusedVariables false
section
variable {H : Type} {enc : TypeId × Value → H} {w : World} {base : Nat} {spare : Nat → Bool} {held : Bool}
theorem open_cells {P : Program} {t : TypeId} {fs : Array Field} {fuel : Nat} {cs : List Value} {y : DataW H × List MemPlace} (hs : P.underlying t = some (.struct fs)) (hone : oneCellFields P fs = true) (hC : P.cellsOf t = fs.size)
  (h : DataW.trod enc P w base spare held fuel t cs = some y) : ∃ n, cs.length = fs.size ∧ ∀ (j : Nat) (f : Field), fs[j]? = some f → ∃ c y, cs[j]? = some c ∧ DataW.trod enc P w base spare held n f.type [c] = some y := by
 obtain ⟨xs, n, _, hx, hcl, hlen, hg⟩ := DataW.trod_struct hs h
 have hl := hcl.trans hC
 refine ⟨n, hl, fun j f hj => ?_⟩
 obtain ⟨o, k⟩ := hone_of hone j f hj
 have hjl : j < fs.size := (Array.getElem?_eq_some_iff.1 hj).1
 have h1 := hg j f hj
 rw [o, k] at h1
 have hjc : j < cs.length := by omega
 have e1 : (cs.drop j).take 1 = [cs[j]] := by
  rw [List.drop_eq_getElem_cons hjc]
  rfl
 rw [e1] at h1
 have hxl : j < xs.length := by omega
 exact ⟨cs[j], xs[j], List.getElem?_eq_getElem hjc, h1.trans (List.getElem?_eq_getElem hxl)⟩
set_option maxRecDepth 100000 in
theorem open_loc {fuel : Nat} {cs : List Value} {y : DataW H × List MemPlace} (h : DataW.trod enc Tryz.prog w base spare held fuel 26 cs = some y) : ∃ x : S26, bigL x ∧ cs.length = 15 ∧ k26.K w x cs := by
 obtain ⟨n, hsz, hf⟩ := open_cells Tryz.underlying26 (by kernel_rfl) (by kernel_rfl) h
 obtain ⟨c0, y0, e0, h0⟩ := hf 0 _ rfl
 obtain ⟨c1, y1, e1, h1⟩ := hf 1 _ rfl
 obtain ⟨c2, y2, e2, h2⟩ := hf 2 _ rfl
 obtain ⟨c3, y3, e3, h3⟩ := hf 3 _ rfl
 obtain ⟨c4, y4, e4, h4⟩ := hf 4 _ rfl
 obtain ⟨c5, y5, e5, h5⟩ := hf 5 _ rfl
 obtain ⟨c6, y6, e6, h6⟩ := hf 6 _ rfl
 obtain ⟨c7, y7, e7, h7⟩ := hf 7 _ rfl
 obtain ⟨c8, y8, e8, h8⟩ := hf 8 _ rfl
 obtain ⟨c9, y9, e9, h9⟩ := hf 9 _ rfl
 obtain ⟨c10, y10, e10, h10⟩ := hf 10 _ rfl
 obtain ⟨c11, y11, e11, h11⟩ := hf 11 _ rfl
 obtain ⟨c12, y12, e12, h12⟩ := hf 12 _ rfl
 obtain ⟨c13, y13, e13, h13⟩ := hf 13 _ rfl
 obtain ⟨c14, y14, e14, h14⟩ := hf 14 _ rfl
 obtain ⟨a0, x0, _, b0⟩ := DataW.trod_string Tryz.underlying9 h0
 simp only [List.cons.injEq, and_true] at x0
 subst x0
 obtain ⟨a1, x1, _, b1⟩ := DataW.trod_string Tryz.underlying9 h1
 simp only [List.cons.injEq, and_true] at x1
 subst x1
 obtain ⟨a2, x2, _, b2⟩ := DataW.trod_string Tryz.underlying9 h2
 simp only [List.cons.injEq, and_true] at x2
 subst x2
 obtain ⟨a3, x3, _, b3⟩ := DataW.trod_string Tryz.underlying9 h3
 simp only [List.cons.injEq, and_true] at x3
 subst x3
 obtain ⟨a4, x4, _, b4⟩ := DataW.trod_string Tryz.underlying9 h4
 simp only [List.cons.injEq, and_true] at x4
 subst x4
 obtain ⟨a8, x8, _, b8⟩ := DataW.trod_string Tryz.underlying9 h8
 simp only [List.cons.injEq, and_true] at x8
 subst x8
 obtain ⟨a9, x9, _, b9⟩ := DataW.trod_string Tryz.underlying9 h9
 simp only [List.cons.injEq, and_true] at x9
 subst x9
 obtain ⟨a10, x10, _, b10⟩ := DataW.trod_string Tryz.underlying9 h10
 simp only [List.cons.injEq, and_true] at x10
 subst x10
 obtain ⟨a11, x11, _, b11⟩ := DataW.trod_string Tryz.underlying9 h11
 simp only [List.cons.injEq, and_true] at x11
 subst x11
 obtain ⟨a14, x14, _, b14⟩ := DataW.trod_string Tryz.underlying9 h14
 simp only [List.cons.injEq, and_true] at x14
 subst x14
 obtain ⟨a6, x6, _, _⟩ := DataW.trod_int Tryz.underlying2 h6
 simp only [List.cons.injEq, and_true] at x6
 subst x6
 obtain ⟨A5, k5, l5, rfl, C5, K5, L5, _⟩ := open_nums Tryz.underlying22 Tryz.underlying2 (by kernel_rfl) h5
 obtain ⟨A7, k7, l7, rfl, C7, K7, L7, M7⟩ := open_pls Tryz.underlying23 Tryz.underlying79 (by kernel_rfl) rfl rfl (by kernel_rfl) (by kernel_rfl) Tryz.underlying9 Tryz.underlying9 h7
 obtain ⟨A12, k12, l12, rfl, C12, K12, L12, M12⟩ := open_texts Tryz.underlying24 Tryz.underlying9 (by kernel_rfl) h12
 obtain ⟨A13, k13, l13, rfl, C13, K13, L13, M13⟩ := open_texts Tryz.underlying24 Tryz.underlying9 (by kernel_rfl) h13
 have ecs : cs = [.string a0, .string a1, .string a2, .string a3, .string a4, .slice A5 l5.length k5, .int .i64 a6, .slice A7 l7.length k7, .string a8, .string a9, .string a10, .string a11, .slice A12 l12.length k12, .slice A13 l13.length k13, .string a14] := by
  apply List.ext_getElem?
  intro j
  have hsz' : cs.length = 15 := hsz
  match j with
  | 0 => exact e0
  | 1 => exact e1
  | 2 => exact e2
  | 3 => exact e3
  | 4 => exact e4
  | 5 => exact e5
  | 6 => exact e6
  | 7 => exact e7
  | 8 => exact e8
  | 9 => exact e9
  | 10 => exact e10
  | 11 => exact e11
  | 12 => exact e12
  | 13 => exact e13
  | 14 => exact e14
  | j + 15 => rw [List.getElem?_eq_none (by omega), List.getElem?_eq_none (by simp)]
 subst ecs
 unfold maxLen at b0 b1 b2 b3 b4 b8 b9 b10 b11 b14
 refine ⟨⟨a0, a1, a2, a3, a4, l5, a6, l7, a8, a9, a10, a11, l12, l13, a14⟩, ⟨b0, b1, b2, b3, b4, b8, b9, b10, b11, b14, L5, L7, M7, L12, M12, L13, M13⟩, rfl, ?_⟩
 exact ⟨[_], _, rfl, rfl, ⟨[_], _, rfl, rfl, ⟨[_], _, rfl, rfl, ⟨[_], _, rfl, rfl, ⟨[_], _, rfl, rfl, ⟨[_], _, rfl, ⟨_, _, rfl, K5, C5⟩, ⟨[_], _, rfl, rfl, ⟨[_], _, rfl, ⟨_, _, rfl, K7, C7⟩, ⟨[_], _, rfl, rfl, ⟨[_], _, rfl, rfl, ⟨[_], _, rfl, rfl, ⟨[_], _, rfl, rfl, ⟨[_], _, rfl, ⟨_, _, rfl, K12, C12⟩, ⟨[_], _, rfl, ⟨_, _, rfl, K13, C13⟩, rfl⟩⟩⟩⟩⟩⟩⟩⟩⟩⟩⟩⟩⟩⟩
set_option maxRecDepth 100000 in
theorem open_locs {r : Reach} {b0 : Nat} {v : Value} {d : DataW H} {p : List MemPlace} (hval : Value.okWide Tryz.prog w r b0 35 v) (h : DataW.Trod enc Tryz.prog w base spare held 35 v d p) :
  ∃ A cap l, v = .slice A l.length cap ∧ Kd.C k26 w A l.length l ∧ l.length ≤ cap ∧ l.length ≤ 9223372036854775807 ∧ ∀ x ∈ l, bigL x := by
 obtain ⟨a1, len1, cap1, rfl⟩ := okWide_slice Tryz.underlying35 hval
 obtain ⟨fuel, hm⟩ := h
 have h : DataW.trod enc Tryz.prog w base spare held fuel 35 [.slice a1 len1 cap1] = some (d, p) := hm
 rcases Deep.open_slice Tryz.underlying35 h with ⟨hcs, _⟩ | ⟨a, len, cap, m, n, D, Pl, hcs, _, hl, hm, hmm, _, hall⟩
 ·simp only [List.cons.injEq, and_true] at hcs
  exact ⟨none, 0, [], hcs, Kd.C_nil _ _, Nat.le_refl _, by simp, by simp⟩
 simp only [List.cons.injEq, and_true] at hcs
 have hlm : len ≤ m := by rw [hmm]; split <;> omega
 haveI : Inhabited S26 := ⟨z26⟩
 have e15 : Tryz.prog.cellsOf 26 = 15 := by kernel_rfl
 obtain ⟨q, hq⟩ := Deep.choose_lt (α := S26) (p := fun i x => bigL x ∧ ∃ cs, cs.length = 15 ∧ k26.K w x cs ∧ ∀ (j : Nat) (u : Value), cs[j]? = some u → w.cell? (a.add (i * 15 + j)) = some u) (n := m) (fun i hi => by
  obtain ⟨cs, h1, h2⟩ := hall i hi
  rw [e15] at h1
  obtain ⟨_, hlen, hcell⟩ := World.cells?_some h1
  obtain ⟨x, hb, hc, hk⟩ := open_loc h2
  refine ⟨x, hb, cs, hc, hk, fun j u hu => ?_⟩
  have hj : j < 15 := by
   have := (List.getElem?_eq_some_iff.1 hu).1
   omega
  rw [← Deep.add_add, hcell j hj, hu])
 have el : ((List.range len).map q).length = len := by simp
 refine ⟨some a, cap, (List.range len).map q, by rw [el]; exact hcs, ?_, by omega, by unfold maxLen at hm; omega, ?_⟩
 ·refine ⟨rfl, by unfold maxLen at hm; omega, fun _ => ⟨a, rfl, fun j p hp => ?_⟩⟩
  have hj : j < len := by
   have := (List.getElem?_eq_some_iff.1 hp).1
   omega
  have ep : p = q j := by
   rw [List.getElem?_map, List.getElem?_range hj] at hp
   exact (Option.some.inj hp).symm
  subst ep
  obtain ⟨_, cs, hc, hk, hcell⟩ := hq j (by omega)
  exact ⟨cs, hc, hk, hcell⟩
 intro x hx
 obtain ⟨i, hi, rfl⟩ := List.mem_map.1 hx
 exact (hq i (by have := List.mem_range.1 hi; omega)).1
end
end Go.Proofs.YtfafjbolmeimmaaGreatDoor.P
