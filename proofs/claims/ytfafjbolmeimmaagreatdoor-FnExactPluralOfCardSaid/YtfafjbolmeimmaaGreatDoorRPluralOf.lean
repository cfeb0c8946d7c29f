/- The law of FnExactPluralOf: for every input it returns true. No condition beside those of the statement. -/
import Derived.Test.YtfafjbolmeimmaaGreatDoorAb
import Derived.Test.YtfafjbolmeimmaaGreatDoorXPlw
import Derived.Test.YtfafjbolmeimmaaGreatDoorF5
import Derived.Test.YtfafjbolmeimmaaGreatDoorCards
namespace Go.Proofs.YtfafjbolmeimmaaGreatDoor.fnExactPluralOf
open Go.ChangeShapes Go.WideShapes Go.ChangeAt Go.RowKit Go.Deep Go.Proofs.YtfafjbolmeimmaaGreatDoorW.PrintWords Go.Proofs.YtfafjbolmeimmaaGreatDoor.P
open Go.ChangeMaps (open_string shut_string)
set_option linter.unusedVariables false
set_option maxRecDepth 100000 in
theorem walk {H : Type} {enc : TypeId × Value → H} {W : World} {b0 base : Nat} {spare : Nat → Bool} {held : Bool} {r : Reach} {v : Value} {d : DataW H} {p : List MemPlace} (hv : Value.okWide Tryz.prog W r b0 26 v) (h : DataW.Trod enc Tryz.prog W base spare held 26 v d p) {v1 : Value} {d1 : DataW H} {p1 : List MemPlace} (hv1 : Value.okWide Tryz.prog W r b0 2 v1) (g1 : DataW.Trod enc Tryz.prog W base spare held 2 v1 d1 p1) {v2 : Value} {d2 : DataW H} {p2 : List MemPlace} (hv2 : Value.okWide Tryz.prog W r b0 2 v2) (g2 : DataW.Trod enc Tryz.prog W base spare held 2 v2 d2 p2) (hG : GT W) :
  Calls Tryz.prog 6 #[v, v1, v2] W fun e w' => e = .returned (.bool true) ∧ Below W.heap.size W w' := by
 obtain ⟨cs, n, rfl, hsz, hf⟩ := open_fields Tryz.underlying26 yq11 yq11 hv h
 obtain ⟨c0, y0, e0, h0⟩ := hf 0 _ rfl
 obtain ⟨c1, y1, e1, h1⟩ := hf 1 _ rfl
 obtain ⟨c2, y2, e2, h2⟩ := hf 2 _ rfl
 obtain ⟨c3, y3, e3, h3⟩ := hf 3 _ rfl
 obtain ⟨c4, y4, e4, h4⟩ := hf 4 _ rfl
 obtain ⟨c5, y5, e5, h5⟩ := hf 5 _ rfl
 obtain ⟨c6, y6, e6, h6⟩ := hf 6 _ rfl
 obtain ⟨c7, y7, e7, h7⟩ := hf 7 _ rfl
 obtain ⟨c8, y8, e8, h8⟩ := hf 8 _ rfl
 obtain ⟨c9, y9, e9, h9⟩ := hf 9 _ rfl
 obtain ⟨c10, y10, e10, h10⟩ := hf 10 _ rfl
 obtain ⟨c11, y11, e11, h11⟩ := hf 11 _ rfl
 obtain ⟨c12, y12, e12, h12⟩ := hf 12 _ rfl
 obtain ⟨c13, y13, e13, h13⟩ := hf 13 _ rfl
 obtain ⟨c14, y14, e14, h14⟩ := hf 14 _ rfl
 obtain ⟨a0, x0, _, b0⟩ := DataW.trod_string Tryz.underlying9 h0
 simp only [List.cons.injEq, and_true] at x0
 subst x0
 obtain ⟨a1, x1, _, b1⟩ := DataW.trod_string Tryz.underlying9 h1
 simp only [List.cons.injEq, and_true] at x1
 subst x1
 obtain ⟨a2, x2, _, b2⟩ := DataW.trod_string Tryz.underlying9 h2
 simp only [List.cons.injEq, and_true] at x2
 subst x2
 obtain ⟨a3, x3, _, b3⟩ := DataW.trod_string Tryz.underlying9 h3
 simp only [List.cons.injEq, and_true] at x3
 subst x3
 obtain ⟨a4, x4, _, b4⟩ := DataW.trod_string Tryz.underlying9 h4
 simp only [List.cons.injEq, and_true] at x4
 subst x4
 obtain ⟨a8, x8, _, b8⟩ := DataW.trod_string Tryz.underlying9 h8
 simp only [List.cons.injEq, and_true] at x8
 subst x8
 obtain ⟨a9, x9, _, b9⟩ := DataW.trod_string Tryz.underlying9 h9
 simp only [List.cons.injEq, and_true] at x9
 subst x9
 obtain ⟨a10, x10, _, b10⟩ := DataW.trod_string Tryz.underlying9 h10
 simp only [List.cons.injEq, and_true] at x10
 subst x10
 obtain ⟨a11, x11, _, b11⟩ := DataW.trod_string Tryz.underlying9 h11
 simp only [List.cons.injEq, and_true] at x11
 subst x11
 obtain ⟨a14, x14, _, b14⟩ := DataW.trod_string Tryz.underlying9 h14
 simp only [List.cons.injEq, and_true] at x14
 subst x14
 obtain ⟨a6, x6, _, _⟩ := DataW.trod_int Tryz.underlying2 h6
 simp only [List.cons.injEq, and_true] at x6
 subst x6
 obtain ⟨A5, k5, l5, rfl, C5, K5, L5, _⟩ := open_nums Tryz.underlying22 Tryz.underlying2 yq11 h5
 obtain ⟨A7, k7, l7, rfl, C7, K7, L7, M7⟩ := open_pls Tryz.underlying23 Tryz.underlying79 yq11 rfl rfl yq11 yq11 Tryz.underlying9 Tryz.underlying9 h7
 obtain ⟨A12, k12, l12, rfl, C12, K12, L12, M12⟩ := open_texts Tryz.underlying24 Tryz.underlying9 yq11 h12
 obtain ⟨A13, k13, l13, rfl, C13, K13, L13, M13⟩ := open_texts Tryz.underlying24 Tryz.underlying9 yq11 h13
 have ecs : cs = #[.string a0, .string a1, .string a2, .string a3, .string a4, .slice A5 l5.length k5, .int .i64 a6, .slice A7 l7.length k7, .string a8, .string a9, .string a10, .string a11, .slice A12 l12.length k12, .slice A13 l13.length k13, .string a14] := by
  apply Array.ext_getElem?
  intro j
  have hsz' : cs.size = 15 := hsz
  match j with
  | 0 => exact e0
  | 1 => exact e1
  | 2 => exact e2
  | 3 => exact e3
  | 4 => exact e4
  | 5 => exact e5
  | 6 => exact e6
  | 7 => exact e7
  | 8 => exact e8
  | 9 => exact e9
  | 10 => exact e10
  | 11 => exact e11
  | 12 => exact e12
  | 13 => exact e13
  | 14 => exact e14
  | j + 15 => rw [Array.getElem?_eq_none yq10, Array.getElem?_eq_none yq27]
 subst ecs
 obtain ⟨z1, rfl⟩ := okWide_int Tryz.underlying2 hv1
 obtain ⟨m1, hm1⟩ := g1
 obtain ⟨y1, ez1, _, R1⟩ := DataW.trod_int Tryz.underlying2 (show DataW.trod enc Tryz.prog W base spare held m1 2 [.int .i64 z1] = some (d1, p1) from hm1)
 cases ez1
 replace R1 : -9223372036854775808 ≤ z1 ∧ z1 ≤ 9223372036854775807 := by
  unfold Lit.wf at R1
  rw [Bool.and_eq_true, decide_eq_true_iff, decide_eq_true_iff] at R1
  exact R1
 obtain ⟨z2, rfl⟩ := okWide_int Tryz.underlying2 hv2
 obtain ⟨m2, hm2⟩ := g2
 obtain ⟨y2, ez2, _, R2⟩ := DataW.trod_int Tryz.underlying2 (show DataW.trod enc Tryz.prog W base spare held m2 2 [.int .i64 z2] = some (d2, p2) from hm2)
 cases ez2
 replace R2 : -9223372036854775808 ≤ z2 ∧ z2 ≤ 9223372036854775807 := by
  unfold Lit.wf at R2
  rw [Bool.and_eq_true, decide_eq_true_iff, decide_eq_true_iff] at R2
  exact R2
 unfold maxLen at b0 b1 b2 b3 b4 b8 b9 b10 b11 b14
 exact plw_w (a0_6 := a6) (num := z1) (p := z2) (hn := R1) (hr0_5 := C5) (hc0_5 := K5) (hr0_7 := C7) (hc0_7 := K7) (hr0_12 := C12) (hc0_12 := K12) (hr0_13 := C13) (hc0_13 := K13) (w := W) (hG := hG) (b5 := L5) (b7 := L7) (c7 := M7) (b12 := L12) (c12 := M12) (b13 := L13) (c13 := M13) (b0 := b0) (b1 := b1) (b2 := b2) (b3 := b3) (b4 := b4) (b8 := b8) (b9 := b9) (b10 := b10) (b11 := b11) (b14 := b14)
set_option maxRecDepth 100000 in
theorem lifted (os : Os) (started : os.Started) (H : Type) (enc : TypeId × Value → H) :
  ReturnsInHanded {} Tryz.checked os 6 .any (fun w args => (Rows.fnExactPluralOfSpec.pre enc Tryz.prog Tryz.f6 [] false w args ∧ laidMetH Tryz.prog Rows.fnExactPluralOfRow.laid w) ∧ sizedMet enc Tryz.prog Tryz.f6 (OpenSpec.ofChange Rows.fnExactPluralOfSpec) false w args)
   (Rows.fnExactPluralOfSpec.post enc Tryz.prog Tryz.f6 false true false false) := by
 refine handed_and_shaped (C := Tryz.checked) (X := fun w _ => laidMetH Tryz.prog Rows.fnExactPluralOfRow.laid w) (fun _ _ _ hh h => h.of_heap hh) own started yq11 Tryz.func6
  (ChangeSpec.witness_shaped (enc := enc) (C := Tryz.checked) (os := os) (X := fun w _ => laidMetH Tryz.prog Rows.fnExactPluralOfRow.laid w) false (World.laidAll Tryz.prog os Rows.fnExactPluralOfRow.laid) #[.agg #[.string ⟨#[]⟩, .string ⟨#[]⟩, .string ⟨#[]⟩, .string ⟨#[]⟩, .string ⟨#[]⟩, .slice none 0 0, .int .i64 0, .slice none 0 0, .string ⟨#[]⟩, .string ⟨#[]⟩, .string ⟨#[]⟩, .string ⟨#[]⟩, .slice none 0 0, .slice none 0 0, .string ⟨#[]⟩], .int .i64 0, .int .i64 0] 8 (World.laidAll_os _ _ _)
   (World.shaped_of_ZipB yq11 yq11) yq11 yq11 yq11
   (by rw [MakeChecks.laidMetH_plain _ _ _ yq11]; exact laidMet_laidAll _ yq11 yq11)) ?_
 intro W base args ds gs before hval0 hW hsh hL
 have hval : ∀ (j : Nat) t v, Tryz.f6.params[j]? = some t → args[j]? = some v → Value.okWide Tryz.prog W .any base t v := hval0
 have hW' := hW
 obtain ⟨p, q, hA0, hV, rfl, _, _⟩ := hW
 have hA : DataW.TrodAll enc Tryz.prog W 0 (fun _ => true) true Tryz.f6.params.toList args.toList ds p := hA0
 rw [Tryz.params6] at hA hval
 obtain ⟨v0, v1, v2, d0, d1, d2, p0, p1, p2, rfl, rfl, rfl, h0, h1, h2⟩ := trodAll_three hA
 obtain ⟨rfl, rfl⟩ := trodVars_none hV
 rw [MakeChecks.laidMetH_plain _ _ _ yq11] at hL
 have hG : GT W := gt_of hL hsh
 have lt0 : ∀ x ∈ p0, x.block < W.heap.size := by obtain ⟨m, hm⟩ := h0; exact DataW.trod_lt m _ _ _ hm
 have lt1 : ∀ x ∈ p1, x.block < W.heap.size := by obtain ⟨m, hm⟩ := h1; exact DataW.trod_lt m _ _ _ hm
 have lt2 : ∀ x ∈ p2, x.block < W.heap.size := by obtain ⟨m, hm⟩ := h2; exact DataW.trod_lt m _ _ _ hm
 try simp only [List.append_nil] at hW'
 refine (walk (hval 0 26 v0 rfl rfl) h0 (hval 1 2 v1 rfl rfl) h1 (hval 2 2 v2 rfl rfl) h2 hG).mono fun e W' ⟨he, hb⟩ => ?_
 subst he
 exact ⟨_, rfl, _, _, _, [], _, [], hW', trodAll_mk1 (shut_bool Tryz.underlying4 _), trodAll_mk3 (Below.trod laidOut yq11 (of_decide_eq_true yq11) h0 hb lt0) (Below.trod laidOut yq11 (of_decide_eq_true yq11) h1 hb lt1) (Below.trod laidOut yq11 (of_decide_eq_true yq11) h2 hb lt2), rfl, hb.frame _, fun h => by cases h⟩
theorem said : Rows.FnExactPluralOfSaid :=
 OpenClaim.holds_of_wide 6 Tryz.f6 rfl rfl rfl rfl rfl rfl rfl ⟨rfl, rfl, rfl, rfl, rfl⟩ rfl rfl rfl rfl rfl yq11 Tryz.func6 yq11
  (of_decide_eq_true yq11) (by unfold Func.isWrapper; first | (rw [if_pos (by decide +kernel)]; kernel_rfl) | (rw [if_neg (by decide +kernel)]; exact ⟨rfl, rfl⟩))
  (fun os started H enc _ => lifted os started H enc)
theorem plain (f : FuncId) (fn : Func) (hf : Tryz.pinned.checked.prog.funcNamed Rows.fnExactPluralOfRow.func = some f) (hfn : Tryz.pinned.checked.prog.funcs[f]? = some fn) :
  true = Tryz.pinned.checked.prog.looks [] ∧ ∀ (j : Nat) t, fn.params[j]? = some t → Tryz.pinned.checked.prog.wantsStandIn t = false := by
 obtain rfl : f = 6 := Option.some.inj ((show Tryz.prog.funcNamed Rows.fnExactPluralOfRow.func = some 6 by kernel_rfl).symm.trans hf) |>.symm
 obtain rfl : fn = Tryz.f6 := (Option.some.inj (Tryz.func6.symm.trans hfn)).symm
 refine ⟨yq11, fun j t ht => ?_⟩
 rw [Tryz.params6] at ht
 have hm := Array.mem_of_getElem? ht
 simp only [List.mem_toArray, List.mem_cons, List.not_mem_nil, or_false] at hm
 rcases hm with rfl | rfl | rfl
 ·exact (show Tryz.prog.wantsStandIn 26 = false by kernel_rfl)
 ·exact (show Tryz.prog.wantsStandIn 2 = false by kernel_rfl)
 exact (show Tryz.prog.wantsStandIn 2 = false by kernel_rfl)
theorem card : Rows.FnExactPluralOfCardSaid :=
 Claim7.holds_tied_plain_at .later [] _ _ _ _ said (fun _ h => by cases h) yq11 (fun _ h => by cases h) fnExactPluralOf_row_tie rfl ⟨rfl, rfl⟩ yq11 rfl plain yq11
#print axioms card
end Go.Proofs.YtfafjbolmeimmaaGreatDoor.fnExactPluralOf
