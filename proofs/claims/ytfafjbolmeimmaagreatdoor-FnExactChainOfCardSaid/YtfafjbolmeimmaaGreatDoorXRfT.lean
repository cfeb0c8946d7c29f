/- impl's readTest, walked. -/
import Derived.Test.YtfafjbolmeimmaaGreatDoorAb
import Derived.Test.YtfafjbolmeimmaaGreatDoorXRfN
import Derived.Test.YtfafjbolmeimmaaGreatDoorF3
namespace Go.Proofs.YtfafjbolmeimmaaGreatDoor.P
open Go.RowKit Go.Proofs.YtfafjbolmeimmaaGreatDoorW.PrintWords Go.Proofs.YtfafjbolmeimmaaGreatDoorW.PrintLast Go.Proofs.YtfafjbolmeimmaaGreatDoorW.PrintMore
set_option linter.unusedVariables false
set_option linter.unusedSimpArgs false
def tvA (x : TI) : Array Value := #[.int .u8 x.1, .int .i64 x.2.1, .bool x.2.2.1, .int .i64 x.2.2.2.1, .int .i64 x.2.2.2.2]
theorem ib_ifvn (c : UInt8) : decide (Lib.indexByte [105, 102, 118, 110] ((c.toNat : Int).toNat.toUInt8) < 0) = !isOf c := by
 have e : ((c.toNat : Int).toNat.toUInt8) = c := by simp
 rw [e]
 unfold isOf
 by_cases h1 : c = 105
 ·subst h1; rfl
 by_cases h2 : c = 102
 ·subst h2; rfl
 by_cases h3 : c = 118
 ·subst h3; rfl
 by_cases h4 : c = 110
 ·subst h4; rfl
 rw [beq_eq_false_iff_ne.2 h1, beq_eq_false_iff_ne.2 h2, beq_eq_false_iff_ne.2 h3, beq_eq_false_iff_ne.2 h4]
 have g1 : (105 == c) = false := beq_eq_false_iff_ne.2 (fun h => h1 h.symm)
 have g2 : (102 == c) = false := beq_eq_false_iff_ne.2 (fun h => h2 h.symm)
 have g3 : (118 == c) = false := beq_eq_false_iff_ne.2 (fun h => h3 h.symm)
 have g4 : (110 == c) = false := beq_eq_false_iff_ne.2 (fun h => h4 h.symm)
 simp [Lib.indexByte, g1, g2, g3, g4]
structure ST (w wc : World) (g1 g2 g4 : Nat) (r : List UInt8) (x : TI) : Prop where
 s : wc.heap[g1]? = some (.cells #[.string (bs r)] 9 (0, 0))
 t : wc.heap[g4]? = some (.cells (tvA x) 106 (0, 0))
 a : wc.heap[g2]? = some (.cells (tvA (0, 0, false, 0, 0)) 106 (0, 0))
 b : Below w.heap.size w wc
 o : w.heap.size ≤ g1 ∧ g1 < g2 ∧ g2 < g4
theorem ST.at_s {w wc : World} {g1 g2 g4 : Nat} {r : List UInt8} {x : TI} (h : ST w wc g1 g2 g4 r x) : wc.cell? ⟨g1, 0, none⟩ = some (.string (bs r)) ∧ wc.frozen? ⟨g1, 0, none⟩ = false := ⟨(zal h.s 0).trans rfl, zah h.s 0⟩
theorem ST.at_t {w wc : World} {g1 g2 g4 : Nat} {r : List UInt8} {x : TI} (h : ST w wc g1 g2 g4 r x) : wc.cell? ⟨g4, 0, none⟩ = some (.int .u8 x.1) ∧ wc.cell? ⟨g4, 1, none⟩ = some (.int .i64 x.2.1) ∧ wc.cell? ⟨g4, 2, none⟩ = some (.bool x.2.2.1) ∧ wc.cell? ⟨g4, 3, none⟩ = some (.int .i64 x.2.2.2.1) ∧ wc.cell? ⟨g4, 4, none⟩ = some (.int .i64 x.2.2.2.2) :=
 ⟨(zal h.t 0).trans rfl, (zal h.t 1).trans rfl, (zal h.t 2).trans rfl, (zal h.t 3).trans rfl, (zal h.t 4).trans rfl⟩
theorem ST.at_a {w wc : World} {g1 g2 g4 : Nat} {r : List UInt8} {x : TI} (h : ST w wc g1 g2 g4 r x) : wc.cell? ⟨g2, 0, none⟩ = some (.int .u8 0) ∧ wc.cell? ⟨g2, 1, none⟩ = some (.int .i64 0) ∧ wc.cell? ⟨g2, 2, none⟩ = some (.bool false) ∧ wc.cell? ⟨g2, 3, none⟩ = some (.int .i64 0) ∧ wc.cell? ⟨g2, 4, none⟩ = some (.int .i64 0) :=
 ⟨(zal h.a 0).trans rfl, (zal h.a 1).trans rfl, (zal h.a 2).trans rfl, (zal h.a 3).trans rfl, (zal h.a 4).trans rfl⟩
theorem ST.fr_t {w wc : World} {g1 g2 g4 : Nat} {r : List UInt8} {x : TI} (h : ST w wc g1 g2 g4 r x) (i : Nat) : wc.frozen? ⟨g4, i, none⟩ = false := zah h.t i
theorem ST.fr_a {w wc : World} {g1 g2 g4 : Nat} {r : List UInt8} {x : TI} (h : ST w wc g1 g2 g4 r x) (i : Nat) : wc.frozen? ⟨g2, i, none⟩ = false := zah h.a i
theorem ST.put_s {w wc : World} {g1 g2 g4 : Nat} {r : List UInt8} {x : TI} (h : ST w wc g1 g2 g4 r x) (q : List UInt8) : ST w (wc.setCell ⟨g1, 0, none⟩ (.string (bs q))) g1 g2 g4 q x :=
 have h1 := h.o
 ⟨zbb h.s 0 _ rfl, blk_far h.t (by show g4 ≠ g1; omega) _, blk_far h.a (by show g2 ≠ g1; omega) _, zai h.b h1.1, h1⟩
theorem ST.put_t {w wc : World} {g1 g2 g4 : Nat} {r : List UInt8} {x : TI} (h : ST w wc g1 g2 g4 r x) (i : Nat) (v : Value) (y : TI) (e : (tvA x).setIfInBounds i v = tvA y) : ST w (wc.setCell ⟨g4, i, none⟩ v) g1 g2 g4 r y :=
 have h1 := h.o
 ⟨blk_far h.s (by show g1 ≠ g4; omega) _, zbb h.t i _ e, blk_far h.a (by show g2 ≠ g4; omega) _, zai h.b yq9, h1⟩
theorem ST.drew {w wc : World} {g1 g2 g4 : Nat} {r : List UInt8} {x : TI} (h : ST w wc g1 g2 g4 r x) : ST w wc.drew g1 g2 g4 r x :=
 ⟨zar h.s, zar h.t, zar h.a, zac h.b, h.o⟩
theorem ST.end_ {w wc : World} {g1 g2 g4 : Nat} {r : List UInt8} {x : TI} (h : ST w wc g1 g2 g4 r x) : (((((wc.setCell ⟨g2, 0, none⟩ (.int .u8 x.1)).setCell ⟨g2, 1, none⟩ (.int .i64 x.2.1)).setCell ⟨g2, 2, none⟩ (.bool x.2.2.1)).setCell ⟨g2, 3, none⟩ (.int .i64 x.2.2.2.1)).setCell ⟨g2, 4, none⟩ (.int .i64 x.2.2.2.2)).heap[g2]? = some (.cells (tvA x) 106 (0, 0)) ∧ Below w.heap.size w (((((wc.setCell ⟨g2, 0, none⟩ (.int .u8 x.1)).setCell ⟨g2, 1, none⟩ (.int .i64 x.2.1)).setCell ⟨g2, 2, none⟩ (.bool x.2.2.1)).setCell ⟨g2, 3, none⟩ (.int .i64 x.2.2.2.1)).setCell ⟨g2, 4, none⟩ (.int .i64 x.2.2.2.2)) :=
 have h1 := h.o
 have h2 : w.heap.size ≤ g2 := by omega
 ⟨zbb (zbb (zbb (zbb (zbb h.a 0 _ rfl) 1 _ rfl) 2 _ rfl) 3 _ rfl) 4 _ rfl, zai (zai (zai (zai (zai h.b h2) h2) h2) h2) h2⟩
def aft (w : World) (g2 : Nat) (x : TI) : World := ((((w.setCell ⟨g2, 0, none⟩ (.int .u8 x.1)).setCell ⟨g2, 1, none⟩ (.int .i64 x.2.1)).setCell ⟨g2, 2, none⟩ (.bool x.2.2.1)).setCell ⟨g2, 3, none⟩ (.int .i64 x.2.2.2.1)).setCell ⟨g2, 4, none⟩ (.int .i64 x.2.2.2.2)
theorem ST.aft {w wc : World} {g1 g2 g4 : Nat} {r : List UInt8} {x : TI} (h : ST w wc g1 g2 g4 r x) : (aft wc g2 x).heap[g1]? = some (.cells #[.string (bs r)] 9 (0, 0)) ∧ (aft wc g2 x).heap[g4]? = some (.cells (tvA x) 106 (0, 0)) :=
 have h1 := h.o
 have h2 : g1 ≠ g2 := by omega
 have h3 : g4 ≠ g2 := by omega
 ⟨blk_far (blk_far (blk_far (blk_far (blk_far h.s h2 _) h2 _) h2 _) h2 _) h2 _, blk_far (blk_far (blk_far (blk_far (blk_far h.t h3 _) h3 _) h3 _) h3 _) h3 _⟩
theorem ST.num {w wc w' : World} {g1 g2 g4 : Nat} {r q : List UInt8} {x : TI} (h : ST w wc g1 g2 g4 r x) (hk : w'.heap[g1]? = some (.cells #[.string (bs q)] 9 (0, 0))) (hb : Below w.heap.size w w') (kb : KeepBut wc w' g1 none) : ST w w' g1 g2 g4 q x :=
 have h1 := h.o
 ⟨hk, kb.blk h.t yq9 yq21, kb.blk h.a yq9 yq21, hb, h1⟩
theorem cut_one (r p : List UInt8) (w : World) : Calls Tryz.prog 133 #[.string (bs r), .string ⟨p.toArray⟩] w fun e w' => e = .returned (.tuple #[.string (bs (Lib.trimPrefix r p)), .bool (Lib.hasPrefix r p)]) ∧ w' = w := Tryz.strings_CutPrefix (bs r) ⟨p.toArray⟩ w
theorem pre_one' (r p : List UInt8) (w : World) : Calls Tryz.prog 80 #[.string (bs r), .string ⟨p.toArray⟩] w fun e w' => e = .returned (.bool (Lib.hasPrefix r p)) ∧ w' = w := Tryz.strings_HasPrefix (bs r) ⟨p.toArray⟩ w
theorem trim_len (r p : List UInt8) : (Lib.trimPrefix r p).length ≤ r.length := by
 unfold Lib.trimPrefix
 split
 ·rw [List.length_drop]; omega
 exact Nat.le_refl _
theorem pre_len {l : List UInt8} {b : UInt8} (h : Lib.hasPrefix l [b] = true) : 1 ≤ l.length := by
 cases l with
 | nil => cases h
 | cons c r => rw [List.length_cons]; omega
theorem dw_len (r : List UInt8) : (r.dropWhile isDg).length ≤ r.length := (List.dropWhile_sublist _).length_le
theorem emp_nil : (bs []).toList.isEmpty = true := by rw [ByteArray.toList_eq]; rfl
theorem emp_cons (c : UInt8) (r : List UInt8) : (bs (c :: r)).toList.isEmpty = false := by rw [ByteArray.toList_eq]; rfl
theorem bs_head (c : UInt8) (r : List UInt8) : ∀ h : 0 < (bs (c :: r)).size, (((bs (c :: r))[0]'h).toNat : Int) = (c.toNat : Int) := fun h => rfl
def TestOut (l : List UInt8) (w : World) (e : Ending) (w' : World) : Prop := ∃ x : TI, e = .returned (.tuple #[.agg (tvA x), .bool (tI l).isSome]) ∧ (∀ y, tI l = some y → x = y) ∧ Below w.heap.size w w'
theorem TestOut.mk {l : List UInt8} {w w' : World} {e : Ending} (x : TI) {b : Bool} (h : b = (tI l).isSome ∧ ∀ y, tI l = some y → x = y) (hb : Below w.heap.size w w') (he : e = .returned (.tuple #[.agg (tvA x), .bool b]) := by rfl) : TestOut l w e w' := ⟨x, h.1 ▸ he, h.2, hb⟩
theorem no_test {l : List UInt8} {x : TI} (h : tI l = none) : false = (tI l).isSome ∧ ∀ y, tI l = some y → x = y := by rw [h]; exact ⟨rfl, fun y h => by cases h⟩
theorem is_test {l : List UInt8} {x : TI} (h : tI l = some x) : true = (tI l).isSome ∧ ∀ y, tI l = some y → x = y := by rw [h]; exact ⟨rfl, fun y h => by cases h; rfl⟩
set_option maxHeartbeats 4000000 in
set_option maxRecDepth 100000 in
theorem test_calls (l : List UInt8) (w : World) (hG : GT w) (hl : l.length ≤ 1099511627776) :
  Calls Tryz.prog 107 #[.string (bs l)] w fun e w' => TestOut l w e w' := by
 have HG := zaa.mk hG; have HL := zaa.mk hl
 have HB0 := zaa.mk (Below.refl w.heap.size w)
 have hu := Tryz.underlying106
 clear hG hl
 go_enter Tryz.func107, Tryz.ntmps107
 go_upto_region 2 with (first
  | ((with_reducible refine zaU (N := 1) rfl ?_); refine zba ?hg (N := 1) ?hd (cs := #[.string (bs l)]) (t := 9) ?hr ?_; (case hd => rfl); (case hg => rfl); (case hr => first | (go_simp; done) | (go_simp; rfl)); intro g1 hg w1 hbox hb; have BK1 := zaa.mk hbox; have HB1 := zaa.mk (zam HB0.out hb); have G1 := zaa.mk (show w.heap.size ≤ g1 by omega); have L1 := zaa.mk (blk_lt hbox); clear hb hbox hg)
  | ((with_reducible refine zaU (N := 2) rfl ?_); refine zba ?hg (N := 2) ?hd (cs := tvA (0, 0, false, 0, 0)) (t := 106) ?hr ?_; (case hd => rfl); (case hg => rfl); (case hr => first | (go_simp; done) | (go_simp; rfl)); intro g2 hg w2 hbox hb; have BK2 := zaa.mk hbox; have HB2 := zaa.mk (zam HB1.out hb); have C1 := zaa.mk (zbg BK1.out hb); have G2 := zaa.mk (show g1 < g2 by have := L1.out; omega); have L2 := zaa.mk (blk_lt hbox); clear hb hbox hg)
  | ((with_reducible refine zaU (N := 4) rfl ?_); refine zba ?hg (N := 4) ?hd (cs := tvA (0, 0, false, 0, 0)) (t := 106) ?hr ?_; (case hd => rfl); (case hg => rfl); (case hr => first | (go_simp; done) | (go_simp; rfl)); intro g4 hg w4 hbox hb; have BK4 := zaa.mk hbox; have HB4 := zaa.mk (zam HB2.out hb); have D1 := zaa.mk (zbg C1.out hb); have D2 := zaa.mk (zbg BK2.out hb); have G4 := zaa.mk (show g2 < g4 by have := L2.out; omega); clear hb hbox hg)
  | fail)
 have S0 := zaa.mk (ST.mk (w := w) D1.out BK4.out D2.out HB4.out ⟨G1.out, G2.out, G4.out⟩)
 clear BK1 HB1 G1 L1 BK2 HB2 C1 G2 L2 BK4 HB4 D1 D2 G4 HB0
 have hz := (S0.out.at_s).1
 have hf := (S0.out.at_s).2
 cases l with
 | nil =>
  have e0 := emp_nil
  clear hz hf
  obtain ⟨hz, hf⟩ := S0.out.at_s
  obtain ⟨k0, k1, k2, k3, k4⟩ := S0.out.at_t
  obtain ⟨m0, m1, m2, m3, m4⟩ := S0.out.at_a
  have t0 := S0.out.fr_t 0
  have t1 := S0.out.fr_t 1
  have t2 := S0.out.fr_t 2
  have t3 := S0.out.fr_t 3
  have t4 := S0.out.fr_t 4
  have f0 := S0.out.fr_a 0
  have f1 := S0.out.fr_a 1
  have f2 := S0.out.fr_a 2
  have f3 := S0.out.fr_a 3
  have f4 := S0.out.fr_a 4
  go_wp2
  try simp only [Exit.inBlock, Exit.then]
  refine bodyPost_ret (results_ct rfl _ _ g2 106 (tvA (0, 0, false, 0, 0)) (0, 0) _ rfl S0.out.end_.1 hu rfl yq10) rfl ?_
  exact TestOut.mk (0, 0, false, 0, 0) (no_test rfl) S0.out.end_.2
 | cons c r =>
  have e0 := emp_cons c r
  have hx0 := bs_head c r
  have hs := bs_size (c :: r)
  rw [List.length_cons] at hs
  have p0 : 0 < (bs (c :: r)).size := by omega
  have p1 : (1 ≤ (bs (c :: r)).size) = True := eq_true yq9
  clear hs
  have ib := ib_ifvn c
  have e1 : zaa ((bs (c :: r)).extract 1 (bs (c :: r)).size = bs r) := ⟨bs_drop (c :: r) 1⟩
  have hu5 := Tryz.underlying5
  have hmf : ∀ (fn : Fn) (fs cp : Array Value) (w : World), (Instr.makeFunc fn fs cp).run Tryz.prog w = .ok (.func fn fs cp) w := fun _ _ _ _ => rfl
  clear hz hf
  obtain ⟨hz, hf⟩ := S0.out.at_s
  obtain ⟨k0, k1, k2, k3, k4⟩ := S0.out.at_t
  obtain ⟨m0, m1, m2, m3, m4⟩ := S0.out.at_a
  have t0 := S0.out.fr_t 0
  have t1 := S0.out.fr_t 1
  have t2 := S0.out.fr_t 2
  have t3 := S0.out.fr_t 3
  have t4 := S0.out.fr_t 4
  have f0 := S0.out.fr_a 0
  have f1 := S0.out.fr_a 1
  have f2 := S0.out.fr_a 2
  have f3 := S0.out.fr_a 3
  have f4 := S0.out.fr_a 4
  go_wp2_with (fail)
  refine (Tryz.strings_IndexByte ⟨([105, 102, 118, 110] : List UInt8).toArray⟩ (c.toNat : Int) w4).mono ?_
  rintro e w5 ⟨rfl, rfl⟩
  have ib' : decide (Lib.indexByte (⟨([105, 102, 118, 110] : List UInt8).toArray⟩ : ByteArray).data.toList ((c.toNat : Int).toNat.toUInt8) < 0) = !isOf c := ib
  generalize Lib.indexByte (⟨([105, 102, 118, 110] : List UInt8).toArray⟩ : ByteArray).data.toList ((c.toNat : Int).toNat.toUInt8) = z at ib' ⊢
  clear ib
  cases ho : isOf c with
  | false =>
   rw [ho] at ib'
   have hn : tI (c :: r) = none := by show (if isOf c = true then _ else none) = none; rw [ho]; rfl
   replace ib' : decide (z < 0) = true := ib'
   go_wp2
   try simp only [Exit.inBlock, Exit.then]
   refine bodyPost_ret (results_ct rfl _ _ g2 106 (tvA (0, 0, false, 0, 0)) (0, 0) _ rfl S0.out.end_.1 hu rfl yq10) rfl ?_
   exact TestOut.mk (0, 0, false, 0, 0) (no_test hn) S0.out.end_.2
  | true =>
   rw [ho] at ib'
   replace ib' : decide (z < 0) = false := ib'
   have hn : zaa (tI (c :: r) = tI1 (c.toNat : Int) r) := ⟨by show (if isOf c = true then _ else none) = _; rw [ho]; rfl⟩
   go_upto_region 5 with (fail)
   have S1 := zaa.mk (S0.out.put_t 0 (.int .u8 (c.toNat : Int)) ((c.toNat : Int), 0, false, 0, 0) rfl)
   generalize w5.setCell ⟨g4, 0, none⟩ (.int .u8 (c.toNat : Int)) = w6 at *
   clear hz hf k0 k1 k2 k3 k4 m0 m1 m2 m3 m4 t0 t1 t2 t3 t4 f0 f1 f2 f3 f4
   obtain ⟨hz, hf⟩ := S1.out.at_s
   obtain ⟨k0, k1, k2, k3, k4⟩ := S1.out.at_t
   obtain ⟨m0, m1, m2, m3, m4⟩ := S1.out.at_a
   have t0 := S1.out.fr_t 0
   have t1 := S1.out.fr_t 1
   have t2 := S1.out.fr_t 2
   have t3 := S1.out.fr_t 3
   have t4 := S1.out.fr_t 4
   have f0 := S1.out.fr_a 0
   have f1 := S1.out.fr_a 1
   have f2 := S1.out.fr_a 2
   have f3 := S1.out.fr_a 3
   have f4 := S1.out.fr_a 4
   go_upto_region 6 with (fail)
   rw [e1.out]
   have S2 := zaa.mk (S1.out.put_s r)
   generalize w6.setCell ⟨g1, 0, none⟩ (.string (bs r)) = w7 at *
   clear hz hf k0 k1 k2 k3 k4 m0 m1 m2 m3 m4 t0 t1 t2 t3 t4 f0 f1 f2 f3 f4 S0 S1 p0 hx0 e0 p1
   have hrl : zaa (r.length ≤ 1099511627776) := ⟨by have := HL.out; rw [List.length_cons] at this; omega⟩
   go_upto_region 8 with (fail)
   obtain ⟨hz, hf⟩ := S2.out.at_s
   obtain ⟨k0, k1, k2, k3, k4⟩ := S2.out.at_t
   obtain ⟨m0, m1, m2, m3, m4⟩ := S2.out.at_a
   have t0 := S2.out.fr_t 0
   have t1 := S2.out.fr_t 1
   have t2 := S2.out.fr_t 2
   have t3 := S2.out.fr_t 3
   have t4 := S2.out.fr_t 4
   have f0 := S2.out.fr_a 0
   have f1 := S2.out.fr_a 1
   have f2 := S2.out.fr_a 2
   have f3 := S2.out.fr_a 3
   have f4 := S2.out.fr_a 4
   go_wp2_with (fail)
   refine (cut_one r [37] w7).mono ?_
   rintro e w8 ⟨rfl, rfl⟩
   have hn' : zaa (tI (c :: r) = if Lib.hasPrefix r [37] = true then (if (numI (Lib.trimPrefix r [37])).1 = true ∧ (numI (Lib.trimPrefix r [37])).2 ≠ 0 then tI2 (c.toNat : Int) (numI (Lib.trimPrefix r [37])).2 ((Lib.trimPrefix r [37]).dropWhile isDg) else none) else tI2 (c.toNat : Int) 0 r) := ⟨hn.out⟩
   have hq : zaa ((Lib.trimPrefix r [37]).length ≤ 1099511627776) := ⟨Nat.le_trans (trim_len _ _) hrl.out⟩
   generalize Lib.trimPrefix r [37] = q at *
   go_upto_if 31 with (fail)
   go_cut [6] from 7 (fun v6 wc => ∃ (b : Bool) (m : Int) (q : List UInt8), v6 = .bool b ∧ zaa (tI (c :: r) = tI2 (c.toNat : Int) m q) ∧ zaa (q.length ≤ 1099511627776) ∧ zaa (ST w wc g1 g2 g4 q ((c.toNat : Int), m, false, 0, 0)))
   case first => as_aux_lemma =>
    cases hp : Lib.hasPrefix r [37] with
    | false =>
     rw [hp] at hn'
     go_wp2
     go_meet
     case rel => exact ⟨_, 0, r, rfl, ⟨hn'.out.trans (if_neg yq21)⟩, hrl, S2⟩
    | true =>
     rw [hp, if_pos rfl] at hn'
     go_upto_region 11 with (fail)
     have S3 := zaa.mk (S2.out.put_s q)
     generalize w8.setCell ⟨g1, 0, none⟩ (.string (bs q)) = w9 at *
     clear hz hf k0 k1 k2 k3 k4 m0 m1 m2 m3 m4 t0 t1 t2 t3 t4 f0 f1 f2 f3 f4
     go_upto_region 12 with ((with_reducible refine (num_calls g1 q w w9 HG.out S3.out.b S3.out.o.1 hq.out S3.out.s).mono ?_; rintro e w10 ⟨v, rfl, hv, hk, hb, kb⟩; have S4 := zaa.mk (S3.out.num hk hb kb); have HV := zaa.mk hv; clear hk hb kb hv; have k1 := S4.out.at_t.2.1; have t1 := S4.out.fr_t 1))
     clear k1 t1
     have S5 := zaa.mk (S4.out.put_t 1 (.int .i64 v) ((c.toNat : Int), v, false, 0, 0) rfl)
     generalize w10.setCell ⟨g4, 1, none⟩ (.int .i64 v) = w11 at *
     clear S4
     obtain ⟨hz, hf⟩ := S5.out.at_s
     obtain ⟨k0, k1, k2, k3, k4⟩ := S5.out.at_t
     obtain ⟨m0, m1, m2, m3, m4⟩ := S5.out.at_a
     have t0 := S5.out.fr_t 0
     have t1 := S5.out.fr_t 1
     have t2 := S5.out.fr_t 2
     have t3 := S5.out.fr_t 3
     have t4 := S5.out.fr_t 4
     have f0 := S5.out.fr_a 0
     have f1 := S5.out.fr_a 1
     have f2 := S5.out.fr_a 2
     have f3 := S5.out.fr_a 3
     have f4 := S5.out.fr_a 4
     cases hb : (numI q).1 with
     | false =>
      have hno : tI (c :: r) = none := hn'.out.trans (if_neg (fun h => by rw [hb] at h; exact absurd h.1 yq21))
      go_wp2
      try simp only [Exit.inBlock, Exit.then]
      refine bodyPost_ret (results_ct rfl _ _ g2 106 (tvA ((c.toNat : Int), v, false, 0, 0)) (0, 0) _ rfl S5.out.end_.1 hu rfl yq10) rfl ?_
      exact TestOut.mk ((c.toNat : Int), v, false, 0, 0) (no_test hno) S5.out.end_.2
     | true =>
      by_cases hv : v = 0
      ·have hno : tI (c :: r) = none := hn'.out.trans (if_neg (fun h => h.2 (by have := HV.out hb; omega)))
       have b0 : (v == 0) = true := beq_iff_eq.2 hv
       clear hv
       go_wp2
       try simp only [Exit.inBlock, Exit.then]
       refine bodyPost_ret (results_ct rfl _ _ g2 106 (tvA ((c.toNat : Int), v, false, 0, 0)) (0, 0) _ rfl S5.out.end_.1 hu rfl yq10) rfl ?_
       exact TestOut.mk ((c.toNat : Int), v, false, 0, 0) (no_test hno) S5.out.end_.2
      have hye : zaa (tI (c :: r) = tI2 (c.toNat : Int) v (q.dropWhile isDg)) := ⟨by rw [HV.out hb]; exact hn'.out.trans (if_pos ⟨hb, by have := HV.out hb; omega⟩)⟩
      have b0 : (v == 0) = false := beq_eq_false_iff_ne.2 hv
      clear hv
      go_wp2
      go_meet
      case rel => exact ⟨_, v, q.dropWhile isDg, rfl, hye, ⟨Nat.le_trans (dw_len _) hq.out⟩, S5⟩
   case rest =>
    clear hz hf k0 k1 k2 k3 k4 m0 m1 m2 m3 m4 t0 t1 t2 t3 t4 f0 f1 f2 f3 f4 S2 hn hn' hq
    obtain ⟨b, m, q, rfl, hn, hq, S2⟩ := hcut
    replace hn : zaa (tI (c :: r) = tI3 (c.toNat : Int) m (Lib.hasPrefix q [33]) (Lib.trimPrefix q [33])) := ⟨hn.out⟩
    replace hq : zaa ((Lib.trimPrefix q [33]).length ≤ 1099511627776) := ⟨Nat.le_trans (trim_len _ _) hq.out⟩
    obtain ⟨hz, hf⟩ := S2.out.at_s
    obtain ⟨k0, k1, k2, k3, k4⟩ := S2.out.at_t
    obtain ⟨m0, m1, m2, m3, m4⟩ := S2.out.at_a
    have t0 := S2.out.fr_t 0
    have t1 := S2.out.fr_t 1
    have t2 := S2.out.fr_t 2
    have t3 := S2.out.fr_t 3
    have t4 := S2.out.fr_t 4
    have f0 := S2.out.fr_a 0
    have f1 := S2.out.fr_a 1
    have f2 := S2.out.fr_a 2
    have f3 := S2.out.fr_a 3
    have f4 := S2.out.fr_a 4
    go_upto_region 15 with ((with_reducible refine (cut_one q [33] wc).mono ?_; rintro e w8 ⟨rfl, rfl⟩))
    generalize Lib.trimPrefix q [33] = q2 at *
    generalize Lib.hasPrefix q [33] = ng at *
    clear hz hf k0 k1 k2 k3 k4 m0 m1 m2 m3 m4 t0 t1 t2 t3 t4 f0 f1 f2 f3 f4
    have S3 := zaa.mk ((S2.out.put_s q2).put_t 2 (.bool ng) ((c.toNat : Int), m, ng, 0, 0) rfl)
    generalize (w8.setCell ⟨g1, 0, none⟩ (.string (bs q2))).setCell ⟨g4, 2, none⟩ (.bool ng) = w9 at *
    clear S2
    obtain ⟨hz, hf⟩ := S3.out.at_s
    obtain ⟨k0, k1, k2, k3, k4⟩ := S3.out.at_t
    obtain ⟨m0, m1, m2, m3, m4⟩ := S3.out.at_a
    have t0 := S3.out.fr_t 0
    have t1 := S3.out.fr_t 1
    have t2 := S3.out.fr_t 2
    have t3 := S3.out.fr_t 3
    have t4 := S3.out.fr_t 4
    have f0 := S3.out.fr_a 0
    have f1 := S3.out.fr_a 1
    have f2 := S3.out.fr_a 2
    have f3 := S3.out.fr_a 3
    have f4 := S3.out.fr_a 4
    go_wp2_with (fail)
    refine (pre_one' q2 [61] w9).mono ?_
    rintro e w10 ⟨rfl, rfl⟩
    cases hp : Lib.hasPrefix q2 [61] with
    | false =>
     have hno : tI (c :: r) = none := hn.out.trans (by unfold tI3; rw [hp]; rfl)
     go_wp2
     try simp only [Exit.inBlock, Exit.then]
     refine bodyPost_ret (results_ct rfl _ _ g2 106 (tvA ((c.toNat : Int), m, ng, 0, 0)) (0, 0) _ rfl S3.out.end_.1 hu rfl yq10) rfl ?_
     exact TestOut.mk ((c.toNat : Int), m, ng, 0, 0) (no_test hno) S3.out.end_.2
    | true =>
     have hl1 := pre_len hp
     have p0 : 0 < (bs q2).size := by rw [bs_size]; omega
     have p1 : (1 ≤ (bs q2).size) = True := eq_true (by rw [bs_size]; omega)
     have e1 : zaa ((bs q2).extract 1 (bs q2).size = bs (q2.drop 1)) := ⟨bs_drop q2 1⟩
     replace hn : zaa (tI (c :: r) = if (numI (q2.drop 1)).1 = true then tI4 (c.toNat : Int) m ng (numI (q2.drop 1)).2 ((q2.drop 1).dropWhile isDg) else none) := ⟨hn.out.trans (by unfold tI3; rw [hp, if_pos rfl])⟩
     replace hq : zaa ((q2.drop 1).length ≤ 1099511627776) := ⟨by have := hq.out; rw [List.length_drop]; omega⟩
     clear hl1
     go_upto_region 18 with (fail)
     rw [e1.out]
     have S4 := zaa.mk (S3.out.put_s (q2.drop 1))
     generalize w10.setCell ⟨g1, 0, none⟩ (.string (bs (q2.drop 1))) = w11 at *
     clear hz hf k0 k1 k2 k3 k4 m0 m1 m2 m3 m4 t0 t1 t2 t3 t4 f0 f1 f2 f3 f4 S3 p0 p1 e1
     generalize q2.drop 1 = q3 at *
     go_upto_region 19 with ((with_reducible refine (num_calls g1 q3 w w11 HG.out S4.out.b S4.out.o.1 hq.out S4.out.s).mono ?_; rintro e w12 ⟨v, rfl, hv, hk, hb, kb⟩; have S5 := zaa.mk (S4.out.num hk hb kb); have HV := zaa.mk hv; clear hk hb kb hv; have k3 := S5.out.at_t.2.2.2.1; have t3 := S5.out.fr_t 3))
     clear k3 t3
     have S6 := zaa.mk (S5.out.put_t 3 (.int .i64 v) ((c.toNat : Int), m, ng, v, 0) rfl)
     generalize w12.setCell ⟨g4, 3, none⟩ (.int .i64 v) = w13 at *
     clear S4 S5
     obtain ⟨hz, hf⟩ := S6.out.at_s
     obtain ⟨k0, k1, k2, k3, k4⟩ := S6.out.at_t
     obtain ⟨m0, m1, m2, m3, m4⟩ := S6.out.at_a
     have t0 := S6.out.fr_t 0
     have t1 := S6.out.fr_t 1
     have t2 := S6.out.fr_t 2
     have t3 := S6.out.fr_t 3
     have t4 := S6.out.fr_t 4
     have f0 := S6.out.fr_a 0
     have f1 := S6.out.fr_a 1
     have f2 := S6.out.fr_a 2
     have f3 := S6.out.fr_a 3
     have f4 := S6.out.fr_a 4
     cases hb : (numI q3).1 with
     | false =>
      have hno : tI (c :: r) = none := hn.out.trans (if_neg (by rw [hb]; simp))
      go_wp2
      try simp only [Exit.inBlock, Exit.then]
      refine bodyPost_ret (results_ct rfl _ _ g2 106 (tvA ((c.toNat : Int), m, ng, v, 0)) (0, 0) _ rfl S6.out.end_.1 hu rfl yq10) rfl ?_
      exact TestOut.mk ((c.toNat : Int), m, ng, v, 0) (no_test hno) S6.out.end_.2
     | true =>
      replace hn : zaa (tI (c :: r) = tI4 (c.toNat : Int) m ng v (q3.dropWhile isDg)) := ⟨by rw [HV.out hb]; exact hn.out.trans (if_pos hb)⟩
      replace hq : zaa ((q3.dropWhile isDg).length ≤ 1099511627776) := ⟨Nat.le_trans (dw_len _) hq.out⟩
      clear HV hb
      generalize q3.dropWhile isDg = q4 at *
      go_upto_region 22 with (fail)
      have S7 := zaa.mk (S6.out.put_t 4 (.int .i64 v) ((c.toNat : Int), m, ng, v, v) rfl)
      generalize w13.setCell ⟨g4, 4, none⟩ (.int .i64 v) = w14 at *
      clear hz hf k0 k1 k2 k3 k4 m0 m1 m2 m3 m4 t0 t1 t2 t3 t4 f0 f1 f2 f3 f4 S6
      obtain ⟨hz, hf⟩ := S7.out.at_s
      obtain ⟨k0, k1, k2, k3, k4⟩ := S7.out.at_t
      obtain ⟨m0, m1, m2, m3, m4⟩ := S7.out.at_a
      have t0 := S7.out.fr_t 0
      have t1 := S7.out.fr_t 1
      have t2 := S7.out.fr_t 2
      have t3 := S7.out.fr_t 3
      have t4 := S7.out.fr_t 4
      have f0 := S7.out.fr_a 0
      have f1 := S7.out.fr_a 1
      have f2 := S7.out.fr_a 2
      have f3 := S7.out.fr_a 3
      have f4 := S7.out.fr_a 4
      have hn' : zaa (tI (c :: r) = if Lib.hasPrefix q4 [46, 46] = true then (if (numI (Lib.trimPrefix q4 [46, 46])).1 = true then tI5 (c.toNat : Int) m ng v (numI (Lib.trimPrefix q4 [46, 46])).2 ((Lib.trimPrefix q4 [46, 46]).dropWhile isDg) else none) else tI5 (c.toNat : Int) m ng v v q4) := ⟨hn.out⟩
      replace hq : zaa ((Lib.trimPrefix q4 [46, 46]).length ≤ 1099511627776) := ⟨Nat.le_trans (trim_len _ _) hq.out⟩
      go_upto_if 76 with ((with_reducible refine (cut_one q4 [46, 46] w14).mono ?_; rintro e w15 ⟨rfl, rfl⟩))
      generalize Lib.trimPrefix q4 [46, 46] = q5 at *
      go_cut [] from 6 (fun wc => ∃ (hi : Int) (q : List UInt8), zaa (tI (c :: r) = tI5 (c.toNat : Int) m ng v hi q) ∧ zaa (ST w wc g1 g2 g4 q ((c.toNat : Int), m, ng, v, hi)))
      case first => as_aux_lemma =>
       cases hp : Lib.hasPrefix q4 [46, 46] with
       | false =>
        rw [hp] at hn'
        go_wp2
        go_meet
        case rel => exact ⟨v, q4, ⟨hn'.out.trans (if_neg yq21)⟩, S7⟩
       | true =>
        rw [hp, if_pos rfl] at hn'
        go_upto_region 25 with (fail)
        have S8 := zaa.mk (S7.out.put_s q5)
        generalize w15.setCell ⟨g1, 0, none⟩ (.string (bs q5)) = w16 at *
        clear hz hf k0 k1 k2 k3 k4 m0 m1 m2 m3 m4 t0 t1 t2 t3 t4 f0 f1 f2 f3 f4 S7
        go_upto_region 26 with ((with_reducible refine (num_calls g1 q5 w w16 HG.out S8.out.b S8.out.o.1 hq.out S8.out.s).mono ?_; rintro e w17 ⟨v2, rfl, hv, hk, hb, kb⟩; have S9 := zaa.mk (S8.out.num hk hb kb); have HV := zaa.mk hv; clear hk hb kb hv; have k4 := S9.out.at_t.2.2.2.2; have t4 := S9.out.fr_t 4))
        clear k4 t4
        have Sa := zaa.mk (S9.out.put_t 4 (.int .i64 v2) ((c.toNat : Int), m, ng, v, v2) rfl)
        generalize w17.setCell ⟨g4, 4, none⟩ (.int .i64 v2) = w18 at *
        clear S8 S9
        obtain ⟨hz, hf⟩ := Sa.out.at_s
        obtain ⟨k0, k1, k2, k3, k4⟩ := Sa.out.at_t
        obtain ⟨m0, m1, m2, m3, m4⟩ := Sa.out.at_a
        have t0 := Sa.out.fr_t 0
        have t1 := Sa.out.fr_t 1
        have t2 := Sa.out.fr_t 2
        have t3 := Sa.out.fr_t 3
        have t4 := Sa.out.fr_t 4
        have f0 := Sa.out.fr_a 0
        have f1 := Sa.out.fr_a 1
        have f2 := Sa.out.fr_a 2
        have f3 := Sa.out.fr_a 3
        have f4 := Sa.out.fr_a 4
        cases hb : (numI q5).1 with
        | false =>
         have hno : tI (c :: r) = none := hn'.out.trans (if_neg (by rw [hb]; simp))
         go_wp2
         try simp only [Exit.inBlock, Exit.then]
         refine bodyPost_ret (results_ct rfl _ _ g2 106 (tvA ((c.toNat : Int), m, ng, v, v2)) (0, 0) _ rfl Sa.out.end_.1 hu rfl yq10) rfl ?_
         exact TestOut.mk ((c.toNat : Int), m, ng, v, v2) (no_test hno) Sa.out.end_.2
        | true =>
         have hye : zaa (tI (c :: r) = tI5 (c.toNat : Int) m ng v v2 (q5.dropWhile isDg)) := ⟨by rw [HV.out hb]; exact hn'.out.trans (if_pos hb)⟩
         go_wp2
         go_meet
         case rel => exact ⟨v2, q5.dropWhile isDg, hye, Sa⟩
      case rest =>
       clear hz hf k0 k1 k2 k3 k4 m0 m1 m2 m3 m4 t0 t1 t2 t3 t4 f0 f1 f2 f3 f4 S7 hn hn' hq
       obtain ⟨hi, q, hn, S7⟩ := hcut
       obtain ⟨hz, hf⟩ := S7.out.at_s
       obtain ⟨k0, k1, k2, k3, k4⟩ := S7.out.at_t
       obtain ⟨m0, m1, m2, m3, m4⟩ := S7.out.at_a
       have t0 := S7.out.fr_t 0
       have t1 := S7.out.fr_t 1
       have t2 := S7.out.fr_t 2
       have t3 := S7.out.fr_t 3
       have t4 := S7.out.fr_t 4
       have f0 := S7.out.fr_a 0
       have f1 := S7.out.fr_a 1
       have f2 := S7.out.fr_a 2
       have f3 := S7.out.fr_a 3
       have f4 := S7.out.fr_a 4
       cases q with
       | nil =>
        have e0 := emp_nil
        have hye : tI (c :: r) = some ((c.toNat : Int), m, ng, v, hi) := hn.out
        go_wp2
        refine start_ (n := 5) (S := fun w' => w'.cell? ⟨g4, 0, none⟩ = some (.int .u8 (c.toNat : Int)) ∧ w'.cell? ⟨g4, 1, none⟩ = some (.int .i64 m) ∧ w'.cell? ⟨g4, 2, none⟩ = some (.bool ng) ∧ w'.cell? ⟨g4, 3, none⟩ = some (.int .i64 v) ∧ w'.cell? ⟨g4, 4, none⟩ = some (.int .i64 hi) ∧ w'.cell? ⟨g1, 0, none⟩ = some (.string (bs []))) (ds := []) #[false, false, false, false, false] yq10 rfl rfl ⟨k0, k1, k2, k3, k4, hz⟩ (fun hHeld => ?_)
        have S8 := zaa.mk S7.out.drew
        generalize wc.drew = w8 at S8 hHeld ⊢
        refine take_ (i := 0) (N := some 87) (v := ?_) (a' := ?_) #[true, false, false, false, false] rfl rfl yq10 (fun _ _ _ h => h) (Or.inl ⟨yq30, ?_⟩) hHeld ?_ ?_
        rotate_left
        ·rintro w' ⟨z0, z1, z2, z3, z4, z5⟩
         go_simp
         with_reducible rfl
        rotate_left
        ·simp only [Act.put, List.setIfInBounds_toArray, List.set_cons_zero, List.set_cons_succ, zaE, zaH]
         rfl
        refine take_ (i := 1) (N := some 88) (v := ?_) (a' := ?_) #[true, true, false, false, false] rfl rfl yq10 (fun _ _ _ h => h) (Or.inl ⟨yq30, ?_⟩) hHeld ?_ ?_
        rotate_left
        ·rintro w' ⟨z0, z1, z2, z3, z4, z5⟩
         go_simp
         with_reducible rfl
        rotate_left
        ·simp only [Act.put, List.setIfInBounds_toArray, List.set_cons_zero, List.set_cons_succ, zaE, zaH]
         rfl
        refine pure_ (i := 2) (N := some 89) (v := ?_) (a' := ?_) #[true, true, true, false, false] rfl rfl yq10 (fun _ _ _ h => h) (Or.inl ⟨yq30, ?_⟩) ?_ ?_
        rotate_left
        ·intro w'
         go_simp
         with_reducible rfl
        rotate_left
        ·simp only [Act.put, List.setIfInBounds_toArray, List.set_cons_zero, List.set_cons_succ, zaE, zaH]
         rfl
        refine one_ (i := 3) (N := none) #[true, true, true, true, false] rfl rfl yq10 yq38 (fun K hK => ?_)
        clear hz hf k0 k1 k2 k3 k4 m0 m1 m2 m3 m4 t0 t1 t2 t3 t4 f0 f1 f2 f3 f4
        obtain ⟨hz, hf⟩ := S8.out.at_s
        obtain ⟨k0, k1, k2, k3, k4⟩ := S8.out.at_t
        obtain ⟨m0, m1, m2, m3, m4⟩ := S8.out.at_a
        have t0 := S8.out.fr_t 0
        have t1 := S8.out.fr_t 1
        have t2 := S8.out.fr_t 2
        have t3 := S8.out.fr_t 3
        have t4 := S8.out.fr_t 4
        have f0 := S8.out.fr_a 0
        have f1 := S8.out.fr_a 1
        have f2 := S8.out.fr_a 2
        have f3 := S8.out.fr_a 3
        have f4 := S8.out.fr_a 4
        refine skip_ (w1 := ?_) yq30 rfl ?_ ?_
        rotate_left
        ·go_simp
         rfl
        refine hK.out _ _ ⟨(zal S8.out.aft.2 0).trans rfl, (zal S8.out.aft.2 1).trans rfl, (zal S8.out.aft.2 2).trans rfl, (zal S8.out.aft.2 3).trans rfl, (zal S8.out.aft.2 4).trans rfl, (zal S8.out.aft.1 0).trans rfl⟩ (fun hHeld2 => ?_)
        clear hK K hHeld
        refine pure_ (i := 4) (N := some 3) (v := ?_) (a' := ?_) #[true, true, true, true, true] rfl rfl yq10 (fun _ _ _ h => h) (Or.inl ⟨yq30, ?_⟩) ?_ ?_
        rotate_left
        ·intro w'
         go_simp
         with_reducible rfl
        rotate_left
        ·simp only [Act.put, List.setIfInBounds_toArray, List.set_cons_zero, List.set_cons_succ, zaE, zaH]
         rfl
        refine done_ yq10 ?_
        go_wp2
        try simp only [Exit.inBlock, Exit.then]
        refine bodyPost_ret (results_ct rfl _ _ g2 106 (tvA ((c.toNat : Int), m, ng, v, hi)) (0, 0) _ rfl S8.out.end_.1 hu rfl yq10) rfl ?_
        exact TestOut.mk ((c.toNat : Int), m, ng, v, hi) (is_test hye) S8.out.end_.2
       | cons c2 q2 =>
        have e0 := emp_cons c2 q2
        have hno : tI (c :: r) = none := hn.out
        go_wp2
        refine start_ (n := 5) (S := fun w' => w'.cell? ⟨g4, 0, none⟩ = some (.int .u8 (c.toNat : Int)) ∧ w'.cell? ⟨g4, 1, none⟩ = some (.int .i64 m) ∧ w'.cell? ⟨g4, 2, none⟩ = some (.bool ng) ∧ w'.cell? ⟨g4, 3, none⟩ = some (.int .i64 v) ∧ w'.cell? ⟨g4, 4, none⟩ = some (.int .i64 hi) ∧ w'.cell? ⟨g1, 0, none⟩ = some (.string (bs (c2 :: q2)))) (ds := []) #[false, false, false, false, false] yq10 rfl rfl ⟨k0, k1, k2, k3, k4, hz⟩ (fun hHeld => ?_)
        have S8 := zaa.mk S7.out.drew
        generalize wc.drew = w8 at S8 hHeld ⊢
        refine take_ (i := 0) (N := some 87) (v := ?_) (a' := ?_) #[true, false, false, false, false] rfl rfl yq10 (fun _ _ _ h => h) (Or.inl ⟨yq30, ?_⟩) hHeld ?_ ?_
        rotate_left
        ·rintro w' ⟨z0, z1, z2, z3, z4, z5⟩
         go_simp
         with_reducible rfl
        rotate_left
        ·simp only [Act.put, List.setIfInBounds_toArray, List.set_cons_zero, List.set_cons_succ, zaE, zaH]
         rfl
        refine take_ (i := 1) (N := some 88) (v := ?_) (a' := ?_) #[true, true, false, false, false] rfl rfl yq10 (fun _ _ _ h => h) (Or.inl ⟨yq30, ?_⟩) hHeld ?_ ?_
        rotate_left
        ·rintro w' ⟨z0, z1, z2, z3, z4, z5⟩
         go_simp
         with_reducible rfl
        rotate_left
        ·simp only [Act.put, List.setIfInBounds_toArray, List.set_cons_zero, List.set_cons_succ, zaE, zaH]
         rfl
        refine pure_ (i := 2) (N := some 89) (v := ?_) (a' := ?_) #[true, true, true, false, false] rfl rfl yq10 (fun _ _ _ h => h) (Or.inl ⟨yq30, ?_⟩) ?_ ?_
        rotate_left
        ·intro w'
         go_simp
         with_reducible rfl
        rotate_left
        ·simp only [Act.put, List.setIfInBounds_toArray, List.set_cons_zero, List.set_cons_succ, zaE, zaH]
         rfl
        refine one_ (i := 3) (N := none) #[true, true, true, true, false] rfl rfl yq10 yq38 (fun K hK => ?_)
        clear hz hf k0 k1 k2 k3 k4 m0 m1 m2 m3 m4 t0 t1 t2 t3 t4 f0 f1 f2 f3 f4
        obtain ⟨hz, hf⟩ := S8.out.at_s
        obtain ⟨k0, k1, k2, k3, k4⟩ := S8.out.at_t
        obtain ⟨m0, m1, m2, m3, m4⟩ := S8.out.at_a
        have t0 := S8.out.fr_t 0
        have t1 := S8.out.fr_t 1
        have t2 := S8.out.fr_t 2
        have t3 := S8.out.fr_t 3
        have t4 := S8.out.fr_t 4
        have f0 := S8.out.fr_a 0
        have f1 := S8.out.fr_a 1
        have f2 := S8.out.fr_a 2
        have f3 := S8.out.fr_a 3
        have f4 := S8.out.fr_a 4
        refine skip_ (w1 := ?_) yq30 rfl ?_ ?_
        rotate_left
        ·go_simp
         rfl
        refine hK.out _ _ ⟨(zal S8.out.aft.2 0).trans rfl, (zal S8.out.aft.2 1).trans rfl, (zal S8.out.aft.2 2).trans rfl, (zal S8.out.aft.2 3).trans rfl, (zal S8.out.aft.2 4).trans rfl, (zal S8.out.aft.1 0).trans rfl⟩ (fun hHeld2 => ?_)
        clear hK K hHeld
        refine pure_ (i := 4) (N := some 3) (v := ?_) (a' := ?_) #[true, true, true, true, true] rfl rfl yq10 (fun _ _ _ h => h) (Or.inl ⟨yq30, ?_⟩) ?_ ?_
        rotate_left
        ·intro w'
         go_simp
         with_reducible rfl
        rotate_left
        ·simp only [Act.put, List.setIfInBounds_toArray, List.set_cons_zero, List.set_cons_succ, zaE, zaH]
         rfl
        refine done_ yq10 ?_
        go_wp2
        try simp only [Exit.inBlock, Exit.then]
        refine bodyPost_ret (results_ct rfl _ _ g2 106 (tvA ((c.toNat : Int), m, ng, v, hi)) (0, 0) _ rfl S8.out.end_.1 hu rfl yq10) rfl ?_
        exact TestOut.mk ((c.toNat : Int), m, ng, v, hi) (no_test hno) S8.out.end_.2
end Go.Proofs.YtfafjbolmeimmaaGreatDoor.P
