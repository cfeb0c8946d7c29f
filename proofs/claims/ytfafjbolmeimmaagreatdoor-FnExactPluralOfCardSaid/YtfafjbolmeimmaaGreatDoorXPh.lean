/- Whether a test holds: the reference's and the program's holds, walked; both come to one plain word. -/
import Derived.Test.YtfafjbolmeimmaaGreatDoorAb
import Derived.Test.YtfafjbolmeimmaaGreatDoorF8
import Derived.Test.YtfafjbolmeimmaaGreatDoorF10
import Derived.Test.YtfafjbolmeimmaaGreatDoorF5
import Derived.Deep.CutBlock
import Derived.Deep.QuietTactic
import Derived.BigQuiet
namespace Go.Proofs.YtfafjbolmeimmaaGreatDoor.P
open Go.RowKit Go.Proofs.YtfafjbolmeimmaaGreatDoorW.PrintWords Go.Proofs.YtfafjbolmeimmaaGreatDoorW.PrintLast Go.Proofs.YtfafjbolmeimmaaGreatDoorW.PrintMore
set_option linter.unusedVariables false
set_option linter.unusedSimpArgs false
def hX (c i f v : Int) : Int := if c = 102 then f else if c = 118 then v else i
def hY (c m i f v : Int) : Int := if 0 < m then hX c i f v % m else hX c i f v
def hB (c m : Int) (n : Bool) (lo hi i f v : Int) : Bool := if c = 110 ∧ 0 < f then n else (decide (lo ≤ hY c m i f v) && decide (hY c m i f v ≤ hi)) != n
def hOk (m lo hi : Int) : Prop := (0 ≤ m ∧ m ≤ 1000000) ∧ (0 ≤ lo ∧ lo ≤ 1000000) ∧ 0 ≤ hi ∧ hi ≤ 1000000
theorem u64s {x : Int} (h0 : 0 ≤ x) (h1 : x ≤ 1000000) : IntKind.u64.wrap x = x := by
 unfold IntKind.wrap
 simp [IntKind.bits, IntKind.signed]
 omega
set_option maxHeartbeats 4000000 in
set_option maxRecDepth 100000 in
theorem sh_calls (c m lo hi : Int) (n : Bool) (wh pt : ByteArray) (i f : Int) (k : Nat) (hk : hOk m lo hi) (h1 : za5.f k wh = some i) (h2 : za5.f k pt = some f) (hp : pt.size ≤ 9) (hi0 : 0 ≤ i) (hf0 : 0 ≤ f) (w : World) :
  Calls Tryz.prog 90 #[.agg #[.int .u8 c, .int .i64 m, .bool n, .int .i64 lo, .int .i64 hi], .string wh, .string pt] w fun e w' => e = .returned (.bool (hB c m n lo hi i f pt.size)) ∧ Below w.heap.size w w' := by
 have H1 := zaa.mk h1; have H2 := zaa.mk h2
 have um : IntKind.u64.wrap m = m := u64s hk.1.1 hk.1.2
 have ul : IntKind.u64.wrap lo = lo := u64s hk.2.1.1 hk.2.1.2
 have uh : IntKind.u64.wrap hi = hi := u64s hk.2.2.1 hk.2.2.2
 have up : IntKind.u64.wrap (pt.size : Int) = (pt.size : Int) := u64s yq10 yq10
 obtain ⟨v, hv⟩ : ∃ v : Int, (pt.size : Int) = v := ⟨_, rfl⟩
 rw [hv] at up ⊢
 have HT := zaa.mk (And.intro (Int.tmod_eq_emod_of_nonneg (b := m) hi0) (And.intro (Int.tmod_eq_emod_of_nonneg (b := m) hf0) (show v.tmod m = v % m from Int.tmod_eq_emod_of_nonneg yq10)))
 clear h1 h2 hk hp hi0 hf0
 go_enter Tryz.func90, Tryz.ntmps90
 have B1 : zaa (∀ w1, Calls Tryz.prog 114 #[.string wh] w1 fun e w' => e = .returned (.int .u64 i) ∧ Below w1.heap.size w1 w') := ⟨fun w1 => (za5.calls k wh i w1 H1.out).mono fun _ _ h => ⟨h.1, drawn_bl h.2⟩⟩
 have B2 : zaa (∀ w1, Calls Tryz.prog 114 #[.string pt] w1 fun e w' => e = .returned (.int .u64 f) ∧ Below w1.heap.size w1 w') := ⟨fun w1 => (za5.calls k pt f w1 H2.out).mono fun _ _ h => ⟨h.1, drawn_bl h.2⟩⟩
 go_upto_region 3 with (first
  | ((with_reducible refine zaF (N := 3) rfl ?_); refine zaO ?hg (N := 3) ?hd (cs := #[.int .u8 c, .int .i64 m, .bool n, .int .i64 lo, .int .i64 hi]) (t := 102) ?hr ?_; (case hd => rfl); (case hg => rfl); (case hr => first | (go_simp; done) | (go_simp; rfl)); intro g hg wb hbox hb; have BK := zaa.mk hbox; have HB := zaa.mk hb; clear hb hbox hg)
  | ((with_reducible refine (B1.out _).mono ?_); rintro e w1 ⟨rfl, hb⟩; have BK1 := zaa.mk (zaH BK.out hb); have HB1 := zaa.mk (zam HB.out hb); clear hb BK HB B1)
  | ((with_reducible refine (B2.out _).mono ?_); rintro e w2 ⟨rfl, hb⟩; have BK2 := zaa.mk (zaH BK1.out hb); have HB2 := zaa.mk (zam HB1.out hb); clear hb BK1 HB1 B2)
  | fail)
 have z0 := (zah BK2.out 0).trans rfl
 have z1 := (zah BK2.out 1).trans rfl
 have z2 := (zah BK2.out 2).trans rfl
 have z3 := (zah BK2.out 3).trans rfl
 have z4 := (zah BK2.out 4).trans rfl
 go_wp2
 all_goals go_ret
 all_goals
  clear z0 z1 z2 z3 z4 H1 H2 um ul uh up hv
  refine ⟨?_, HB2.out⟩
  refine congrArg (fun b => Ending.returned (.bool b)) ?_
  clear BK2 HB2
  obtain ⟨t1, t2, t3⟩ := HT.out
  try simp only [t1, t2, t3] at *
  clear t1 t2 t3 HT
  unfold hB hY hX
  simp_all
  try (
   try rw [if_neg (show ¬ 0 < f by omega)]
   try simp only [if_neg (show ¬ 0 < m by omega)]
   first
    | (have hn := Int.not_le.mpr (by assumption : _ < lo); simp [hn]; done)
    | grind)
set_option maxHeartbeats 4000000 in
set_option maxRecDepth 100000 in
theorem ih_calls (c m lo hi : Int) (n : Bool) (num p : Int) (hk : hOk m lo hi) (hn : -9223372036854775808 ≤ num ∧ num ≤ 9223372036854775807) (hp : 0 ≤ p ∧ p ≤ 9) (i f : Int) (ei : i = ((num.natAbs / 10 ^ p.toNat : Nat) : Int)) (ef : f = ((num.natAbs % 10 ^ p.toNat : Nat) : Int)) (w : World) :
  Calls Tryz.prog 93 #[.agg #[.int .u8 c, .int .i64 m, .bool n, .int .i64 lo, .int .i64 hi], .int .i64 num, .int .i64 p] w fun e w' => e = .returned (.bool (hB c m n lo hi i f p)) ∧ Below w.heap.size w w' := by
 have um : IntKind.u64.wrap m = m := u64s hk.1.1 hk.1.2
 have ul : IntKind.u64.wrap lo = lo := u64s hk.2.1.1 hk.2.1.2
 have uh : IntKind.u64.wrap hi = hi := u64s hk.2.2.1 hk.2.2.2
 have up : IntKind.u64.wrap p = p := u64s yq10 yq10
 obtain ⟨M, hM⟩ : ∃ M : Int, M = (num.natAbs : Int) := ⟨_, rfl⟩
 have HM := zaa.mk (And.intro hM (And.intro ei ef))
 have HN := zaa.mk hn
 have H1 : zaa (∀ w1, Calls Tryz.prog 116 #[.int .i64 num] w1 fun e w' => e = .returned (.int .u64 M) ∧ Below w1.heap.size w1 w') := ⟨fun w1 => (impl_magnitude.calls num _ w1 (by
  rw [hM]
  unfold impl_magnitude.f IntKind.wrap
  simp only [IntKind.bits, IntKind.signed]
  split <;> (simp; omega))).mono fun _ _ h => ⟨h.1, drawn_bl h.2⟩⟩
 have HP := zaa.mk hp; clear hk hn hp ei ef hM
 go_enter Tryz.func93, Tryz.ntmps93
 go_wp2_with (first
  | ((with_reducible refine zaF (N := 3) rfl ?_); refine zaO ?hg (N := 3) ?hd (cs := #[.int .u8 c, .int .i64 m, .bool n, .int .i64 lo, .int .i64 hi]) (t := 106) ?hr ?_; (case hd => rfl); (case hg => rfl); (case hr => first | (go_simp; done) | (go_simp; rfl)); intro g hg wb hbox hb; have BK := zaa.mk hbox; have HB := zaa.mk hb; clear hb hbox hg)
  | fail)
 go_loopg [7, 13] (11) (fun gk v7 v13 wr => ∃ (x t : Int) (j : Nat), v7 = .int .u64 t ∧ v13 = .int .i64 x ∧ zaa (x = (j : Int) ∧ t = ((10 ^ j : Nat) : Int) ∧ j ≤ p.toNat ∧ 11 ≤ gk + j) ∧ zaa (wr.heap[g]? = some (.cells #[.int .u8 c, .int .i64 m, .bool n, .int .i64 lo, .int .i64 hi] 106 (0, 0))) ∧ zaa (Below w.heap.size w wr))
 case atStart => exact ⟨0, 1, 0, rfl, rfl, ⟨rfl, rfl, Nat.zero_le _, Nat.le_refl _⟩, BK, HB⟩
 case round =>
  clear BK HB
  obtain ⟨x, t, j, rfl, rfl, HJ, BK, HB⟩ := hrel
  cases gk with
  | zero => exact absurd HJ.out.2.2.2 (by have := HJ.out.2.2.1; have := HP.out; omega)
  | succ k1 =>
   by_cases hlt : x < p
   ·have g1 : decide (x < p) = true := decide_eq_true hlt
    have HL : zaa (j + 1 ≤ p.toNat) := ⟨yq23 HJ.out⟩
    clear hlt
    go_wp2
    go_roundg k1
    case measure => have := HJ.out; have := HL.out; have := HP.out; omega
    case rel =>
     refine ⟨_, _, j + 1, rfl, rfl, ⟨?_, ?_, HL.out, yq23 HJ.out⟩, BK, HB⟩
     ·rw [HJ.out.1]; show wrap64 _ = _; rw [w64 yq10 (yq25 HL.out HP.out)]; omega
     have h9 : 10 ^ (j + 1) ≤ 10 ^ 9 := Nat.pow_le_pow_right yq41 (yq25 HL.out HP.out)
     have e9 : (10 : Nat) ^ 9 = 1000000000 := by decide
     have h8 : 10 ^ j * 10 ≤ 10 ^ 9 := by rw [← Nat.pow_succ]; exact h9
     rw [HJ.out.2.1, Nat.pow_succ]
     clear h9
     generalize 10 ^ j = q at h8 ⊢
     unfold IntKind.wrap
     simp only [IntKind.bits, IntKind.signed]
     simp
     omega
   have g1 : decide (x < p) = false := decide_eq_false hlt
   have ht : t = ((10 ^ p.toNat : Nat) : Int) := by rw [HJ.out.2.1, show j = p.toNat by have := HJ.out; omega]
   have h0 : 0 < t := by rw [ht]; exact Int.natCast_pos.2 (Nat.pow_pos yq41)
   have h1 : ¬ t = 0 := by omega
   have b1 : (t == 0) = false := beq_eq_false_iff_ne.2 h1
   have q1 : M.tdiv t = i := by rw [HM.out.1, HM.out.2.1, ht]; rfl
   have q2 : M.tmod t = f := by rw [HM.out.1, HM.out.2.2, ht]; rfl
   have HT0 : zaa (0 ≤ i ∧ 0 ≤ f) := ⟨by rw [HM.out.2.1, HM.out.2.2]; exact ⟨Int.natCast_nonneg _, Int.natCast_nonneg _⟩⟩
   have u1 : IntKind.u64.wrap i = i := by
    have h5 : i ≤ M := by rw [HM.out.2.1, HM.out.1]; exact Int.ofNat_le.2 (Nat.div_le_self _ _)
    have h6 := HM.out.1
    have h7 := HN.out
    have h8 := HT0.out.1
    clear q1 q2 ht
    unfold IntKind.wrap
    simp [IntKind.bits, IntKind.signed]
    omega
   have HT : zaa (i.tmod m = i % m ∧ f.tmod m = f % m ∧ p.tmod m = p % m) := ⟨Int.tmod_eq_emod_of_nonneg HT0.out.1, Int.tmod_eq_emod_of_nonneg HT0.out.2, Int.tmod_eq_emod_of_nonneg HP.out.1⟩
   clear ht h0 hlt HJ
   go_upto_region 7 with (first
    | ((with_reducible refine (H1.out _).mono ?_); rintro e w2 ⟨rfl, hb⟩; have BK2 := zaa.mk (zaH BK.out hb); have HB2 := zaa.mk (zam HB.out hb); clear hb BK HB H1)
    | fail)
   go_quiet (fail)
   have BK3 := zaa.mk (zak BK2.out nq)
   have HB3 := zaa.mk (zab HB2.out nq)
   generalize w2.drewN nq = w3 at BK3 HB3 ⊢
   have z0 := (zah BK3.out 0).trans rfl
   have z1 := (zah BK3.out 1).trans rfl
   have z2 := (zah BK3.out 2).trans rfl
   have z3 := (zah BK3.out 3).trans rfl
   have z4 := (zah BK3.out 4).trans rfl
   clear g1 h1 b1 q1 q2 u1
   go_wp2
   all_goals (first | go_ret2 | go_ret)
   all_goals
    clear z0 z1 z2 z3 z4 um ul uh up
    refine ⟨?_, HB3.out⟩
    clear HM HN HT0 HP
    refine congrArg (fun b => Ending.returned (.bool b)) ?_
    clear BK2 HB2 BK3 HB3
    obtain ⟨t1, t2, t3⟩ := HT.out
    try simp only [t1, t2, t3] at *
    clear t1 t2 t3 HT
    unfold hB hY hX
    simp_all
    try (
     try rw [if_neg (show ¬ 0 < f by omega)]
     try simp only [if_neg (show ¬ 0 < m by omega)]
     first
      | (have hn := Int.not_le.mpr (by assumption : _ < lo); simp [hn]; done)
      | grind)
end Go.Proofs.YtfafjbolmeimmaaGreatDoor.P
