/- Parts of a proof: words of the print tool that this claim uses, or plain lists. -/
import Derived.Test.YtfafjbolmeimmaaGreatDoorAb
import Derived.Test.YtfafjbolmeimmaaGreatDoorF15
import Derived.Test.YtfafjbolmeimmaaGreatDoorJ16
namespace Go.Proofs.YtfafjbolmeimmaaGreatDoor.P
open Go.RowKit Go.Proofs.YtfafjbolmeimmaaGreatDoorW.PrintWords Go.Proofs.YtfafjbolmeimmaaGreatDoorW.PrintLast Go.Proofs.YtfafjbolmeimmaaGreatDoorW.PrintMore
set_option linter.unusedVariables false
set_option linter.unusedSimpArgs false
def impl_RuleFault.f (a0 : ByteArray) : Option Int := if a0.size ≤ 1099511627776 then some (if (whenI a0.data.toList).isSome = true then 0 else 1) else none
set_option maxHeartbeats 4000000 in
theorem impl_RuleFault.calls (a0 : ByteArray) (r : Int) (w : World) (hG : GT w) (h : impl_RuleFault.f a0 = some r) :
  Calls Tryz.prog 47 #[.string a0] w fun e w' => e = .returned (.int .i64 r) ∧ Below w.heap.size w w' := by
 unfold impl_RuleFault.f at h
 split at h
 case isFalse => cases h
 rename_i hs
 have hr := Option.some.inj h
 have HW := zaa.mk (when_calls a0.data.toList w hG (show a0.data.toList.length ≤ _ from by rw [Array.length_toList]; exact hs))
 rw [bs_self] at HW
 clear h hs hG
 go_enter Tryz.func47, Tryz.ntmps47
 go_wp2_with (fail)
 refine HW.out.mono ?_
 rintro e w1 ⟨v, rfl, hR, hb⟩
 have HB := zaa.mk hb; clear hR hb HW
 cases hw : (whenI a0.data.toList).isSome with
 | true =>
  rw [hw, if_pos rfl] at hr
  subst hr
  go_wp2
  go_ret
  exact ⟨rfl, HB.out⟩
 | false =>
  rw [hw, if_neg yq21] at hr
  subst hr
  go_wp2
  go_ret
  exact ⟨rfl, HB.out⟩
end Go.Proofs.YtfafjbolmeimmaaGreatDoor.P
namespace Go.Proofs.YtfafjbolmeimmaaGreatDoor.P
open Go.RowKit Go.Proofs.YtfafjbolmeimmaaGreatDoorW.PrintWords Go.Proofs.YtfafjbolmeimmaaGreatDoorW.PrintLast Go.Proofs.YtfafjbolmeimmaaGreatDoorW.PrintMore
set_option linter.unusedVariables false
set_option linter.unusedSimpArgs false
def afterR : List UInt8 → Bool
 | [] => true
 | c :: q => if isSep c = true then pRule q else false
def restR : List UInt8 → Bool
 | [] => true
 | c :: q => if c = 124 then pRule q else false
theorem rule_after {l q : List UInt8} (h : pTest l = some q) : pRule l = afterR q := by
 cases q with
 | nil => rw [pRule_end h]; rfl
 | cons c r =>
  show _ = if isSep c = true then pRule r else false
  rw [pRule]
  split
  ·rename_i h2; rw [h] at h2; cases h2
  ·rename_i h2; rw [h] at h2; cases h2
  rename_i h2; rw [h] at h2; cases h2; rfl
theorem after_take (r : List UInt8) : ((pOpt 38 r).1 = true → afterR r = pRule (pOpt 38 r).2) ∧ ((pOpt 38 r).1 = false → afterR r = restR (pOpt 38 r).2) := by
 cases r with
 | nil => exact ⟨fun h => by (cases h), fun _ => rfl⟩
 | cons c q =>
  have e : pOpt 38 (c :: q) = if c = 38 then (true, q) else (false, c :: q) := rfl
  rw [e]
  by_cases h : c = 38
  ·subst h
   exact ⟨fun _ => rfl, fun h => by (cases h)⟩
  rw [if_neg h]
  refine ⟨fun h => by (cases h), fun _ => ?_⟩
  show (if isSep c = true then pRule q else false) = if c = 124 then pRule q else false
  by_cases h2 : c = 124
  ·subst h2; rfl
  have : isSep c = false := by unfold isSep; rw [beq_eq_false_iff_ne.2 h, beq_eq_false_iff_ne.2 h2]; rfl
  rw [this, if_neg yq21, if_neg h2]
theorem rest_take (r : List UInt8) : ((pOpt 124 r).1 = true → restR r = pRule (pOpt 124 r).2) ∧ ((pOpt 124 r).1 = false → restR r = (pOpt 124 r).2.isEmpty) := by
 cases r with
 | nil => exact ⟨fun h => by (cases h), fun _ => rfl⟩
 | cons c q =>
  have e : pOpt 124 (c :: q) = if c = 124 then (true, q) else (false, c :: q) := rfl
  rw [e]
  by_cases h : c = 124
  ·subst h
   exact ⟨fun _ => rfl, fun h => by (cases h)⟩
  rw [if_neg h]
  refine ⟨fun h => by (cases h), fun _ => ?_⟩
  show (if c = 124 then pRule q else false) = false
  rw [if_neg h]
theorem Lb_all (s : ByteArray) : Lb s 0 = s.data.toList := rfl
def Tr (s : ByteArray) (f : List UInt8 → Bool) (lo : Nat) (at_ : Int) (bad : Bool) : Prop :=
 (bad = true → pRule s.data.toList = false) ∧ (bad = false → ∃ i : Nat, at_ = (i : Int) ∧ lo ≤ i ∧ i ≤ s.size ∧ pRule s.data.toList = f (Lb s i))
theorem Tr.test {s : ByteArray} (hs : s.size ≤ 1099511627776) {lo : Nat} {at_ : Int} (h : Tr s pRule lo at_ false) :
  ∃ (k : Nat) (a b : Int) (c : Bool) (d e j : Int) (bad : Bool), zan.f k s at_ false = some (a, b, c, d, e, s, j, bad) ∧ Tr s afterR (at_.toNat + 1) j bad := by
 obtain ⟨i, rfl, h1, h2, h3⟩ := h.2 rfl
 obtain ⟨a, b, c, d, e, j, bad, ⟨k, hk⟩, h4, h5⟩ := test_q s hs i h2
 refine ⟨k, a, b, c, d, e, j, bad, hk k (Nat.le_refl _), fun hb => ?_, fun hb => ?_⟩
 ·cases hp : pTest (Lb s i) with
  | none => rw [h3, pRule_none hp]
  | some q => rw [(h4 q hp).1] at hb; cases hb
 cases hp : pTest (Lb s i) with
 | none => rw [h5 hp] at hb; cases hb
 | some q =>
  obtain ⟨_, i', e1, e2, e3, e4⟩ := h4 q hp
  have hl := pTest_len hp
  rw [← e2, Lb_len, Lb_len] at hl
  exact ⟨i', e1, by rw [Int.toNat_natCast]; omega, e4, by rw [h3, rule_after hp, e2]⟩
theorem Tr.take {s : ByteArray} (hs : s.size ≤ 1099511627776) {lo : Nat} {at_ : Int} {bad : Bool} {f g : List UInt8 → Bool} (b : UInt8) (hfg : ∀ r, ((pOpt b r).1 = true → f r = pRule (pOpt b r).2) ∧ ((pOpt b r).1 = false → f r = g (pOpt b r).2)) (h : Tr s f lo at_ bad) :
  ∃ (on : Bool) (j : Int), zav.f s at_ bad (b.toNat : Int) = some (on, s, j, bad) ∧ Tr s (if on = true then pRule else g) lo j bad := by
 cases bad with
 | true => exact ⟨false, at_, take_b s at_ _, fun _ => h.1 rfl, fun h => by (cases h)⟩
 | false =>
  obtain ⟨i, rfl, h1, h2, h3⟩ := h.2 rfl
  obtain ⟨i', e1, e2, e3, e4⟩ := take_q s hs i h2 b
  refine ⟨(pOpt b (Lb s i)).1, i', e1, fun h => by (cases h), fun _ => ⟨i', rfl, yq9, e4, ?_⟩⟩
  rw [h3, e2]
  cases hb : (pOpt b (Lb s i)).1 with
  | true => rw [if_pos rfl]; exact (hfg _).1 hb
  | false => rw [if_neg yq21]; exact (hfg _).2 hb
end Go.Proofs.YtfafjbolmeimmaaGreatDoor.P
namespace Go.Proofs.YtfafjbolmeimmaaGreatDoor.P
open Go.RowKit Go.Proofs.YtfafjbolmeimmaaGreatDoorW.PrintWords Go.Proofs.YtfafjbolmeimmaaGreatDoorW.PrintLast Go.Proofs.YtfafjbolmeimmaaGreatDoorW.PrintMore
set_option linter.unusedVariables false
set_option linter.unusedSimpArgs false
def dSs : Kd (List TI) := Kd.slice 102 dT
theorem infoS : (Tryz.prog.info? 102).map (fun i => (i.zero, i.size, i.bytes)) = some (some (.agg #[.int .u8 0, .int .i64 0, .bool false, .int .i64 0, .int .i64 0]), 5, 40) := by kernel_rfl
theorem infoSs : (Tryz.prog.info? 100).map (fun i => (i.zero, i.size, i.bytes)) = some (some (.slice none 0 0), 1, 24) := by kernel_rfl
theorem rd_cells {w0 W : World} {g : Nat} {s : ByteArray} {a : Int} {b : Bool} (h : zae w0 W g s a b) : W.cell? ⟨g, 0, none⟩ = some (.string s) ∧ W.cell? ⟨g, 1, none⟩ = some (.int .i64 a) ∧ W.cell? ⟨g, 2, none⟩ = some (.bool b) := ⟨(zal h.1 0).trans rfl, (zal h.1 1).trans rfl, (zal h.1 2).trans rfl⟩
def RuleOut (s : ByteArray) (w : World) (e : Ending) (w' : World) : Prop := ∃ v : Value, e = .returned (.tuple #[v, .bool (pRule s.data.toList && decide (s.size ≤ 200))]) ∧ Below w.heap.size w w'
theorem RuleOut.mk {s : ByteArray} {w w' : World} {e : Ending} {v : Value} {b : Bool} (h : b = (pRule s.data.toList && decide (s.size ≤ 200))) (hb : Below w.heap.size w w') (he : e = .returned (.tuple #[v, .bool b]) := by rfl) : RuleOut s w e w' := ⟨v, h ▸ he, hb⟩
set_option maxHeartbeats 4000000 in
set_option maxRecDepth 100000 in
theorem rule_calls (s : ByteArray) (hs : s.size ≤ 1099511627776) (w : World) :
  Calls Tryz.prog 74 #[.string s] w fun e w' => RuleOut s w e w' := by
 have HS := zaa.mk hs
 have HB0 := zaa.mk (Below.refl w.heap.size w)
 have hu84 := Tryz.underlying119
 clear hs
 go_enter Tryz.func74, Tryz.ntmps74
 go_upto_region 2 with (first | ((with_reducible refine zaU (N := 11) rfl ?_); refine zba ?hg (N := 11) ?hd (cs := #[.string s, .int .i64 0, .bool false]) (t := 119) ?hr ?_; (case hd => rfl); (case hg => rfl); (case hr => first | (go_simp; done) | (go_simp; rfl)); intro g hg wg hbox hb; have HI := zaa.mk (show zae w wg g s 0 false from ⟨hbox, yq9⟩); have HB := zaa.mk (zam HB0.out hb); have HGL := zaa.mk (blk_lt hbox); clear hb hbox hg) | fail)
 go_upto_region 3 with (first | ((with_reducible refine zaU (N := 12) rfl ?_); refine Kd.R_lit dSs (w0 := w) w.heap.size 100 rfl (N := 12) rfl (xs := []) (inner := []) (ok := fun k => wg.heap.size ≤ k) (okp := fun _ => False) ?hr (Reps.none _ _) (fun k hk => hk.elim) ?hf ?hB ?hs yq21 ?_; (case hr => first | (go_simp; done) | (go_simp; rfl)); (case hf => exact Nat.le_refl _); (case hB => exact HB.out); (case hs => exact HB.out.size); intro v_ w2 ho hb hg hat; have HR := zaa.mk ho; have HB2 := zaa.mk hb; have HI2 := zaa.mk (HI.out.grown hg yq21); have HZ := zaa.mk hg.size; clear ho hb hg hat) | fail)
 go_wp2_with (fail)
 go_loopg [5, 6] (s.size + 2) (fun gk v5 v6 wr => ∃ (on : Bool) (at_ : Int) (bad : Bool) (rows : List (List TI)) (lo : Nat), v6 = .bool on ∧ zaa (1 ≤ gk ∧ (on = true → bad = false → s.size - lo + 2 ≤ gk)) ∧ zaa (Tr s (if on = true then pRule else List.isEmpty) lo at_ bad ∧ rows.length ≤ lo) ∧ zaa (zae w wr g s at_ bad) ∧ zaa (dSs.R 100 wr w.heap.size (fun k => wg.heap.size ≤ k) v5 rows) ∧ zaa (Below w.heap.size w wr) ∧ zaa (wg.heap.size ≤ wr.heap.size))
 case atStart => exact ⟨true, 0, false, [], 0, rfl, ⟨yq9, fun _ _ => by omega⟩, ⟨⟨fun h => by (cases h), fun _ => ⟨0, rfl, Nat.le_refl _, Nat.zero_le _, rfl⟩⟩, Nat.le_refl _⟩, HI2, HR, HB2, HZ⟩
 case round =>
  rename World => wo
  obtain ⟨on, at_, bad, rows, lo, rfl, HK1, HT, HI3, HR3, HB3, HZ3⟩ := hrel
  cases gk with
  | zero => exact absurd HK1.out.1 yq9
  | succ k1 =>
   obtain ⟨z0, z1, z2⟩ := rd_cells HI3.out
   cases bad with
   | true =>
    have hp : pRule s.data.toList = false := HT.out.1.1 rfl
    cases on with
    | true =>
     go_wp2
     go_ret2
     exact RuleOut.mk (b := false) (by rw [hp]; rfl) HB3.out
    | false =>
     go_wp2
     go_ret2
     exact RuleOut.mk (b := false) (by rw [hp]; rfl) HB3.out
   | false =>
    cases on with
    | false =>
     obtain ⟨i, hi, _, h2, h3⟩ := HT.out.1.2 rfl
     rw [if_neg yq21] at h3
     have he : (Lb s i).isEmpty = decide (i = s.size) := by
      have hl := Lb_len s i
      cases hL : Lb s i with
      | nil => rw [hL, List.length_nil] at hl; exact (decide_eq_true yq9).symm
      | cons c q => rw [hL, List.length_cons] at hl; exact (decide_eq_false yq9).symm
     rw [he] at h3
     by_cases e1 : i = s.size
     ·have b1 : (at_ == (s.size : Int)) = true := beq_iff_eq.2 yq9
      rw [decide_eq_true e1] at h3
      by_cases e2 : s.size ≤ 200
      ·have b2 : decide ((s.size : Int) ≤ 200) = true := decide_eq_true yq9
       have b3 : decide (s.size ≤ 200) = true := decide_eq_true e2
       have HH := zaa.mk (show true = (pRule s.data.toList && decide (s.size ≤ 200)) by rw [h3, b3]; rfl)
       clear e1 e2 hi h2 h3 he
       go_wp2
       go_ret2
       exact RuleOut.mk HH.out HB3.out
      have b2 : decide ((s.size : Int) ≤ 200) = false := decide_eq_false yq9
      have b3 : decide (s.size ≤ 200) = false := decide_eq_false e2
      have HH := zaa.mk (show false = (pRule s.data.toList && decide (s.size ≤ 200)) by rw [h3, b3]; rfl)
      clear e1 e2 hi h2 h3 he
      go_wp2
      go_ret2
      exact RuleOut.mk HH.out HB3.out
     have b1 : (at_ == (s.size : Int)) = false := beq_eq_false_iff_ne.2 yq9
     rw [decide_eq_false e1] at h3
     have HH := zaa.mk (show false = (pRule s.data.toList && decide (s.size ≤ 200)) by rw [h3]; rfl)
     clear e1 hi h2 h3 he
     go_wp2
     go_ret2
     exact RuleOut.mk HH.out HB3.out
    | true =>
     have HKB : zaa (s.size - lo + 2 ≤ k1 + 1) := ⟨HK1.out.2 rfl rfl⟩
     have HLO : zaa (lo ≤ s.size) := ⟨by obtain ⟨i, _, h1, h2, _⟩ := HT.out.1.2 rfl; omega⟩
     go_upto_region 6 with (fail)
     clear z0 z1 z2
     go_upto_region 7 with (first | ((with_reducible refine zaU (N := 23) rfl ?_); refine Kd.R_lit dT (w0 := w) w.heap.size 102 rfl (N := 23) rfl (xs := []) (inner := []) (ok := fun k => wo.heap.size ≤ k) (okp := fun _ => False) ?hr (Reps.none _ _) (fun k hk => hk.elim) ?hf ?hB ?hs yq21 ?_; (case hr => first | (go_simp; done) | (go_simp; rfl)); (case hf => exact Nat.le_refl _); (case hB => exact HB3.out); (case hs => exact HB3.out.size); intro v_ w_ ho hb hg hat; have HO4 := zaa.mk ho; have HB4 := zaa.mk hb; have HI4 := zaa.mk (HI3.out.grown hg yq21); have HQ4 := zaa.mk (KeepBut.of_grown hg g); clear ho hb hg hat) | fail)
     go_wp2_with (fail)
     go_loopg [7, 8] (s.size + 2) (fun gk v7 v8 wr => ∃ (more : Bool) (at_ : Int) (bad : Bool) (ts : List TI) (lq : Nat), v8 = .bool more ∧ zaa (1 ≤ gk ∧ (more = true → bad = false → s.size - lq + 2 ≤ gk)) ∧ zaa (Tr s (if more = true then pRule else restR) lq at_ bad ∧ ts.length ≤ lq ∧ (¬ (more = true ∧ bad = false) → lo + 1 ≤ lq) ∧ lo ≤ lq) ∧ zaa (zae w wr g s at_ bad) ∧ zaa (dT.R 102 wr w.heap.size (fun k => wo.heap.size ≤ k) v7 ts) ∧ zaa (Below w.heap.size w wr) ∧ zaa (KeepBut wo wr g none))
     case atStart => exact ⟨true, at_, false, [], lo, rfl, ⟨yq9, fun _ _ => by omega⟩, ⟨HT.out.1, Nat.zero_le _, fun h => absurd ⟨rfl, rfl⟩ h, Nat.le_refl _⟩, HI4, HO4, HB4, HQ4⟩
     case round =>
      obtain ⟨more, at2, bad, ts, lq, rfl, HKq, HTq, HI5, HO5, HB5, HQ5⟩ := hrel
      cases gk with
      | zero => exact absurd HKq.out.1 yq9
      | succ k2 =>
       obtain ⟨z0, z1, z2⟩ := rd_cells HI5.out
       cases hmb : (more && !bad) with
       | true =>
        obtain ⟨rfl, rfl⟩ : more = true ∧ bad = false := by (cases more <;> cases bad <;> first | exact ⟨rfl, rfl⟩ | cases hmb)
        have HKC : zaa (s.size - lq + 2 ≤ k2 + 1) := ⟨HKq.out.2 rfl rfl⟩
        obtain ⟨kk, a, b, c, d, f, j, bad, hf, hTt⟩ := Tr.test HS.out HTq.out.1
        obtain ⟨m2, j2, hf2, hT2⟩ := hTt.take HS.out 38 after_take
        have HLQ : zaa (lq ≤ s.size ∧ lq ≤ at2.toNat ∧ at2.toNat ≤ s.size) := ⟨by obtain ⟨i, hi, h1, h2, _⟩ := HTq.out.1.2 rfl; omega⟩
        have HF := zaa.mk hf
        have HF2 : zaa (zav.f s j bad 38 = some (m2, s, j2, bad)) := ⟨hf2⟩
        have HT2 := zaa.mk hT2; clear hf hf2 hTt hT2 hmb
        go_upto_region 10 with (fail)
        clear z0 z1 z2
        go_upto_region 9 with (first | ((with_reducible refine (zan.calls kk g s at2 false a b c d f s j bad w wr HI5.out HB5.out HF.out).mono ?_); rintro e w7 ⟨rfl, hI, hB, hK⟩; have HI7 := zaa.mk hI; have HB7 := zaa.mk hB; have HQ7 := zaa.mk (KeepBut.trans HQ5.out hK (.inl rfl)); have HO7 := zaa.mk (Kd.R_keep HO5.out hK (fun k hk => by have := HGL.out; have := HZ3.out; omega)); clear hI hB hK) | ((with_reducible refine zbs (b := .append) (xs := #[.tmp 34, .tmp 37]) rfl ?_); at_builtin; refine Kd.R_append dT (w0 := w) w.heap.size rfl (.tmp 34) (.tmp 37) 100 102 (.agg #[.int .u8 0, .int .i64 0, .bool false, .int .i64 0, .int .i64 0]) 40 rfl Tryz.underlying100 infoS rfl yq38 yq9 (u7) ts (a, b, c, d, f) [.int .u8 a, .int .i64 b, .bool c, .int .i64 d, .int .i64 f] (fun k => wo.heap.size ≤ k) (fun _ => False) rfl rfl ?aP (fun _ hk => hk.elim) ?aF ?aO ?aB ?aS ?aL ?_; (case aP => exact dT_M _ _ _ (a, b, c, d, f)); (case aB => exact HB7.out); (case aF => exact (fun k hk => by have h9 : wo.heap.size ≤ w7.heap.size := HQ7.out.1; have h8 := hk; show wo.heap.size ≤ k; omega)); (case aO => exact HO7.out); (case aS => exact (zaq HB7.out)); (case aL => have := HS.out; have := HTq.out.2.1; have := HLQ.out; omega); intro v_ w_ ho hb hg hat; have HO8 := zaa.mk ho; have HB8 := zaa.mk hb; have HI8 := zaa.mk (HI7.out.grown hg (fun he => by have h9 : wo.heap.size ≤ g := HO7.out.1 g he.symm; have := HGL.out; have := HZ3.out; omega)); have HQ8 := zaa.mk (KeepBut.trans HQ7.out (KeepBut.of_grown hg g) (by cases hv : (u7 : Value).ownBlock with | none => exact .inl rfl | some q => exact .inr ⟨q, rfl, HO7.out.1 q hv⟩)); clear ho hb hg hat) | fail)
        go_wp2_with (first | ((with_reducible refine (zav.calls g s j bad 38 m2 s j2 bad w w_ HI8.out HB8.out HF2.out).mono ?_); rintro e w9 ⟨rfl, hI, hB, hK⟩; have HI9 := zaa.mk hI; have HB9 := zaa.mk hB; have HQ9 := zaa.mk (KeepBut.trans HQ8.out hK (.inl rfl)); have HO9 := zaa.mk (Kd.R_keep HO8.out hK (fun k hk => by have h9 : wo.heap.size ≤ k := hk; have := HGL.out; have := HZ3.out; omega)); clear hI hB hK) | fail)
        go_roundg k2
        case measure => have := HKq.out; omega
        case rel => exact ⟨m2, j2, bad, ts ++ [(a, b, c, d, f)], at2.toNat + 1, rfl, ⟨yq15 HKC.out, fun hm hb => by have h8 := HKC.out; have h7 := HLQ.out; obtain ⟨i', _, h6, h5, _⟩ := HT2.out.2 hb; omega⟩, ⟨HT2.out, by have := HTq.out.2.1; have := HLQ.out; rw [List.length_append]; show ts.length + 1 ≤ _; omega, fun _ => by have := HTq.out.2.2.2; have := HLQ.out; omega, by have := HTq.out.2.2.2; have := HLQ.out; omega⟩, HI9, HO9, HB9, HQ9⟩
       | false =>
        have hTr : Tr s restR lq at2 bad := by
         cases bad with
         | true => exact ⟨HTq.out.1.1, fun h => by (cases h)⟩
         | false =>
          cases more with
          | true => cases hmb
          | false => exact HTq.out.1
        obtain ⟨on2, j3, hf3, hT3⟩ := hTr.take HS.out 124 rest_take
        have HF3 : zaa (zav.f s at2 bad 124 = some (on2, s, j3, bad)) := ⟨hf3⟩
        have HT3 := zaa.mk hT3
        have HLL : zaa (lo + 1 ≤ lq) := ⟨HTq.out.2.2.1 (by rintro ⟨rfl, rfl⟩; cases hmb)⟩
        have HR5 := zaa.mk (Kd.R_keep HR3.out HQ5.out (fun k hk => by have h9 : wg.heap.size ≤ k := hk; have := HGL.out; omega))
        have HNE : zaa (∀ k, wo.heap.size ≤ k → wg.heap.size ≤ k ∧ some k ≠ (u5 : Value).ownBlock) := ⟨fun k hk => ⟨yq15 HZ3.out, fun he => by have := Kd.R_lt HR3.out k he.symm; omega⟩⟩
        obtain ⟨A7, c7, e7, _, _⟩ := Kd.R_reads HO5.out
        subst e7; clear hTr hf3 hT3
        cases bad with
        | true =>
         cases more with
         | true =>
          go_upto_region 5 with (first | ((with_reducible refine zbs (b := .append) (xs := #[.tmp 39, .tmp 41]) rfl ?_); at_builtin; refine Kd.R_append dSs (w0 := w) w.heap.size rfl (.tmp 39) (.tmp 41) 82 100 (.slice none 0 0) 24 rfl Tryz.underlying82 infoSs rfl yq38 yq9 (u5) rows ts [.slice A7 ts.length c7] (fun k => wg.heap.size ≤ k) (fun k => wo.heap.size ≤ k) rfl rfl ?aP HNE.out ?aF ?aO ?aB ?aS ?aL ?_; (case aP => exact ⟨_, rfl, HO5.out⟩); (case aB => exact HB5.out); (case aF => exact (fun k hk => by have h9 : wo.heap.size ≤ _ := HQ5.out.1; have h8 := hk; have := HZ3.out; show wg.heap.size ≤ k; omega)); (case aO => exact HR5.out); (case aS => exact (zaq HB5.out)); (case aL => have := HS.out; have := HT.out.2; have := HLO.out; omega); intro v_ w_ ho hb hg hat; have HRn := zaa.mk ho; have HBn := zaa.mk hb; have HIn := zaa.mk (HI5.out.grown hg (fun he => by have h9 : wg.heap.size ≤ g := HR5.out.1 g he.symm; have := HGL.out; omega)); have HZn : zaa (wg.heap.size ≤ w_.heap.size) := ⟨by have h9 : wo.heap.size ≤ _ := HQ5.out.1; have := hg.size; have := HZ3.out; omega⟩; clear ho hb hg hat) | fail)
          clear z0 z1 z2
          go_wp2_with (first | ((with_reducible refine (zav.calls g s at2 true 124 on2 s j3 true w w_ HIn.out HBn.out HF3.out).mono ?_); rintro e w9 ⟨rfl, hI, hB, hK⟩; have HI9 := zaa.mk hI; have HB9 := zaa.mk hB; have HR9 := zaa.mk (Kd.R_keep HRn.out hK (fun k hk => by have h9 : wg.heap.size ≤ k := hk; have := HGL.out; omega)); have HZ9 := zaa.mk (Nat.le_trans HZn.out hK.1); clear hI hB hK) | fail)
          go_roundg k1
          case measure => have := HK1.out; omega
          case rel => exact ⟨on2, j3, true, rows ++ [ts], lq, rfl, ⟨yq15 HKB.out, fun hm hb => by have h8 := HKB.out; have := HLL.out; obtain ⟨i', _, h6, h5, _⟩ := HT3.out.2 hb; omega⟩, ⟨HT3.out, by have := HT.out.2; have := HLL.out; rw [List.length_append]; show rows.length + 1 ≤ _; omega⟩, HI9, HR9, HB9, HZ9⟩
         | false =>
          go_upto_region 5 with (first | ((with_reducible refine zbs (b := .append) (xs := #[.tmp 39, .tmp 41]) rfl ?_); at_builtin; refine Kd.R_append dSs (w0 := w) w.heap.size rfl (.tmp 39) (.tmp 41) 82 100 (.slice none 0 0) 24 rfl Tryz.underlying82 infoSs rfl yq38 yq9 (u5) rows ts [.slice A7 ts.length c7] (fun k => wg.heap.size ≤ k) (fun k => wo.heap.size ≤ k) rfl rfl ?aP HNE.out ?aF ?aO ?aB ?aS ?aL ?_; (case aP => exact ⟨_, rfl, HO5.out⟩); (case aB => exact HB5.out); (case aF => exact (fun k hk => by have h9 : wo.heap.size ≤ _ := HQ5.out.1; have h8 := hk; have := HZ3.out; show wg.heap.size ≤ k; omega)); (case aO => exact HR5.out); (case aS => exact (zaq HB5.out)); (case aL => have := HS.out; have := HT.out.2; have := HLO.out; omega); intro v_ w_ ho hb hg hat; have HRn := zaa.mk ho; have HBn := zaa.mk hb; have HIn := zaa.mk (HI5.out.grown hg (fun he => by have h9 : wg.heap.size ≤ g := HR5.out.1 g he.symm; have := HGL.out; omega)); have HZn : zaa (wg.heap.size ≤ w_.heap.size) := ⟨by have h9 : wo.heap.size ≤ _ := HQ5.out.1; have := hg.size; have := HZ3.out; omega⟩; clear ho hb hg hat) | fail)
          clear z0 z1 z2
          go_wp2_with (first | ((with_reducible refine (zav.calls g s at2 true 124 on2 s j3 true w w_ HIn.out HBn.out HF3.out).mono ?_); rintro e w9 ⟨rfl, hI, hB, hK⟩; have HI9 := zaa.mk hI; have HB9 := zaa.mk hB; have HR9 := zaa.mk (Kd.R_keep HRn.out hK (fun k hk => by have h9 : wg.heap.size ≤ k := hk; have := HGL.out; omega)); have HZ9 := zaa.mk (Nat.le_trans HZn.out hK.1); clear hI hB hK) | fail)
          go_roundg k1
          case measure => have := HK1.out; omega
          case rel => exact ⟨on2, j3, true, rows ++ [ts], lq, rfl, ⟨yq15 HKB.out, fun hm hb => by have h8 := HKB.out; have := HLL.out; obtain ⟨i', _, h6, h5, _⟩ := HT3.out.2 hb; omega⟩, ⟨HT3.out, by have := HT.out.2; have := HLL.out; rw [List.length_append]; show rows.length + 1 ≤ _; omega⟩, HI9, HR9, HB9, HZ9⟩
        | false =>
         cases more with
         | true => cases hmb
         | false =>
          go_upto_region 5 with (first | ((with_reducible refine zbs (b := .append) (xs := #[.tmp 39, .tmp 41]) rfl ?_); at_builtin; refine Kd.R_append dSs (w0 := w) w.heap.size rfl (.tmp 39) (.tmp 41) 82 100 (.slice none 0 0) 24 rfl Tryz.underlying82 infoSs rfl yq38 yq9 (u5) rows ts [.slice A7 ts.length c7] (fun k => wg.heap.size ≤ k) (fun k => wo.heap.size ≤ k) rfl rfl ?aP HNE.out ?aF ?aO ?aB ?aS ?aL ?_; (case aP => exact ⟨_, rfl, HO5.out⟩); (case aB => exact HB5.out); (case aF => exact (fun k hk => by have h9 : wo.heap.size ≤ _ := HQ5.out.1; have h8 := hk; have := HZ3.out; show wg.heap.size ≤ k; omega)); (case aO => exact HR5.out); (case aS => exact (zaq HB5.out)); (case aL => have := HS.out; have := HT.out.2; have := HLO.out; omega); intro v_ w_ ho hb hg hat; have HRn := zaa.mk ho; have HBn := zaa.mk hb; have HIn := zaa.mk (HI5.out.grown hg (fun he => by have h9 : wg.heap.size ≤ g := HR5.out.1 g he.symm; have := HGL.out; omega)); have HZn : zaa (wg.heap.size ≤ w_.heap.size) := ⟨by have h9 : wo.heap.size ≤ _ := HQ5.out.1; have := hg.size; have := HZ3.out; omega⟩; clear ho hb hg hat) | fail)
          clear z0 z1 z2
          go_wp2_with (first | ((with_reducible refine (zav.calls g s at2 false 124 on2 s j3 false w w_ HIn.out HBn.out HF3.out).mono ?_); rintro e w9 ⟨rfl, hI, hB, hK⟩; have HI9 := zaa.mk hI; have HB9 := zaa.mk hB; have HR9 := zaa.mk (Kd.R_keep HRn.out hK (fun k hk => by have h9 : wg.heap.size ≤ k := hk; have := HGL.out; omega)); have HZ9 := zaa.mk (Nat.le_trans HZn.out hK.1); clear hI hB hK) | fail)
          go_roundg k1
          case measure => have := HK1.out; omega
          case rel => exact ⟨on2, j3, false, rows ++ [ts], lq, rfl, ⟨yq15 HKB.out, fun hm hb => by have h8 := HKB.out; have := HLL.out; obtain ⟨i', _, h6, h5, _⟩ := HT3.out.2 hb; omega⟩, ⟨HT3.out, by have := HT.out.2; have := HLL.out; rw [List.length_append]; show rows.length + 1 ≤ _; omega⟩, HI9, HR9, HB9, HZ9⟩
end Go.Proofs.YtfafjbolmeimmaaGreatDoor.P
namespace Go.Proofs.YtfafjbolmeimmaaGreatDoor.P
open Go.RowKit Go.Proofs.YtfafjbolmeimmaaGreatDoorW.PrintWords Go.Proofs.YtfafjbolmeimmaaGreatDoorW.PrintLast Go.Proofs.YtfafjbolmeimmaaGreatDoorW.PrintMore
set_option linter.unusedVariables false
set_option linter.unusedSimpArgs false
def spec_RuleFault.f (a0 : ByteArray) : Option Int := if a0.size ≤ 1099511627776 then some (if (pRule a0.data.toList && decide (a0.size ≤ 200)) = true then 0 else 1) else none
set_option maxHeartbeats 4000000 in
theorem spec_RuleFault.calls (a0 : ByteArray) (r : Int) (w : World) (h : spec_RuleFault.f a0 = some r) :
  Calls Tryz.prog 38 #[.string a0] w fun e w' => e = .returned (.int .i64 r) ∧ Below w.heap.size w w' := by
 unfold spec_RuleFault.f at h
 split at h
 case isFalse => cases h
 rename_i hs
 have hr := Option.some.inj h
 have HW := zaa.mk (rule_calls a0 hs w)
 clear h hs
 go_enter Tryz.func38, Tryz.ntmps38
 go_wp2_with (fail)
 refine HW.out.mono ?_
 rintro e w1 ⟨v, rfl, hb⟩
 have HB := zaa.mk hb; clear hb HW
 cases hw : (pRule a0.data.toList && decide (a0.size ≤ 200)) with
 | true =>
  rw [hw, if_pos rfl] at hr
  subst hr
  go_wp2
  go_ret
  exact ⟨rfl, HB.out⟩
 | false =>
  rw [hw, if_neg yq21] at hr
  subst hr
  go_wp2
  go_ret
  exact ⟨rfl, HB.out⟩
end Go.Proofs.YtfafjbolmeimmaaGreatDoor.P
