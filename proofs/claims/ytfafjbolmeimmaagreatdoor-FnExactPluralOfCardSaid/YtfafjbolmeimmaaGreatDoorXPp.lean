/- spec.PluralOf and impl.PluralOf, walked: both come to one plain word. -/
import Derived.Test.YtfafjbolmeimmaaGreatDoorAb
import Derived.Test.YtfafjbolmeimmaaGreatDoorF22
import Derived.Test.YtfafjbolmeimmaaGreatDoorF24
import Derived.Test.YtfafjbolmeimmaaGreatDoorF23
namespace Go.Proofs.YtfafjbolmeimmaaGreatDoor.P
open Go.RowKit Go.Proofs.YtfafjbolmeimmaaGreatDoorW.PrintWords Go.Proofs.YtfafjbolmeimmaaGreatDoorW.PrintLast Go.Proofs.YtfafjbolmeimmaaGreatDoorW.PrintMore
set_option linter.unusedVariables false
set_option linter.unusedSimpArgs false
def plN (num p : Int) (l : List S58) : ByteArray := plV ((num.natAbs / 10 ^ p.toNat : Nat) : Int) ((num.natAbs % 10 ^ p.toNat : Nat) : Int) p l
def plR (rb : Bool) (num p : Int) (l : List S58) : ByteArray := if rb = true ∧ 0 ≤ p ∧ p ≤ 9 then plN num p l else ⟨#[]⟩
theorem plFrom_at {l : List S58} : ∀ (d i : Nat), l.length - i = d → plFrom l i = true → ∀ j, i ≤ j → j < l.length → plAt l j = true := by
 intro d
 induction d with
 | zero => intro i hd _ j h1 h2; omega
 | succ d ih =>
  intro i hd h j h1 h2
  rw [plFrom_lt yq10, Bool.and_eq_true] at h
  rcases Nat.eq_or_lt_of_le h1 with rfl | h1
  ·exact h.1
  exact ih (i + 1) yq10 h.2 j h1 h2
theorem ok_rules {a0_0 : ByteArray} {a0_1 : ByteArray} {a0_2 : ByteArray} {a0_3 : ByteArray} {a0_4 : ByteArray} {l0_5 : List Int} {a0_6 : Int} {l0_7 : List S58} {a0_8 : ByteArray} {a0_9 : ByteArray} {a0_10 : ByteArray} {a0_11 : ByteArray} {l0_12 : List ByteArray} {l0_13 : List ByteArray} {a0_14 : ByteArray} (h : okLoc a0_0 a0_1 a0_2 a0_3 a0_4 l0_5 a0_6 l0_7 a0_8 a0_9 a0_10 a0_11 l0_12 l0_13 a0_14 = true) : l0_7.length ≤ 6 ∧ ∀ j, j < l0_7.length → (za8 l0_7 (j : Int)).f1.size ≤ 200 ∧ (whenI (za8 l0_7 (j : Int)).f1.data.toList).isSome = true := by
 unfold okLoc loc1 at h
 simp only [Bool.and_eq_true, Bool.not_eq_true', decide_eq_false_iff_not] at h
 have h1 : ¬ 6 < (l0_7.length : Int) := h.1.1.1.1.1.1.1.2
 have h2 : plFrom l0_7 0 = true := h.1.1.1.2
 refine ⟨yq10, fun j hj => ?_⟩
 have h3 := plFrom_at _ 0 rfl h2 j (Nat.zero_le _) hj
 unfold plAt at h3
 simp only [Bool.and_eq_true] at h3
 have h4 := h3.1.2
 unfold ruleB at h4
 rw [Bool.and_eq_true] at h4
 have h5 := of_decide_eq_true h4.2
 exact ⟨h5, by rw [when_rule _ (by rw [Array.length_toList]; exact h5)]; exact h4.1⟩
set_option maxHeartbeats 4000000 in
set_option maxRecDepth 100000 in
theorem spp_calls (a0_0 : ByteArray) (a0_1 : ByteArray) (a0_2 : ByteArray) (a0_3 : ByteArray) (a0_4 : ByteArray) (A0_5 : Option Addr) (c0_5 : Nat) (l0_5 : List Int) (a0_6 : Int) (A0_7 : Option Addr) (c0_7 : Nat) (l0_7 : List S58) (a0_8 : ByteArray) (a0_9 : ByteArray) (a0_10 : ByteArray) (a0_11 : ByteArray) (A0_12 : Option Addr) (c0_12 : Nat) (l0_12 : List ByteArray) (A0_13 : Option Addr) (c0_13 : Nat) (l0_13 : List ByteArray) (a0_14 : ByteArray) (num p : Int) (hn : -9223372036854775808 ≤ num ∧ num ≤ 9223372036854775807) (w : World) (hr0_5 : Kd.C (Kd.int .i64) w A0_5 l0_5.length l0_5) (hc0_5 : l0_5.length ≤ c0_5) (hr0_7 : Kd.C k58 w A0_7 l0_7.length l0_7) (hc0_7 : l0_7.length ≤ c0_7) (hr0_12 : Kd.C Kd.string w A0_12 l0_12.length l0_12) (hc0_12 : l0_12.length ≤ c0_12) (hr0_13 : Kd.C Kd.string w A0_13 l0_13.length l0_13) (hc0_13 : l0_13.length ≤ c0_13) (hs : smallLoc a0_0 a0_1 a0_2 a0_3 a0_4 l0_5 l0_7 a0_8 a0_9 a0_10 a0_11 l0_12 l0_13 a0_14 = true) : CW w 23 #[.agg #[.string a0_0, .string a0_1, .string a0_2, .string a0_3, .string a0_4, .slice A0_5 l0_5.length c0_5, .int .i64 a0_6, .slice A0_7 l0_7.length c0_7, .string a0_8, .string a0_9, .string a0_10, .string a0_11, .slice A0_12 l0_12.length c0_12, .slice A0_13 l0_13.length c0_13, .string a0_14], .int .i64 num, .int .i64 p] (.string (plR (rdy a0_0 a0_1 a0_2 a0_3 a0_4 l0_5 a0_6 l0_7 a0_8 a0_9 a0_10 a0_11 l0_12 l0_13 a0_14) num p l0_7)) := by
 intro w1 hb
 have CR : zaa (CW w1 52 #[.agg #[.string a0_0, .string a0_1, .string a0_2, .string a0_3, .string a0_4, .slice A0_5 l0_5.length c0_5, .int .i64 a0_6, .slice A0_7 l0_7.length c0_7, .string a0_8, .string a0_9, .string a0_10, .string a0_11, .slice A0_12 l0_12.length c0_12, .slice A0_13 l0_13.length c0_13, .string a0_14]] (.bool (rdy a0_0 a0_1 a0_2 a0_3 a0_4 l0_5 a0_6 l0_7 a0_8 a0_9 a0_10 a0_11 l0_12 l0_13 a0_14))) := ⟨fun w2 hb2 => srd_calls a0_0 a0_1 a0_2 a0_3 a0_4 A0_5 c0_5 l0_5 a0_6 A0_7 c0_7 l0_7 a0_8 a0_9 a0_10 a0_11 A0_12 c0_12 l0_12 A0_13 c0_13 l0_13 a0_14 w hr0_5 hc0_5 hr0_7 hc0_7 hr0_12 hc0_12 hr0_13 hc0_13 hs w2 (zam hb hb2)⟩
 cases hk : rdy a0_0 a0_1 a0_2 a0_3 a0_4 l0_5 a0_6 l0_7 a0_8 a0_9 a0_10 a0_11 l0_12 l0_13 a0_14 with
 | false =>
  have HV : zaa (plR false num p l0_7 = ⟨#[]⟩) := ⟨if_neg (fun h => by cases h.1)⟩
  rw [hk] at CR
  clear hr0_5 hc0_5 hr0_7 hc0_7 hr0_12 hc0_12 hr0_13 hc0_13 hb hs hk
  go_enter Tryz.func23, Tryz.ntmps23
  go_wp2_with (first | ((with_reducible refine zaF (N := 3) rfl ?_); refine zaO ?hg (N := 3) ?hd (cs := #[.string a0_0, .string a0_1, .string a0_2, .string a0_3, .string a0_4, .slice A0_5 l0_5.length c0_5, .int .i64 a0_6, .slice A0_7 l0_7.length c0_7, .string a0_8, .string a0_9, .string a0_10, .string a0_11, .slice A0_12 l0_12.length c0_12, .slice A0_13 l0_13.length c0_13, .string a0_14]) (t := 31) ?hr ?_; (case hd => rfl); (case hg => rfl); (case hr => first | (go_simp; done) | (go_simp; rfl)); intro gb hg wb hbox hb; have L : zaa (BX w1 wb gb 31 #[.string a0_0, .string a0_1, .string a0_2, .string a0_3, .string a0_4, .slice A0_5 l0_5.length c0_5, .int .i64 a0_6, .slice A0_7 l0_7.length c0_7, .string a0_8, .string a0_9, .string a0_10, .string a0_11, .slice A0_12 l0_12.length c0_12, .slice A0_13 l0_13.length c0_13, .string a0_14]) := ⟨⟨hb, hbox, yq31⟩⟩; clear hb hbox hg; obtain ⟨k0, k1, k2, k3, k4, k5, k6, k7, k8, k9, k10, k11, k12, k13, k14⟩ := L.out.at) | ((go_at_call 52; with_reducible refine (CW.go CR.out L.out.b).mono ?_); (rintro e wn ⟨rfl, hb⟩; have L1 := zaa.mk (L.out.step hb); clear L hb k0 k1 k2 k3 k4 k5 k6 k7 k8 k9 k10 k11 k12 k13 k14; have L := L1; clear L1; obtain ⟨k0, k1, k2, k3, k4, k5, k6, k7, k8, k9, k10, k11, k12, k13, k14⟩ := L.out.at)) | fail)
  go_ret
  exact ⟨by rw [HV.out]; rfl, L.out.b⟩
 | true =>
  rw [hk] at CR
  by_cases hp : 0 ≤ p ∧ p ≤ 9
  ·have HP := zaa.mk hp
   have HV : zaa (plR true num p l0_7 = plN num p l0_7) := ⟨if_pos ⟨rfl, hp⟩⟩
   have hok : okLoc a0_0 a0_1 a0_2 a0_3 a0_4 l0_5 a0_6 l0_7 a0_8 a0_9 a0_10 a0_11 l0_12 l0_13 a0_14 = true := by unfold rdy at hk; exact (Bool.and_eq_true_iff.1 hk).1
   obtain ⟨hl, hr⟩ := ok_rules hok
   have CP : zaa (CW w1 58 #[.agg #[.string a0_0, .string a0_1, .string a0_2, .string a0_3, .string a0_4, .slice A0_5 l0_5.length c0_5, .int .i64 a0_6, .slice A0_7 l0_7.length c0_7, .string a0_8, .string a0_9, .string a0_10, .string a0_11, .slice A0_12 l0_12.length c0_12, .slice A0_13 l0_13.length c0_13, .string a0_14], .int .i64 num, .int .i64 p] (.string (plN num p l0_7))) := ⟨fun w2 hb2 => by
   replace hb := zam hb hb2
   obtain ⟨k, wh, pt, i, f, hN, h1, h2, h3, h4, h5⟩ := nums_ev num p hn HP.out
   have h6 := spl_calls a0_0 a0_1 a0_2 a0_3 a0_4 A0_5 c0_5 l0_5 a0_6 A0_7 c0_7 l0_7 a0_8 a0_9 a0_10 a0_11 A0_12 c0_12 l0_12 A0_13 c0_13 l0_13 a0_14 num p w2 (Kd.za6 hr0_5 hb) hc0_5 (Kd.za6 hr0_7 hb) hc0_7 (Kd.za6 hr0_12 hb) hc0_12 (Kd.za6 hr0_13 hb) hc0_13 k wh pt i f p h1 h2 h3 h4.symm h5 (by rw [hN.hi]; exact Int.natCast_nonneg _) (by rw [hN.hf]; exact Int.natCast_nonneg _) yq10 (fun j hj => (hr j hj).2)
   rw [hN.hi, hN.hf] at h6
   exact h6
   ⟩
   have g1 : decide (p < 0) = false := decide_eq_false yq10
   have g2 : decide (9 < p) = false := decide_eq_false yq10
   clear hr0_5 hc0_5 hr0_7 hc0_7 hr0_12 hc0_12 hr0_13 hc0_13 hb hs hk hp hok hl hr
   go_enter Tryz.func23, Tryz.ntmps23
   go_wp2_with (first | ((with_reducible refine zaF (N := 3) rfl ?_); refine zaO ?hg (N := 3) ?hd (cs := #[.string a0_0, .string a0_1, .string a0_2, .string a0_3, .string a0_4, .slice A0_5 l0_5.length c0_5, .int .i64 a0_6, .slice A0_7 l0_7.length c0_7, .string a0_8, .string a0_9, .string a0_10, .string a0_11, .slice A0_12 l0_12.length c0_12, .slice A0_13 l0_13.length c0_13, .string a0_14]) (t := 31) ?hr ?_; (case hd => rfl); (case hg => rfl); (case hr => first | (go_simp; done) | (go_simp; rfl)); intro gb hg wb hbox hb; have L : zaa (BX w1 wb gb 31 #[.string a0_0, .string a0_1, .string a0_2, .string a0_3, .string a0_4, .slice A0_5 l0_5.length c0_5, .int .i64 a0_6, .slice A0_7 l0_7.length c0_7, .string a0_8, .string a0_9, .string a0_10, .string a0_11, .slice A0_12 l0_12.length c0_12, .slice A0_13 l0_13.length c0_13, .string a0_14]) := ⟨⟨hb, hbox, yq31⟩⟩; clear hb hbox hg; obtain ⟨k0, k1, k2, k3, k4, k5, k6, k7, k8, k9, k10, k11, k12, k13, k14⟩ := L.out.at) | ((go_at_call 52; with_reducible refine (CW.go CR.out L.out.b).mono ?_); (rintro e wn ⟨rfl, hb⟩; have L1 := zaa.mk (L.out.step hb); clear L hb k0 k1 k2 k3 k4 k5 k6 k7 k8 k9 k10 k11 k12 k13 k14; have L := L1; clear L1; obtain ⟨k0, k1, k2, k3, k4, k5, k6, k7, k8, k9, k10, k11, k12, k13, k14⟩ := L.out.at)) | ((go_at_call 58; with_reducible refine (CW.go CP.out L.out.b).mono ?_); (rintro e wn ⟨rfl, hb⟩; have L1 := zaa.mk (L.out.step hb); clear L hb k0 k1 k2 k3 k4 k5 k6 k7 k8 k9 k10 k11 k12 k13 k14; have L := L1; clear L1; obtain ⟨k0, k1, k2, k3, k4, k5, k6, k7, k8, k9, k10, k11, k12, k13, k14⟩ := L.out.at)) | fail)
   go_ret
   exact ⟨by rw [HV.out]; rfl, L.out.b⟩
  have HV : zaa (plR true num p l0_7 = ⟨#[]⟩) := ⟨if_neg (fun h => hp h.2)⟩
  by_cases hp0 : p < 0
  ·have g1 : decide (p < 0) = true := decide_eq_true hp0
   clear hr0_5 hc0_5 hr0_7 hc0_7 hr0_12 hc0_12 hr0_13 hc0_13 hb hs hk hp hp0
   go_enter Tryz.func23, Tryz.ntmps23
   go_wp2_with (first | ((with_reducible refine zaF (N := 3) rfl ?_); refine zaO ?hg (N := 3) ?hd (cs := #[.string a0_0, .string a0_1, .string a0_2, .string a0_3, .string a0_4, .slice A0_5 l0_5.length c0_5, .int .i64 a0_6, .slice A0_7 l0_7.length c0_7, .string a0_8, .string a0_9, .string a0_10, .string a0_11, .slice A0_12 l0_12.length c0_12, .slice A0_13 l0_13.length c0_13, .string a0_14]) (t := 31) ?hr ?_; (case hd => rfl); (case hg => rfl); (case hr => first | (go_simp; done) | (go_simp; rfl)); intro gb hg wb hbox hb; have L : zaa (BX w1 wb gb 31 #[.string a0_0, .string a0_1, .string a0_2, .string a0_3, .string a0_4, .slice A0_5 l0_5.length c0_5, .int .i64 a0_6, .slice A0_7 l0_7.length c0_7, .string a0_8, .string a0_9, .string a0_10, .string a0_11, .slice A0_12 l0_12.length c0_12, .slice A0_13 l0_13.length c0_13, .string a0_14]) := ⟨⟨hb, hbox, yq31⟩⟩; clear hb hbox hg; obtain ⟨k0, k1, k2, k3, k4, k5, k6, k7, k8, k9, k10, k11, k12, k13, k14⟩ := L.out.at) | ((go_at_call 52; with_reducible refine (CW.go CR.out L.out.b).mono ?_); (rintro e wn ⟨rfl, hb⟩; have L1 := zaa.mk (L.out.step hb); clear L hb k0 k1 k2 k3 k4 k5 k6 k7 k8 k9 k10 k11 k12 k13 k14; have L := L1; clear L1; obtain ⟨k0, k1, k2, k3, k4, k5, k6, k7, k8, k9, k10, k11, k12, k13, k14⟩ := L.out.at)) | fail)
   go_ret
   exact ⟨by rw [HV.out]; rfl, L.out.b⟩
  have g1 : decide (p < 0) = false := decide_eq_false hp0
  have g2 : decide (9 < p) = true := decide_eq_true yq10
  clear hr0_5 hc0_5 hr0_7 hc0_7 hr0_12 hc0_12 hr0_13 hc0_13 hb hs hk hp hp0
  go_enter Tryz.func23, Tryz.ntmps23
  go_wp2_with (first | ((with_reducible refine zaF (N := 3) rfl ?_); refine zaO ?hg (N := 3) ?hd (cs := #[.string a0_0, .string a0_1, .string a0_2, .string a0_3, .string a0_4, .slice A0_5 l0_5.length c0_5, .int .i64 a0_6, .slice A0_7 l0_7.length c0_7, .string a0_8, .string a0_9, .string a0_10, .string a0_11, .slice A0_12 l0_12.length c0_12, .slice A0_13 l0_13.length c0_13, .string a0_14]) (t := 31) ?hr ?_; (case hd => rfl); (case hg => rfl); (case hr => first | (go_simp; done) | (go_simp; rfl)); intro gb hg wb hbox hb; have L : zaa (BX w1 wb gb 31 #[.string a0_0, .string a0_1, .string a0_2, .string a0_3, .string a0_4, .slice A0_5 l0_5.length c0_5, .int .i64 a0_6, .slice A0_7 l0_7.length c0_7, .string a0_8, .string a0_9, .string a0_10, .string a0_11, .slice A0_12 l0_12.length c0_12, .slice A0_13 l0_13.length c0_13, .string a0_14]) := ⟨⟨hb, hbox, yq31⟩⟩; clear hb hbox hg; obtain ⟨k0, k1, k2, k3, k4, k5, k6, k7, k8, k9, k10, k11, k12, k13, k14⟩ := L.out.at) | ((go_at_call 52; with_reducible refine (CW.go CR.out L.out.b).mono ?_); (rintro e wn ⟨rfl, hb⟩; have L1 := zaa.mk (L.out.step hb); clear L hb k0 k1 k2 k3 k4 k5 k6 k7 k8 k9 k10 k11 k12 k13 k14; have L := L1; clear L1; obtain ⟨k0, k1, k2, k3, k4, k5, k6, k7, k8, k9, k10, k11, k12, k13, k14⟩ := L.out.at)) | fail)
  go_ret
  exact ⟨by rw [HV.out]; rfl, L.out.b⟩
set_option maxHeartbeats 4000000 in
set_option maxRecDepth 100000 in
theorem ipp_calls (a0_0 : ByteArray) (a0_1 : ByteArray) (a0_2 : ByteArray) (a0_3 : ByteArray) (a0_4 : ByteArray) (A0_5 : Option Addr) (c0_5 : Nat) (l0_5 : List Int) (a0_6 : Int) (A0_7 : Option Addr) (c0_7 : Nat) (l0_7 : List S58) (a0_8 : ByteArray) (a0_9 : ByteArray) (a0_10 : ByteArray) (a0_11 : ByteArray) (A0_12 : Option Addr) (c0_12 : Nat) (l0_12 : List ByteArray) (A0_13 : Option Addr) (c0_13 : Nat) (l0_13 : List ByteArray) (a0_14 : ByteArray) (num p : Int) (hn : -9223372036854775808 ≤ num ∧ num ≤ 9223372036854775807) (w : World) (hr0_5 : Kd.C (Kd.int .i64) w A0_5 l0_5.length l0_5) (hc0_5 : l0_5.length ≤ c0_5) (hr0_7 : Kd.C k58 w A0_7 l0_7.length l0_7) (hc0_7 : l0_7.length ≤ c0_7) (hr0_12 : Kd.C Kd.string w A0_12 l0_12.length l0_12) (hc0_12 : l0_12.length ≤ c0_12) (hr0_13 : Kd.C Kd.string w A0_13 l0_13.length l0_13) (hc0_13 : l0_13.length ≤ c0_13) (hG : GT w) (hs : smallLoc a0_0 a0_1 a0_2 a0_3 a0_4 l0_5 l0_7 a0_8 a0_9 a0_10 a0_11 l0_12 l0_13 a0_14 = true) : CW w 24 #[.agg #[.string a0_0, .string a0_1, .string a0_2, .string a0_3, .string a0_4, .slice A0_5 l0_5.length c0_5, .int .i64 a0_6, .slice A0_7 l0_7.length c0_7, .string a0_8, .string a0_9, .string a0_10, .string a0_11, .slice A0_12 l0_12.length c0_12, .slice A0_13 l0_13.length c0_13, .string a0_14], .int .i64 num, .int .i64 p] (.string (plR (rdy a0_0 a0_1 a0_2 a0_3 a0_4 l0_5 a0_6 l0_7 a0_8 a0_9 a0_10 a0_11 l0_12 l0_13 a0_14) num p l0_7)) := by
 intro w1 hb
 have CR : zaa (CW w1 55 #[.agg #[.string a0_0, .string a0_1, .string a0_2, .string a0_3, .string a0_4, .slice A0_5 l0_5.length c0_5, .int .i64 a0_6, .slice A0_7 l0_7.length c0_7, .string a0_8, .string a0_9, .string a0_10, .string a0_11, .slice A0_12 l0_12.length c0_12, .slice A0_13 l0_13.length c0_13, .string a0_14]] (.bool (rdy a0_0 a0_1 a0_2 a0_3 a0_4 l0_5 a0_6 l0_7 a0_8 a0_9 a0_10 a0_11 l0_12 l0_13 a0_14))) := ⟨fun w2 hb2 => ird_calls a0_0 a0_1 a0_2 a0_3 a0_4 A0_5 c0_5 l0_5 a0_6 A0_7 c0_7 l0_7 a0_8 a0_9 a0_10 a0_11 A0_12 c0_12 l0_12 A0_13 c0_13 l0_13 a0_14 w hr0_5 hc0_5 hr0_7 hc0_7 hr0_12 hc0_12 hr0_13 hc0_13 hG hs w2 (zam hb hb2)⟩
 cases hk : rdy a0_0 a0_1 a0_2 a0_3 a0_4 l0_5 a0_6 l0_7 a0_8 a0_9 a0_10 a0_11 l0_12 l0_13 a0_14 with
 | false =>
  have HV : zaa (plR false num p l0_7 = ⟨#[]⟩) := ⟨if_neg (fun h => by cases h.1)⟩
  rw [hk] at CR
  clear hr0_5 hc0_5 hr0_7 hc0_7 hr0_12 hc0_12 hr0_13 hc0_13 hb hs hk hG
  go_enter Tryz.func24, Tryz.ntmps24
  go_wp2_with (first | ((with_reducible refine zaF (N := 3) rfl ?_); refine zaO ?hg (N := 3) ?hd (cs := #[.string a0_0, .string a0_1, .string a0_2, .string a0_3, .string a0_4, .slice A0_5 l0_5.length c0_5, .int .i64 a0_6, .slice A0_7 l0_7.length c0_7, .string a0_8, .string a0_9, .string a0_10, .string a0_11, .slice A0_12 l0_12.length c0_12, .slice A0_13 l0_13.length c0_13, .string a0_14]) (t := 31) ?hr ?_; (case hd => rfl); (case hg => rfl); (case hr => first | (go_simp; done) | (go_simp; rfl)); intro gb hg wb hbox hb; have L : zaa (BX w1 wb gb 31 #[.string a0_0, .string a0_1, .string a0_2, .string a0_3, .string a0_4, .slice A0_5 l0_5.length c0_5, .int .i64 a0_6, .slice A0_7 l0_7.length c0_7, .string a0_8, .string a0_9, .string a0_10, .string a0_11, .slice A0_12 l0_12.length c0_12, .slice A0_13 l0_13.length c0_13, .string a0_14]) := ⟨⟨hb, hbox, yq31⟩⟩; clear hb hbox hg; obtain ⟨k0, k1, k2, k3, k4, k5, k6, k7, k8, k9, k10, k11, k12, k13, k14⟩ := L.out.at) | ((go_at_call 55; with_reducible refine (CW.go CR.out L.out.b).mono ?_); (rintro e wn ⟨rfl, hb⟩; have L1 := zaa.mk (L.out.step hb); clear L hb k0 k1 k2 k3 k4 k5 k6 k7 k8 k9 k10 k11 k12 k13 k14; have L := L1; clear L1; obtain ⟨k0, k1, k2, k3, k4, k5, k6, k7, k8, k9, k10, k11, k12, k13, k14⟩ := L.out.at)) | fail)
  go_ret
  exact ⟨by rw [HV.out]; rfl, L.out.b⟩
 | true =>
  rw [hk] at CR
  by_cases hp : 0 ≤ p ∧ p ≤ 9
  ·have HP := zaa.mk hp
   have HV : zaa (plR true num p l0_7 = plN num p l0_7) := ⟨if_pos ⟨rfl, hp⟩⟩
   have hok : okLoc a0_0 a0_1 a0_2 a0_3 a0_4 l0_5 a0_6 l0_7 a0_8 a0_9 a0_10 a0_11 l0_12 l0_13 a0_14 = true := by unfold rdy at hk; exact (Bool.and_eq_true_iff.1 hk).1
   obtain ⟨hl, hr⟩ := ok_rules hok
   have CP : zaa (CW w1 59 #[.agg #[.string a0_0, .string a0_1, .string a0_2, .string a0_3, .string a0_4, .slice A0_5 l0_5.length c0_5, .int .i64 a0_6, .slice A0_7 l0_7.length c0_7, .string a0_8, .string a0_9, .string a0_10, .string a0_11, .slice A0_12 l0_12.length c0_12, .slice A0_13 l0_13.length c0_13, .string a0_14], .int .i64 num, .int .i64 p] (.string (plN num p l0_7))) := ⟨fun w2 hb2 => by
   replace hb := zam hb hb2
   exact ipl_calls a0_0 a0_1 a0_2 a0_3 a0_4 A0_5 c0_5 l0_5 a0_6 A0_7 c0_7 l0_7 a0_8 a0_9 a0_10 a0_11 A0_12 c0_12 l0_12 A0_13 c0_13 l0_13 a0_14 num p _ _ ⟨hn, HP.out, rfl, rfl⟩ w2 (Kd.za6 hr0_5 hb) hc0_5 (Kd.za6 hr0_7 hb) hc0_7 (Kd.za6 hr0_12 hb) hc0_12 (Kd.za6 hr0_13 hb) hc0_13 (GT_below hG hb) yq10 (fun j hj => ⟨Nat.le_trans (hr j hj).1 yq41, (hr j hj).2⟩)
   ⟩
   have g1 : decide (p < 0) = false := decide_eq_false yq10
   have g2 : decide (9 < p) = false := decide_eq_false yq10
   clear hr0_5 hc0_5 hr0_7 hc0_7 hr0_12 hc0_12 hr0_13 hc0_13 hb hs hk hp hok hl hr hG
   go_enter Tryz.func24, Tryz.ntmps24
   go_wp2_with (first | ((with_reducible refine zaF (N := 3) rfl ?_); refine zaO ?hg (N := 3) ?hd (cs := #[.string a0_0, .string a0_1, .string a0_2, .string a0_3, .string a0_4, .slice A0_5 l0_5.length c0_5, .int .i64 a0_6, .slice A0_7 l0_7.length c0_7, .string a0_8, .string a0_9, .string a0_10, .string a0_11, .slice A0_12 l0_12.length c0_12, .slice A0_13 l0_13.length c0_13, .string a0_14]) (t := 31) ?hr ?_; (case hd => rfl); (case hg => rfl); (case hr => first | (go_simp; done) | (go_simp; rfl)); intro gb hg wb hbox hb; have L : zaa (BX w1 wb gb 31 #[.string a0_0, .string a0_1, .string a0_2, .string a0_3, .string a0_4, .slice A0_5 l0_5.length c0_5, .int .i64 a0_6, .slice A0_7 l0_7.length c0_7, .string a0_8, .string a0_9, .string a0_10, .string a0_11, .slice A0_12 l0_12.length c0_12, .slice A0_13 l0_13.length c0_13, .string a0_14]) := ⟨⟨hb, hbox, yq31⟩⟩; clear hb hbox hg; obtain ⟨k0, k1, k2, k3, k4, k5, k6, k7, k8, k9, k10, k11, k12, k13, k14⟩ := L.out.at) | ((go_at_call 55; with_reducible refine (CW.go CR.out L.out.b).mono ?_); (rintro e wn ⟨rfl, hb⟩; have L1 := zaa.mk (L.out.step hb); clear L hb k0 k1 k2 k3 k4 k5 k6 k7 k8 k9 k10 k11 k12 k13 k14; have L := L1; clear L1; obtain ⟨k0, k1, k2, k3, k4, k5, k6, k7, k8, k9, k10, k11, k12, k13, k14⟩ := L.out.at)) | ((go_at_call 59; with_reducible refine (CW.go CP.out L.out.b).mono ?_); (rintro e wn ⟨rfl, hb⟩; have L1 := zaa.mk (L.out.step hb); clear L hb k0 k1 k2 k3 k4 k5 k6 k7 k8 k9 k10 k11 k12 k13 k14; have L := L1; clear L1; obtain ⟨k0, k1, k2, k3, k4, k5, k6, k7, k8, k9, k10, k11, k12, k13, k14⟩ := L.out.at)) | fail)
   go_ret
   exact ⟨by rw [HV.out]; rfl, L.out.b⟩
  have HV : zaa (plR true num p l0_7 = ⟨#[]⟩) := ⟨if_neg (fun h => hp h.2)⟩
  by_cases hp0 : p < 0
  ·have g1 : decide (p < 0) = true := decide_eq_true hp0
   clear hr0_5 hc0_5 hr0_7 hc0_7 hr0_12 hc0_12 hr0_13 hc0_13 hb hs hk hp hp0 hG
   go_enter Tryz.func24, Tryz.ntmps24
   go_wp2_with (first | ((with_reducible refine zaF (N := 3) rfl ?_); refine zaO ?hg (N := 3) ?hd (cs := #[.string a0_0, .string a0_1, .string a0_2, .string a0_3, .string a0_4, .slice A0_5 l0_5.length c0_5, .int .i64 a0_6, .slice A0_7 l0_7.length c0_7, .string a0_8, .string a0_9, .string a0_10, .string a0_11, .slice A0_12 l0_12.length c0_12, .slice A0_13 l0_13.length c0_13, .string a0_14]) (t := 31) ?hr ?_; (case hd => rfl); (case hg => rfl); (case hr => first | (go_simp; done) | (go_simp; rfl)); intro gb hg wb hbox hb; have L : zaa (BX w1 wb gb 31 #[.string a0_0, .string a0_1, .string a0_2, .string a0_3, .string a0_4, .slice A0_5 l0_5.length c0_5, .int .i64 a0_6, .slice A0_7 l0_7.length c0_7, .string a0_8, .string a0_9, .string a0_10, .string a0_11, .slice A0_12 l0_12.length c0_12, .slice A0_13 l0_13.length c0_13, .string a0_14]) := ⟨⟨hb, hbox, yq31⟩⟩; clear hb hbox hg; obtain ⟨k0, k1, k2, k3, k4, k5, k6, k7, k8, k9, k10, k11, k12, k13, k14⟩ := L.out.at) | ((go_at_call 55; with_reducible refine (CW.go CR.out L.out.b).mono ?_); (rintro e wn ⟨rfl, hb⟩; have L1 := zaa.mk (L.out.step hb); clear L hb k0 k1 k2 k3 k4 k5 k6 k7 k8 k9 k10 k11 k12 k13 k14; have L := L1; clear L1; obtain ⟨k0, k1, k2, k3, k4, k5, k6, k7, k8, k9, k10, k11, k12, k13, k14⟩ := L.out.at)) | fail)
   go_ret
   exact ⟨by rw [HV.out]; rfl, L.out.b⟩
  have g1 : decide (p < 0) = false := decide_eq_false hp0
  have g2 : decide (9 < p) = true := decide_eq_true yq10
  clear hr0_5 hc0_5 hr0_7 hc0_7 hr0_12 hc0_12 hr0_13 hc0_13 hb hs hk hp hp0 hG
  go_enter Tryz.func24, Tryz.ntmps24
  go_wp2_with (first | ((with_reducible refine zaF (N := 3) rfl ?_); refine zaO ?hg (N := 3) ?hd (cs := #[.string a0_0, .string a0_1, .string a0_2, .string a0_3, .string a0_4, .slice A0_5 l0_5.length c0_5, .int .i64 a0_6, .slice A0_7 l0_7.length c0_7, .string a0_8, .string a0_9, .string a0_10, .string a0_11, .slice A0_12 l0_12.length c0_12, .slice A0_13 l0_13.length c0_13, .string a0_14]) (t := 31) ?hr ?_; (case hd => rfl); (case hg => rfl); (case hr => first | (go_simp; done) | (go_simp; rfl)); intro gb hg wb hbox hb; have L : zaa (BX w1 wb gb 31 #[.string a0_0, .string a0_1, .string a0_2, .string a0_3, .string a0_4, .slice A0_5 l0_5.length c0_5, .int .i64 a0_6, .slice A0_7 l0_7.length c0_7, .string a0_8, .string a0_9, .string a0_10, .string a0_11, .slice A0_12 l0_12.length c0_12, .slice A0_13 l0_13.length c0_13, .string a0_14]) := ⟨⟨hb, hbox, yq31⟩⟩; clear hb hbox hg; obtain ⟨k0, k1, k2, k3, k4, k5, k6, k7, k8, k9, k10, k11, k12, k13, k14⟩ := L.out.at) | ((go_at_call 55; with_reducible refine (CW.go CR.out L.out.b).mono ?_); (rintro e wn ⟨rfl, hb⟩; have L1 := zaa.mk (L.out.step hb); clear L hb k0 k1 k2 k3 k4 k5 k6 k7 k8 k9 k10 k11 k12 k13 k14; have L := L1; clear L1; obtain ⟨k0, k1, k2, k3, k4, k5, k6, k7, k8, k9, k10, k11, k12, k13, k14⟩ := L.out.at)) | fail)
  go_ret
  exact ⟨by rw [HV.out]; rfl, L.out.b⟩
end Go.Proofs.YtfafjbolmeimmaaGreatDoor.P
