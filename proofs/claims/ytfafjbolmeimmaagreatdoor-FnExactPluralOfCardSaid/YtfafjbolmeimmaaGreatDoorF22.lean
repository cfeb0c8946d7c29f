/- Parts of a proof: words of the print tool that this claim uses, or plain lists. -/
import Derived.Test.YtfafjbolmeimmaaGreatDoorAb
import Derived.Test.YtfafjbolmeimmaaGreatDoorF21
import Derived.Test.YtfafjbolmeimmaaGreatDoorXLfA
import Derived.Test.YtfafjbolmeimmaaGreatDoorXLfB
import Derived.Test.YtfafjbolmeimmaaGreatDoorXLfC
import Derived.Test.YtfafjbolmeimmaaGreatDoorF19
import Derived.Test.YtfafjbolmeimmaaGreatDoorXLfE
import Derived.Test.YtfafjbolmeimmaaGreatDoorXLfF
import Derived.Test.YtfafjbolmeimmaaGreatDoorXLfG
import Derived.Test.YtfafjbolmeimmaaGreatDoorF20
import Derived.Test.YtfafjbolmeimmaaGreatDoorF5
namespace Go.Proofs.YtfafjbolmeimmaaGreatDoor.P
open Go.RowKit Go.Proofs.YtfafjbolmeimmaaGreatDoorW.PrintWords Go.Proofs.YtfafjbolmeimmaaGreatDoorW.PrintLast Go.Proofs.YtfafjbolmeimmaaGreatDoorW.PrintMore
set_option linter.unusedVariables false
set_option linter.unusedSimpArgs false
def zaA.f (a0_0 : ByteArray) (a0_1 : ByteArray) (a0_2 : ByteArray) (a0_3 : ByteArray) (a0_4 : ByteArray) (l0_5 : List Int) (a0_6 : Int) (l0_7 : List S58) (a0_8 : ByteArray) (a0_9 : ByteArray) (a0_10 : ByteArray) (a0_11 : ByteArray) (l0_12 : List ByteArray) (l0_13 : List ByteArray) (a0_14 : ByteArray) : Option Int := if smallLoc a0_0 a0_1 a0_2 a0_3 a0_4 l0_5 l0_7 a0_8 a0_9 a0_10 a0_11 l0_12 l0_13 a0_14 = true then some (if okLoc a0_0 a0_1 a0_2 a0_3 a0_4 l0_5 a0_6 l0_7 a0_8 a0_9 a0_10 a0_11 l0_12 l0_13 a0_14 = true then 0 else 1) else none
theorem bad_all (p1 p2 p3 p4 p5 p6 p7 p8 : Bool) : (((((((!p1 || !p2) || !p3) || !p4) || !p5) || !p6) || !p7) || !p8) = !(p1 && p2 && p3 && p4 && p5 && p6 && p7 && p8) := by
 cases p1 <;> cases p2 <;> cases p3 <;> cases p4 <;> cases p5 <;> cases p6 <;> cases p7 <;> cases p8 <;> rfl
set_option maxHeartbeats 8000000 in
set_option maxRecDepth 1000000 in
theorem zaA.calls (a0_0 : ByteArray) (a0_1 : ByteArray) (a0_2 : ByteArray) (a0_3 : ByteArray) (a0_4 : ByteArray) (A0_5 : Option Addr) (c0_5 : Nat) (l0_5 : List Int) (a0_6 : Int) (A0_7 : Option Addr) (c0_7 : Nat) (l0_7 : List S58) (a0_8 : ByteArray) (a0_9 : ByteArray) (a0_10 : ByteArray) (a0_11 : ByteArray) (A0_12 : Option Addr) (c0_12 : Nat) (l0_12 : List ByteArray) (A0_13 : Option Addr) (c0_13 : Nat) (l0_13 : List ByteArray) (a0_14 : ByteArray) (r : Int) (w : World) (hr0_5 : Kd.C (Kd.int .i64) w A0_5 l0_5.length l0_5) (hc0_5 : l0_5.length ≤ c0_5) (hr0_7 : Kd.C k58 w A0_7 l0_7.length l0_7) (hc0_7 : l0_7.length ≤ c0_7) (hr0_12 : Kd.C Kd.string w A0_12 l0_12.length l0_12) (hc0_12 : l0_12.length ≤ c0_12) (hr0_13 : Kd.C Kd.string w A0_13 l0_13.length l0_13) (hc0_13 : l0_13.length ≤ c0_13) (hG : GT w) (h : zaA.f a0_0 a0_1 a0_2 a0_3 a0_4 l0_5 a0_6 l0_7 a0_8 a0_9 a0_10 a0_11 l0_12 l0_13 a0_14 = some r) :
  Calls Tryz.prog 11 #[.agg #[.string a0_0, .string a0_1, .string a0_2, .string a0_3, .string a0_4, .slice A0_5 l0_5.length c0_5, .int .i64 a0_6, .slice A0_7 l0_7.length c0_7, .string a0_8, .string a0_9, .string a0_10, .string a0_11, .slice A0_12 l0_12.length c0_12, .slice A0_13 l0_13.length c0_13, .string a0_14]] w fun e w' => e = .returned (.int .i64 r) ∧ Below w.heap.size w w' := by
 unfold zaA.f at h
 split at h
 case isFalse => cases h
 rename_i hs
 have hr := Option.some.inj h
 have SM := zaa.mk hs; have HG := zaa.mk hG
 obtain ⟨⟨s0, s1, s2, s3, s4, s8, s9, s10, s11, s14⟩, t5, t7, q7, t12, q12, t13, q13⟩ := small_parts' hs
 have K5 := zaa.mk hr0_5; have K7 := zaa.mk hr0_7; have K12 := zaa.mk hr0_12; have K13 := zaa.mk hr0_13
 go_enter Tryz.func11, Tryz.ntmps11
 refine wp_seq (lf_0 _ ?_)
 intros
 rename_i w0 L0
 change Code.wp _ _ _ _ _
 refine wp_seq (lf_A SM L0 _ ?_)
 intros
 rename_i w1 B1 L1
 change Code.wp _ _ _ _ _
 refine wp_seq (lf_B SM HG L1 _ ?_)
 intros
 rename_i w2 B2 L2
 change Code.wp _ _ _ _ _
 refine wp_seq (lf_C L2 _ ?_)
 intros
 rename_i w3 B3 L3
 change Code.wp _ _ _ _ _
 refine wp_seq (lf_D ⟨t5⟩ K5 L3 _ ?_)
 intros
 rename_i w4 B4 L4
 change Code.wp _ _ _ _ _
 refine wp_seq (lf_E SM HG K7 L4 _ ⟨fun _ _ n _ _ h => by cases n <;> exact h⟩ ?_)
 intros
 rename_i w5 B5 L5
 change Code.wp _ _ _ _ _
 refine wp_seq (lf_F SM HG L5 _ ?_)
 intros
 rename_i w6 B6 L6
 change Code.wp _ _ _ _ _
 refine wp_seq (lf_G SM HG K12 K13 L6 _ ?_)
 intros
 rename_i w7 B7 L7
 change Code.wp _ _ _ _ _
 refine lf_H ⟨s14⟩ HG ⟨?_⟩ L7
 rw [B7.out, B6.out, B5.out, B4.out, B3.out, B2.out, B1.out, bad_all, ← hr]
 unfold okLoc
 generalize (loc1 a0_0 a0_1 l0_5 a0_6 l0_7 && [a0_2, a0_3, a0_4].all signB && (apartB a0_2 a0_4 && apartB a0_2 a0_3) && l0_5.all szB && plFrom l0_7 0 && [a0_8, a0_9, a0_10, a0_11].all frameB && (labelsB l0_12 13 && labelsB l0_13 7) && (!decide (50 < (a0_14.size : Int)) && okB a0_14)) = x
 cases x <;> rfl
end Go.Proofs.YtfafjbolmeimmaaGreatDoor.P
namespace Go.Proofs.YtfafjbolmeimmaaGreatDoor.P
open Go.RowKit Go.Proofs.YtfafjbolmeimmaaGreatDoorW.PrintWords Go.Proofs.YtfafjbolmeimmaaGreatDoorW.PrintLast Go.Proofs.YtfafjbolmeimmaaGreatDoorW.PrintMore
set_option linter.unusedVariables false
set_option linter.unusedSimpArgs false
variable {a0_0 a0_1 a0_2 a0_3 a0_4 : ByteArray} {l0_5 : List Int} {a0_6 : Int} {l0_7 : List S79} {a0_8 a0_9 a0_10 a0_11 : ByteArray} {l0_12 l0_13 : List ByteArray} {a0_14 : ByteArray}
def ToOut (a0_0 a0_1 a0_2 a0_3 a0_4 : ByteArray) (l0_5 : List Int) (a0_6 : Int) (l0_7 : List S79) (a0_8 a0_9 a0_10 a0_11 : ByteArray) (l0_12 l0_13 : List ByteArray) (a0_14 : ByteArray) (w : World) (e : Ending) (w' : World) : Prop := ∃ (A1_5 : Option Addr) (c1_5 : Nat) (A1_7 : Option Addr) (c1_7 : Nat) (A1_12 : Option Addr) (c1_12 : Nat) (A1_13 : Option Addr) (c1_13 : Nat), e = .returned (.agg #[.string a0_0, .string a0_1, .string a0_2, .string a0_3, .string a0_4, .slice A1_5 l0_5.length c1_5, .int .i64 a0_6, .slice A1_7 (l0_7.map plOf).length c1_7, .string a0_8, .string a0_9, .string a0_10, .string a0_11, .slice A1_12 l0_12.length c1_12, .slice A1_13 l0_13.length c1_13, .string a0_14]) ∧ (Kd.C (Kd.int .i64) w' A1_5 l0_5.length l0_5 ∧ l0_5.length ≤ c1_5 ∧ Kd.C k58 w' A1_7 (l0_7.map plOf).length (l0_7.map plOf) ∧ (l0_7.map plOf).length ≤ c1_7 ∧ Kd.C Kd.string w' A1_12 l0_12.length l0_12 ∧ l0_12.length ≤ c1_12 ∧ Kd.C Kd.string w' A1_13 l0_13.length l0_13 ∧ l0_13.length ≤ c1_13) ∧ Below w.heap.size w w'
set_option maxHeartbeats 4000000 in
theorem to_calls (a0_0 : ByteArray) (a0_1 : ByteArray) (a0_2 : ByteArray) (a0_3 : ByteArray) (a0_4 : ByteArray) (A0_5 : Option Addr) (c0_5 : Nat) (l0_5 : List Int) (a0_6 : Int) (A0_7 : Option Addr) (c0_7 : Nat) (l0_7 : List S79) (a0_8 : ByteArray) (a0_9 : ByteArray) (a0_10 : ByteArray) (a0_11 : ByteArray) (A0_12 : Option Addr) (c0_12 : Nat) (l0_12 : List ByteArray) (A0_13 : Option Addr) (c0_13 : Nat) (l0_13 : List ByteArray) (a0_14 : ByteArray) (w : World) (hr0_5 : Kd.C (Kd.int .i64) w A0_5 l0_5.length l0_5) (hc0_5 : l0_5.length ≤ c0_5) (hr0_7 : Kd.C k79 w A0_7 l0_7.length l0_7) (hc0_7 : l0_7.length ≤ c0_7) (hr0_12 : Kd.C Kd.string w A0_12 l0_12.length l0_12) (hc0_12 : l0_12.length ≤ c0_12) (hr0_13 : Kd.C Kd.string w A0_13 l0_13.length l0_13) (hc0_13 : l0_13.length ≤ c0_13) (h5 : l0_5.length ≤ 1099511627776) (h7 : l0_7.length ≤ 1099511627776) (h12 : l0_12.length ≤ 1099511627776) (h13 : l0_13.length ≤ 1099511627776) :
  Calls Tryz.prog 10 #[.agg #[.string a0_0, .string a0_1, .string a0_2, .string a0_3, .string a0_4, .slice A0_5 l0_5.length c0_5, .int .i64 a0_6, .slice A0_7 l0_7.length c0_7, .string a0_8, .string a0_9, .string a0_10, .string a0_11, .slice A0_12 l0_12.length c0_12, .slice A0_13 l0_13.length c0_13, .string a0_14]] w fun e w' => ToOut a0_0 a0_1 a0_2 a0_3 a0_4 l0_5 a0_6 l0_7 a0_8 a0_9 a0_10 a0_11 l0_12 l0_13 a0_14 w e w' := by
 obtain ⟨k, h⟩ := ev_some (toLoc_f a0_0 a0_1 a0_2 a0_3 a0_4 l0_5 a0_6 l0_7 a0_8 a0_9 a0_10 a0_11 l0_12 l0_13 a0_14 h5 h7 h12 h13)
 refine (laws_toLocale.calls k a0_0 a0_1 a0_2 a0_3 a0_4 A0_5 c0_5 l0_5 a0_6 A0_7 c0_7 l0_7 a0_8 a0_9 a0_10 a0_11 A0_12 c0_12 l0_12 A0_13 c0_13 l0_13 a0_14 _ _ _ _ _ _ _ _ _ _ _ _ _ _ _ w hr0_5 hc0_5 hr0_7 hc0_7 hr0_12 hc0_12 hr0_13 hc0_13 h).mono ?_
 rintro e w' ⟨v5, v7, v12, v13, rfl, R5, R7, R12, R13, hb⟩
 obtain ⟨A5, c5, e5, _, _⟩ := Kd.R_reads R5
 subst e5
 obtain ⟨A7, c7, e7, _, _⟩ := Kd.R_reads R7
 subst e7
 obtain ⟨A12, c12, e12, _, _⟩ := Kd.R_reads R12
 subst e12
 obtain ⟨A13, c13, e13, _, _⟩ := Kd.R_reads R13
 subst e13
 exact ⟨A5, c5, A7, c7, A12, c12, A13, c13, rfl, ⟨(Kd.zbc R5).2.2, (Kd.zbc R5).2.1, (Kd.zbc R7).2.2, (Kd.zbc R7).2.1, (Kd.zbc R12).2.2, (Kd.zbc R12).2.1, (Kd.zbc R13).2.2, (Kd.zbc R13).2.1⟩, hb⟩
structure BB (w w2 wc : World) (gb : Nat) (v : Array Value) (gc : Nat) (u : Array Value) : Prop where
 l : BX w wc gb 26 v
 m : BX w2 wc gc 31 u
theorem BB.step {w w2 wc w' : World} {gb : Nat} {v : Array Value} {gc : Nat} {u : Array Value} (h : BB w w2 wc gb v gc u) (hb : Below wc.heap.size wc w') : BB w w2 w' gb v gc u := ⟨h.l.step hb, h.m.step hb⟩
def lf_T10 : Bool × List (List Nat × List Nat) := (true, [([], []), ([], []), ([1], [1]), ([0, 2, 2], [0, 2]), ([3], [3])])
def lf_B10 : List Nat := [0, 0, 2, 7, 15]
theorem lf_bits10 : waitsOk lf_T10.2 lf_B10 = true := by kernel_rfl
def FC (l0_5 : List Int) (l0_7 : List S58) (l0_12 l0_13 : List ByteArray) (w : World) (A5 : Option Addr) (c5 : Nat) (A7 : Option Addr) (c7 : Nat) (A12 : Option Addr) (c12 : Nat) (A13 : Option Addr) (c13 : Nat) : Prop :=
 Kd.C (Kd.int .i64) w A5 l0_5.length l0_5 ∧ l0_5.length ≤ c5 ∧ Kd.C k58 w A7 l0_7.length l0_7 ∧ l0_7.length ≤ c7 ∧ Kd.C Kd.string w A12 l0_12.length l0_12 ∧ l0_12.length ≤ c12 ∧ Kd.C Kd.string w A13 l0_13.length l0_13 ∧ l0_13.length ≤ c13
theorem FC.step {l0_5 : List Int} {l0_7 : List S58} {l0_12 l0_13 : List ByteArray} {w w' : World} {A5 : Option Addr} {c5 : Nat} {A7 : Option Addr} {c7 : Nat} {A12 : Option Addr} {c12 : Nat} {A13 : Option Addr} {c13 : Nat} (h : FC l0_5 l0_7 l0_12 l0_13 w A5 c5 A7 c7 A12 c12 A13 c13) (hb : Below w.heap.size w w') : FC l0_5 l0_7 l0_12 l0_13 w' A5 c5 A7 c7 A12 c12 A13 c13 :=
 ⟨Kd.za6 h.1 hb, h.2.1, Kd.za6 h.2.2.1 hb, h.2.2.2.1, Kd.za6 h.2.2.2.2.1 hb, h.2.2.2.2.2.1, Kd.za6 h.2.2.2.2.2.2.1 hb, h.2.2.2.2.2.2.2⟩
theorem eq_calls (w : World) {A1_5 : Option Addr} {c1_5 : Nat} {A1_7 : Option Addr} {c1_7 : Nat} {A1_12 : Option Addr} {c1_12 : Nat} {A1_13 : Option Addr} {c1_13 : Nat} {A3_5 : Option Addr} {c3_5 : Nat} {A3_7 : Option Addr} {c3_7 : Nat} {A3_12 : Option Addr} {c3_12 : Nat} {A3_13 : Option Addr} {c3_13 : Nat} (hF : FC l0_5 (l0_7.map plOf) l0_12 l0_13 w A1_5 c1_5 A1_7 c1_7 A1_12 c1_12 A1_13 c1_13) (hE : FC l0_5 (l0_7.map plOf) l0_12 l0_13 w A3_5 c3_5 A3_7 c3_7 A3_12 c3_12 A3_13 c3_13) (hT : l0_5.length ≤ 1073741824 ∧ l0_7.length ≤ 1073741824 ∧ l0_12.length ≤ 1073741824 ∧ l0_13.length ≤ 1073741824) :
  Calls Tryz.prog 12 #[.agg #[.string a0_0, .string a0_1, .string a0_2, .string a0_3, .string a0_4, .slice A1_5 l0_5.length c1_5, .int .i64 a0_6, .slice A1_7 l0_7.length c1_7, .string a0_8, .string a0_9, .string a0_10, .string a0_11, .slice A1_12 l0_12.length c1_12, .slice A1_13 l0_13.length c1_13, .string a0_14], .agg #[.string a0_0, .string a0_1, .string a0_2, .string a0_3, .string a0_4, .slice A3_5 l0_5.length c3_5, .int .i64 a0_6, .slice A3_7 l0_7.length c3_7, .string a0_8, .string a0_9, .string a0_10, .string a0_11, .slice A3_12 l0_12.length c3_12, .slice A3_13 l0_13.length c3_13, .string a0_14]] w fun e w' => e = .returned (.bool true) ∧ Below w.heap.size w w' := by
 have hh := eqLoc_same a0_0 a0_1 a0_2 a0_3 a0_4 A1_5 c1_5 l0_5 a0_6 A1_7 c1_7 (l0_7.map plOf) a0_8 a0_9 a0_10 a0_11 A1_12 c1_12 l0_12 A1_13 c1_13 l0_13 a0_14 A3_5 c3_5 A3_7 c3_7 A3_12 c3_12 A3_13 c3_13 w hF.1 hF.2.1 hF.2.2.1 hF.2.2.2.1 hF.2.2.2.2.1 hF.2.2.2.2.2.1 hF.2.2.2.2.2.2.1 hF.2.2.2.2.2.2.2 hE.1 hE.2.1 hE.2.2.1 hE.2.2.2.1 hE.2.2.2.2.1 hE.2.2.2.2.2.1 hE.2.2.2.2.2.2.1 hE.2.2.2.2.2.2.2 hT.1 (by rw [List.length_map]; exact hT.2.1) hT.2.2.1 hT.2.2.2
 rwa [List.length_map] at hh
end Go.Proofs.YtfafjbolmeimmaaGreatDoor.P
namespace Go.Proofs.YtfafjbolmeimmaaGreatDoor.P
open Go.RowKit Go.Proofs.YtfafjbolmeimmaaGreatDoorW.PrintWords Go.Proofs.YtfafjbolmeimmaaGreatDoorW.PrintLast Go.Proofs.YtfafjbolmeimmaaGreatDoorW.PrintMore
set_option linter.unusedVariables false
set_option linter.unusedSimpArgs false
def rdy (a0_0 : ByteArray) (a0_1 : ByteArray) (a0_2 : ByteArray) (a0_3 : ByteArray) (a0_4 : ByteArray) (l0_5 : List Int) (a0_6 : Int) (l0_7 : List S58) (a0_8 : ByteArray) (a0_9 : ByteArray) (a0_10 : ByteArray) (a0_11 : ByteArray) (l0_12 : List ByteArray) (l0_13 : List ByteArray) (a0_14 : ByteArray) : Bool := okLoc a0_0 a0_1 a0_2 a0_3 a0_4 l0_5 a0_6 l0_7 a0_8 a0_9 a0_10 a0_11 l0_12 l0_13 a0_14 && decide (0 ≤ a0_6)
theorem rdy_i {a0_0 : ByteArray} {a0_1 : ByteArray} {a0_2 : ByteArray} {a0_3 : ByteArray} {a0_4 : ByteArray} {l0_5 : List Int} {a0_6 : Int} {l0_7 : List S58} {a0_8 : ByteArray} {a0_9 : ByteArray} {a0_10 : ByteArray} {a0_11 : ByteArray} {l0_12 : List ByteArray} {l0_13 : List ByteArray} {a0_14 : ByteArray} (h : okLoc a0_0 a0_1 a0_2 a0_3 a0_4 l0_5 a0_6 l0_7 a0_8 a0_9 a0_10 a0_11 l0_12 l0_13 a0_14 = true) : (a0_6 != -1) = decide (0 ≤ a0_6) := by
 unfold okLoc loc1 at h
 simp only [Bool.and_eq_true, Bool.not_eq_true', decide_eq_false_iff_not] at h
 have h1 : ¬ a0_6 < -1 := by obtain ⟨⟨⟨⟨⟨⟨⟨⟨⟨⟨⟨_, h⟩, _⟩, _⟩, _⟩, _⟩, _⟩, _⟩, _⟩, _⟩, _⟩, _⟩ := h; exact h
 by_cases h0 : a0_6 = -1
 ·subst h0; rfl
 rw [decide_eq_true (show 0 ≤ a0_6 by omega)]; simpa using h0
set_option maxHeartbeats 4000000 in
set_option maxRecDepth 100000 in
theorem srd_calls (a0_0 : ByteArray) (a0_1 : ByteArray) (a0_2 : ByteArray) (a0_3 : ByteArray) (a0_4 : ByteArray) (A0_5 : Option Addr) (c0_5 : Nat) (l0_5 : List Int) (a0_6 : Int) (A0_7 : Option Addr) (c0_7 : Nat) (l0_7 : List S58) (a0_8 : ByteArray) (a0_9 : ByteArray) (a0_10 : ByteArray) (a0_11 : ByteArray) (A0_12 : Option Addr) (c0_12 : Nat) (l0_12 : List ByteArray) (A0_13 : Option Addr) (c0_13 : Nat) (l0_13 : List ByteArray) (a0_14 : ByteArray) (w : World) (hr0_5 : Kd.C (Kd.int .i64) w A0_5 l0_5.length l0_5) (hc0_5 : l0_5.length ≤ c0_5) (hr0_7 : Kd.C k58 w A0_7 l0_7.length l0_7) (hc0_7 : l0_7.length ≤ c0_7) (hr0_12 : Kd.C Kd.string w A0_12 l0_12.length l0_12) (hc0_12 : l0_12.length ≤ c0_12) (hr0_13 : Kd.C Kd.string w A0_13 l0_13.length l0_13) (hc0_13 : l0_13.length ≤ c0_13) (hs : smallLoc a0_0 a0_1 a0_2 a0_3 a0_4 l0_5 l0_7 a0_8 a0_9 a0_10 a0_11 l0_12 l0_13 a0_14 = true) : CW w 52 #[.agg #[.string a0_0, .string a0_1, .string a0_2, .string a0_3, .string a0_4, .slice A0_5 l0_5.length c0_5, .int .i64 a0_6, .slice A0_7 l0_7.length c0_7, .string a0_8, .string a0_9, .string a0_10, .string a0_11, .slice A0_12 l0_12.length c0_12, .slice A0_13 l0_13.length c0_13, .string a0_14]] (.bool (rdy a0_0 a0_1 a0_2 a0_3 a0_4 l0_5 a0_6 l0_7 a0_8 a0_9 a0_10 a0_11 l0_12 l0_13 a0_14)) := by
 intro w1 hb
 have CF : zaa (CW w1 9 #[.agg #[.string a0_0, .string a0_1, .string a0_2, .string a0_3, .string a0_4, .slice A0_5 l0_5.length c0_5, .int .i64 a0_6, .slice A0_7 l0_7.length c0_7, .string a0_8, .string a0_9, .string a0_10, .string a0_11, .slice A0_12 l0_12.length c0_12, .slice A0_13 l0_13.length c0_13, .string a0_14]] (.int .i64 (if okLoc a0_0 a0_1 a0_2 a0_3 a0_4 l0_5 a0_6 l0_7 a0_8 a0_9 a0_10 a0_11 l0_12 l0_13 a0_14 = true then 0 else 1))) := ⟨fun w2 hb2 => by have hb := zam hb hb2; exact zaD.calls a0_0 a0_1 a0_2 a0_3 a0_4 A0_5 c0_5 l0_5 a0_6 A0_7 c0_7 l0_7 a0_8 a0_9 a0_10 a0_11 A0_12 c0_12 l0_12 A0_13 c0_13 l0_13 a0_14 _ w2 (Kd.za6 hr0_5 hb) hc0_5 (Kd.za6 hr0_7 hb) hc0_7 (Kd.za6 hr0_12 hb) hc0_12 (Kd.za6 hr0_13 hb) hc0_13 (if_pos hs)⟩
 clear hr0_5 hc0_5 hr0_7 hc0_7 hr0_12 hc0_12 hr0_13 hc0_13 hb hs
 cases hk : okLoc a0_0 a0_1 a0_2 a0_3 a0_4 l0_5 a0_6 l0_7 a0_8 a0_9 a0_10 a0_11 l0_12 l0_13 a0_14 with
 | false =>
  have HV : zaa (rdy a0_0 a0_1 a0_2 a0_3 a0_4 l0_5 a0_6 l0_7 a0_8 a0_9 a0_10 a0_11 l0_12 l0_13 a0_14 = false) := ⟨by unfold rdy; rw [hk]; rfl⟩
  rw [hk] at CF
  clear hk
  go_enter Tryz.func52, Tryz.ntmps52
  go_wp2_with (first | ((with_reducible refine zaF (N := 1) rfl ?_); refine zaO ?hg (N := 1) ?hd (cs := #[.string a0_0, .string a0_1, .string a0_2, .string a0_3, .string a0_4, .slice A0_5 l0_5.length c0_5, .int .i64 a0_6, .slice A0_7 l0_7.length c0_7, .string a0_8, .string a0_9, .string a0_10, .string a0_11, .slice A0_12 l0_12.length c0_12, .slice A0_13 l0_13.length c0_13, .string a0_14]) (t := 31) ?hr ?_; (case hd => rfl); (case hg => rfl); (case hr => first | (go_simp; done) | (go_simp; rfl)); intro gb hg wb hbox hb; have L : zaa (BX w1 wb gb 31 #[.string a0_0, .string a0_1, .string a0_2, .string a0_3, .string a0_4, .slice A0_5 l0_5.length c0_5, .int .i64 a0_6, .slice A0_7 l0_7.length c0_7, .string a0_8, .string a0_9, .string a0_10, .string a0_11, .slice A0_12 l0_12.length c0_12, .slice A0_13 l0_13.length c0_13, .string a0_14]) := ⟨⟨hb, hbox, yq31⟩⟩; clear hb hbox hg; obtain ⟨k0, k1, k2, k3, k4, k5, k6, k7, k8, k9, k10, k11, k12, k13, k14⟩ := L.out.at) | ((go_at_call 9; with_reducible refine (CW.go CF.out L.out.b).mono ?_); (rintro e wn ⟨rfl, hb⟩; have L1 := zaa.mk (L.out.step hb); clear L hb k0 k1 k2 k3 k4 k5 k6 k7 k8 k9 k10 k11 k12 k13 k14; have L := L1; clear L1; obtain ⟨k0, k1, k2, k3, k4, k5, k6, k7, k8, k9, k10, k11, k12, k13, k14⟩ := L.out.at)) | fail)
  go_ret
  exact ⟨by rw [HV.out]; rfl, L.out.b⟩
 | true =>
  have HV : zaa (rdy a0_0 a0_1 a0_2 a0_3 a0_4 l0_5 a0_6 l0_7 a0_8 a0_9 a0_10 a0_11 l0_12 l0_13 a0_14 = decide (0 ≤ a0_6)) := ⟨by unfold rdy; rw [hk]; rfl⟩
  rw [hk] at CF
  clear hk
  go_enter Tryz.func52, Tryz.ntmps52
  go_wp2_with (first | ((with_reducible refine zaF (N := 1) rfl ?_); refine zaO ?hg (N := 1) ?hd (cs := #[.string a0_0, .string a0_1, .string a0_2, .string a0_3, .string a0_4, .slice A0_5 l0_5.length c0_5, .int .i64 a0_6, .slice A0_7 l0_7.length c0_7, .string a0_8, .string a0_9, .string a0_10, .string a0_11, .slice A0_12 l0_12.length c0_12, .slice A0_13 l0_13.length c0_13, .string a0_14]) (t := 31) ?hr ?_; (case hd => rfl); (case hg => rfl); (case hr => first | (go_simp; done) | (go_simp; rfl)); intro gb hg wb hbox hb; have L : zaa (BX w1 wb gb 31 #[.string a0_0, .string a0_1, .string a0_2, .string a0_3, .string a0_4, .slice A0_5 l0_5.length c0_5, .int .i64 a0_6, .slice A0_7 l0_7.length c0_7, .string a0_8, .string a0_9, .string a0_10, .string a0_11, .slice A0_12 l0_12.length c0_12, .slice A0_13 l0_13.length c0_13, .string a0_14]) := ⟨⟨hb, hbox, yq31⟩⟩; clear hb hbox hg; obtain ⟨k0, k1, k2, k3, k4, k5, k6, k7, k8, k9, k10, k11, k12, k13, k14⟩ := L.out.at) | ((go_at_call 9; with_reducible refine (CW.go CF.out L.out.b).mono ?_); (rintro e wn ⟨rfl, hb⟩; have L1 := zaa.mk (L.out.step hb); clear L hb k0 k1 k2 k3 k4 k5 k6 k7 k8 k9 k10 k11 k12 k13 k14; have L := L1; clear L1; obtain ⟨k0, k1, k2, k3, k4, k5, k6, k7, k8, k9, k10, k11, k12, k13, k14⟩ := L.out.at)) | fail)
  go_ret
  exact ⟨by rw [HV.out]; rfl, L.out.b⟩
set_option maxHeartbeats 4000000 in
set_option maxRecDepth 100000 in
theorem ird_calls (a0_0 : ByteArray) (a0_1 : ByteArray) (a0_2 : ByteArray) (a0_3 : ByteArray) (a0_4 : ByteArray) (A0_5 : Option Addr) (c0_5 : Nat) (l0_5 : List Int) (a0_6 : Int) (A0_7 : Option Addr) (c0_7 : Nat) (l0_7 : List S58) (a0_8 : ByteArray) (a0_9 : ByteArray) (a0_10 : ByteArray) (a0_11 : ByteArray) (A0_12 : Option Addr) (c0_12 : Nat) (l0_12 : List ByteArray) (A0_13 : Option Addr) (c0_13 : Nat) (l0_13 : List ByteArray) (a0_14 : ByteArray) (w : World) (hr0_5 : Kd.C (Kd.int .i64) w A0_5 l0_5.length l0_5) (hc0_5 : l0_5.length ≤ c0_5) (hr0_7 : Kd.C k58 w A0_7 l0_7.length l0_7) (hc0_7 : l0_7.length ≤ c0_7) (hr0_12 : Kd.C Kd.string w A0_12 l0_12.length l0_12) (hc0_12 : l0_12.length ≤ c0_12) (hr0_13 : Kd.C Kd.string w A0_13 l0_13.length l0_13) (hc0_13 : l0_13.length ≤ c0_13) (hG : GT w) (hs : smallLoc a0_0 a0_1 a0_2 a0_3 a0_4 l0_5 l0_7 a0_8 a0_9 a0_10 a0_11 l0_12 l0_13 a0_14 = true) : CW w 55 #[.agg #[.string a0_0, .string a0_1, .string a0_2, .string a0_3, .string a0_4, .slice A0_5 l0_5.length c0_5, .int .i64 a0_6, .slice A0_7 l0_7.length c0_7, .string a0_8, .string a0_9, .string a0_10, .string a0_11, .slice A0_12 l0_12.length c0_12, .slice A0_13 l0_13.length c0_13, .string a0_14]] (.bool (rdy a0_0 a0_1 a0_2 a0_3 a0_4 l0_5 a0_6 l0_7 a0_8 a0_9 a0_10 a0_11 l0_12 l0_13 a0_14)) := by
 intro w1 hb
 have CF : zaa (CW w1 11 #[.agg #[.string a0_0, .string a0_1, .string a0_2, .string a0_3, .string a0_4, .slice A0_5 l0_5.length c0_5, .int .i64 a0_6, .slice A0_7 l0_7.length c0_7, .string a0_8, .string a0_9, .string a0_10, .string a0_11, .slice A0_12 l0_12.length c0_12, .slice A0_13 l0_13.length c0_13, .string a0_14]] (.int .i64 (if okLoc a0_0 a0_1 a0_2 a0_3 a0_4 l0_5 a0_6 l0_7 a0_8 a0_9 a0_10 a0_11 l0_12 l0_13 a0_14 = true then 0 else 1))) := ⟨fun w2 hb2 => by have hb := zam hb hb2; exact zaA.calls a0_0 a0_1 a0_2 a0_3 a0_4 A0_5 c0_5 l0_5 a0_6 A0_7 c0_7 l0_7 a0_8 a0_9 a0_10 a0_11 A0_12 c0_12 l0_12 A0_13 c0_13 l0_13 a0_14 _ w2 (Kd.za6 hr0_5 hb) hc0_5 (Kd.za6 hr0_7 hb) hc0_7 (Kd.za6 hr0_12 hb) hc0_12 (Kd.za6 hr0_13 hb) hc0_13 (GT_below hG hb) (if_pos hs)⟩
 clear hr0_5 hc0_5 hr0_7 hc0_7 hr0_12 hc0_12 hr0_13 hc0_13 hb hs hG
 cases hk : okLoc a0_0 a0_1 a0_2 a0_3 a0_4 l0_5 a0_6 l0_7 a0_8 a0_9 a0_10 a0_11 l0_12 l0_13 a0_14 with
 | false =>
  have HV : zaa (rdy a0_0 a0_1 a0_2 a0_3 a0_4 l0_5 a0_6 l0_7 a0_8 a0_9 a0_10 a0_11 l0_12 l0_13 a0_14 = false) := ⟨by unfold rdy; rw [hk]; rfl⟩
  rw [hk] at CF
  clear hk
  go_enter Tryz.func55, Tryz.ntmps55
  go_wp2_with (first | ((with_reducible refine zaF (N := 1) rfl ?_); refine zaO ?hg (N := 1) ?hd (cs := #[.string a0_0, .string a0_1, .string a0_2, .string a0_3, .string a0_4, .slice A0_5 l0_5.length c0_5, .int .i64 a0_6, .slice A0_7 l0_7.length c0_7, .string a0_8, .string a0_9, .string a0_10, .string a0_11, .slice A0_12 l0_12.length c0_12, .slice A0_13 l0_13.length c0_13, .string a0_14]) (t := 31) ?hr ?_; (case hd => rfl); (case hg => rfl); (case hr => first | (go_simp; done) | (go_simp; rfl)); intro gb hg wb hbox hb; have L : zaa (BX w1 wb gb 31 #[.string a0_0, .string a0_1, .string a0_2, .string a0_3, .string a0_4, .slice A0_5 l0_5.length c0_5, .int .i64 a0_6, .slice A0_7 l0_7.length c0_7, .string a0_8, .string a0_9, .string a0_10, .string a0_11, .slice A0_12 l0_12.length c0_12, .slice A0_13 l0_13.length c0_13, .string a0_14]) := ⟨⟨hb, hbox, yq31⟩⟩; clear hb hbox hg; obtain ⟨k0, k1, k2, k3, k4, k5, k6, k7, k8, k9, k10, k11, k12, k13, k14⟩ := L.out.at) | ((go_at_call 11; with_reducible refine (CW.go CF.out L.out.b).mono ?_); (rintro e wn ⟨rfl, hb⟩; have L1 := zaa.mk (L.out.step hb); clear L hb k0 k1 k2 k3 k4 k5 k6 k7 k8 k9 k10 k11 k12 k13 k14; have L := L1; clear L1; obtain ⟨k0, k1, k2, k3, k4, k5, k6, k7, k8, k9, k10, k11, k12, k13, k14⟩ := L.out.at)) | fail)
  go_ret
  exact ⟨by rw [HV.out]; rfl, L.out.b⟩
 | true =>
  have HV : zaa (rdy a0_0 a0_1 a0_2 a0_3 a0_4 l0_5 a0_6 l0_7 a0_8 a0_9 a0_10 a0_11 l0_12 l0_13 a0_14 = (a0_6 != -1)) := ⟨by unfold rdy; rw [hk]; exact (rdy_i hk).symm⟩
  rw [hk] at CF
  clear hk
  go_enter Tryz.func55, Tryz.ntmps55
  go_wp2_with (first | ((with_reducible refine zaF (N := 1) rfl ?_); refine zaO ?hg (N := 1) ?hd (cs := #[.string a0_0, .string a0_1, .string a0_2, .string a0_3, .string a0_4, .slice A0_5 l0_5.length c0_5, .int .i64 a0_6, .slice A0_7 l0_7.length c0_7, .string a0_8, .string a0_9, .string a0_10, .string a0_11, .slice A0_12 l0_12.length c0_12, .slice A0_13 l0_13.length c0_13, .string a0_14]) (t := 31) ?hr ?_; (case hd => rfl); (case hg => rfl); (case hr => first | (go_simp; done) | (go_simp; rfl)); intro gb hg wb hbox hb; have L : zaa (BX w1 wb gb 31 #[.string a0_0, .string a0_1, .string a0_2, .string a0_3, .string a0_4, .slice A0_5 l0_5.length c0_5, .int .i64 a0_6, .slice A0_7 l0_7.length c0_7, .string a0_8, .string a0_9, .string a0_10, .string a0_11, .slice A0_12 l0_12.length c0_12, .slice A0_13 l0_13.length c0_13, .string a0_14]) := ⟨⟨hb, hbox, yq31⟩⟩; clear hb hbox hg; obtain ⟨k0, k1, k2, k3, k4, k5, k6, k7, k8, k9, k10, k11, k12, k13, k14⟩ := L.out.at) | ((go_at_call 11; with_reducible refine (CW.go CF.out L.out.b).mono ?_); (rintro e wn ⟨rfl, hb⟩; have L1 := zaa.mk (L.out.step hb); clear L hb k0 k1 k2 k3 k4 k5 k6 k7 k8 k9 k10 k11 k12 k13 k14; have L := L1; clear L1; obtain ⟨k0, k1, k2, k3, k4, k5, k6, k7, k8, k9, k10, k11, k12, k13, k14⟩ := L.out.at)) | fail)
  go_ret
  exact ⟨by rw [HV.out]; rfl, L.out.b⟩
end Go.Proofs.YtfafjbolmeimmaaGreatDoor.P
