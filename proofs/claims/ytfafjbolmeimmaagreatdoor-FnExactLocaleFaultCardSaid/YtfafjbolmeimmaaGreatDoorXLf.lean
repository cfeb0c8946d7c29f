/- impl.LocaleFault, walked: the stages joined. -/
import Derived.Test.YtfafjbolmeimmaaGreatDoorF19
import Derived.Test.YtfafjbolmeimmaaGreatDoorXLfA
import Derived.Test.YtfafjbolmeimmaaGreatDoorXLfB
import Derived.Test.YtfafjbolmeimmaaGreatDoorXLfC
import Derived.Test.YtfafjbolmeimmaaGreatDoorF18
import Derived.Test.YtfafjbolmeimmaaGreatDoorXLfE
import Derived.Test.YtfafjbolmeimmaaGreatDoorXLfF
import Derived.Test.YtfafjbolmeimmaaGreatDoorXLfG
import Derived.Test.YtfafjbolmeimmaaGreatDoorF20
namespace Go.Proofs.YtfafjbolmeimmaaGreatDoor.P
open Go.RowKit Go.Proofs.YtfafjbolmeimmaaGreatDoorW.PrintWords Go.Proofs.YtfafjbolmeimmaaGreatDoorW.PrintLast Go.Proofs.YtfafjbolmeimmaaGreatDoorW.PrintMore
set_option linter.unusedVariables false
set_option linter.unusedSimpArgs false
def zaD.f (a0_0 : ByteArray) (a0_1 : ByteArray) (a0_2 : ByteArray) (a0_3 : ByteArray) (a0_4 : ByteArray) (l0_5 : List Int) (a0_6 : Int) (l0_7 : List S58) (a0_8 : ByteArray) (a0_9 : ByteArray) (a0_10 : ByteArray) (a0_11 : ByteArray) (l0_12 : List ByteArray) (l0_13 : List ByteArray) (a0_14 : ByteArray) : Option Int := if smallLoc a0_0 a0_1 a0_2 a0_3 a0_4 l0_5 l0_7 a0_8 a0_9 a0_10 a0_11 l0_12 l0_13 a0_14 = true then some (if okLoc a0_0 a0_1 a0_2 a0_3 a0_4 l0_5 a0_6 l0_7 a0_8 a0_9 a0_10 a0_11 l0_12 l0_13 a0_14 = true then 0 else 1) else none
theorem bad_all (p1 p2 p3 p4 p5 p6 p7 p8 : Bool) : (((((((!p1 || !p2) || !p3) || !p4) || !p5) || !p6) || !p7) || !p8) = !(p1 && p2 && p3 && p4 && p5 && p6 && p7 && p8) := by
 cases p1 <;> cases p2 <;> cases p3 <;> cases p4 <;> cases p5 <;> cases p6 <;> cases p7 <;> cases p8 <;> rfl
set_option maxHeartbeats 8000000 in
set_option maxRecDepth 1000000 in
theorem zaD.calls (a0_0 : ByteArray) (a0_1 : ByteArray) (a0_2 : ByteArray) (a0_3 : ByteArray) (a0_4 : ByteArray) (A0_5 : Option Addr) (c0_5 : Nat) (l0_5 : List Int) (a0_6 : Int) (A0_7 : Option Addr) (c0_7 : Nat) (l0_7 : List S58) (a0_8 : ByteArray) (a0_9 : ByteArray) (a0_10 : ByteArray) (a0_11 : ByteArray) (A0_12 : Option Addr) (c0_12 : Nat) (l0_12 : List ByteArray) (A0_13 : Option Addr) (c0_13 : Nat) (l0_13 : List ByteArray) (a0_14 : ByteArray) (r : Int) (w : World) (hr0_5 : Kd.C (Kd.int .i64) w A0_5 l0_5.length l0_5) (hc0_5 : l0_5.length ≤ c0_5) (hr0_7 : Kd.C k58 w A0_7 l0_7.length l0_7) (hc0_7 : l0_7.length ≤ c0_7) (hr0_12 : Kd.C Kd.string w A0_12 l0_12.length l0_12) (hc0_12 : l0_12.length ≤ c0_12) (hr0_13 : Kd.C Kd.string w A0_13 l0_13.length l0_13) (hc0_13 : l0_13.length ≤ c0_13) (hG : GT w) (h : zaD.f a0_0 a0_1 a0_2 a0_3 a0_4 l0_5 a0_6 l0_7 a0_8 a0_9 a0_10 a0_11 l0_12 l0_13 a0_14 = some r) :
  Calls Tryz.prog 11 #[.agg #[.string a0_0, .string a0_1, .string a0_2, .string a0_3, .string a0_4, .slice A0_5 l0_5.length c0_5, .int .i64 a0_6, .slice A0_7 l0_7.length c0_7, .string a0_8, .string a0_9, .string a0_10, .string a0_11, .slice A0_12 l0_12.length c0_12, .slice A0_13 l0_13.length c0_13, .string a0_14]] w fun e w' => e = .returned (.int .i64 r) ∧ Below w.heap.size w w' := by
 unfold zaD.f at h
 split at h
 case isFalse => cases h
 rename_i hs
 have hr := Option.some.inj h
 have SM := zab.mk hs; have HG := zab.mk hG
 obtain ⟨⟨s0, s1, s2, s3, s4, s8, s9, s10, s11, s14⟩, t5, t7, q7, t12, q12, t13, q13⟩ := small_parts' hs
 have K5 := zab.mk hr0_5; have K7 := zab.mk hr0_7; have K12 := zab.mk hr0_12; have K13 := zab.mk hr0_13
 go_enter Tryz.func11, Tryz.ntmps11
 refine wp_seq (lf_0 _ ?_)
 intros
 rename_i w0 L0
 change Code.wp _ _ _ _ _
 refine wp_seq (lf_A SM L0 _ ?_)
 intros
 rename_i w1 B1 L1
 change Code.wp _ _ _ _ _
 refine wp_seq (lf_B SM HG L1 _ ?_)
 intros
 rename_i w2 B2 L2
 change Code.wp _ _ _ _ _
 refine wp_seq (lf_C L2 _ ?_)
 intros
 rename_i w3 B3 L3
 change Code.wp _ _ _ _ _
 refine wp_seq (lf_D ⟨t5⟩ K5 L3 _ ?_)
 intros
 rename_i w4 B4 L4
 change Code.wp _ _ _ _ _
 refine wp_seq (lf_E SM HG K7 L4 _ ⟨fun _ _ n _ _ h => by cases n <;> exact h⟩ ?_)
 intros
 rename_i w5 B5 L5
 change Code.wp _ _ _ _ _
 refine wp_seq (lf_F SM HG L5 _ ?_)
 intros
 rename_i w6 B6 L6
 change Code.wp _ _ _ _ _
 refine wp_seq (lf_G SM HG K12 K13 L6 _ ?_)
 intros
 rename_i w7 B7 L7
 change Code.wp _ _ _ _ _
 refine lf_H ⟨s14⟩ HG ⟨?_⟩ L7
 rw [B7.out, B6.out, B5.out, B4.out, B3.out, B2.out, B1.out, bad_all, ← hr]
 unfold okLoc
 generalize (loc1 a0_0 a0_1 l0_5 a0_6 l0_7 && [a0_2, a0_3, a0_4].all signB && (apartB a0_2 a0_4 && apartB a0_2 a0_3) && l0_5.all szB && plFrom l0_7 0 && [a0_8, a0_9, a0_10, a0_11].all frameB && (labelsB l0_12 13 && labelsB l0_13 7) && (!decide (50 < (a0_14.size : Int)) && okB a0_14)) = x
 cases x <;> rfl
end Go.Proofs.YtfafjbolmeimmaaGreatDoor.P
