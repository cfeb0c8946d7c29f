/- impl's unit: the number that two or four bytes spell. -/
import Derived.Test.YtfafjbolmeimmaaDoorF0
import Derived.Test.YtfafjbolmeimmaaDoorXStT
import Derived.Test.YtfafjbolmeimmaaDoorShB
import Derived.Lib.ConvBytes
namespace Go.Proofs.YtfafjbolmeimmaaDoor.P
open Go.RowKit Go.Proofs.YtfafjbolmeimmaaDoorW.PrintWords Go.Proofs.YtfafjbolmeimmaaDoorW.PrintLast Go.Proofs.YtfafjbolmeimmaaDoorW.PrintMore
set_option linter.unusedVariables false
set_option linter.unusedSimpArgs false
def zbD.f (a0 : Int) (a1 : ByteArray) : Option Int :=
 if a1.size = 2 then some (u2 (decide (a0 = 2)) a1 0 : Int) else if a1.size = 4 then some (u4 (decide (a0 = 4)) a1 0 : Int) else none
theorem getD_bN (s : ByteArray) (j : Nat) (h : j < s.size) : s.data.toList.getD j 0 = s.get! j := by
 cases s with
 | mk d =>
  have h' : j < d.size := h
  show d.toList.getD j 0 = d[j]!
  rw [getElem!_pos d j h']
  simp [List.getD, h']
theorem w64_ {x : Int} (h0 : -9223372036854775808 ≤ x) (h1 : x ≤ 9223372036854775807) : wrap64 x = x := by unfold wrap64; omega
theorem u2_lt (b : Bool) (D : ByteArray) (i : Nat) : u2 b D i < 65536 := by
 unfold u2
 have := bN_lt D i
 have := bN_lt D (i + 1)
 split <;> omega
theorem u4_lt (b : Bool) (D : ByteArray) (i : Nat) : u4 b D i < 4294967296 := by
 unfold u4
 have := bN_lt D i
 have := bN_lt D (i + 1)
 have := bN_lt D (i + 2)
 have := bN_lt D (i + 3)
 split <;> omega
set_option maxHeartbeats 4000000 in
set_option maxRecDepth 100000 in
theorem zbD.calls (a0 : Int) (a1 : ByteArray) (r : Int) (w : World) (h : zbD.f a0 a1 = some r) :
  Calls Tryd.prog 45 #[.int .i64 a0, .string a1] w fun e w' => e = .returned (.int .i64 r) ∧ Below w.heap.size w w' := by
 have kc := fun (W : World) (s : ByteArray) => Lib.run_convert_string_bytes (P := Tryd.prog) W 9 22 5 s Tryd.underlying9 Tryd.underlying22 Tryd.underlying5
 have hbw : Below w.heap.size w (Lib.bytesWorld w 5 a1) := ⟨rfl, rfl, rfl, by rw [Lib.bytesWorld_size]; omega, fun k hk => Lib.bytesWorld_at_old w 5 a1 k hk⟩
 have hcell : ∀ j, j < a1.size → (Lib.bytesWorld w 5 a1).cell? ⟨w.heap.size, j, none⟩ = some (.int .u8 (a1.get! j).toNat) := fun j hj => by rw [Lib.bytesWorld_cell w 5 a1 j hj, getD_bN a1 j hj]
 have HB := zab.mk hbw; have HC := zab.mk hcell; clear hbw hcell
 unfold zbD.f at h
 by_cases h2 : a1.size = 2
 ·rw [if_pos h2] at h
  have hr := Option.some.inj h
  have HR := zab.mk hr; clear h hr; have H2 := zab.mk h2
  have b2 : ((a1.size : Int) == 2) = true := beq_iff_eq.mpr (by omega)
  clear h2
  by_cases hf : a0 = 2
  ·have b3 : (a0 == 2) = true := beq_iff_eq.mpr hf
   have HF := zab.mk hf; clear hf
   go_enter Tryd.func45, Tryd.ntmps45
   go_wp2_with (fail)
   refine (Tryd.binary_BE_Uint16 w.heap.size 0 a1.size _ (a1.get! 0) (a1.get! 1) (Lib.bytesWorld w 5 a1) (by have := H2.out; omega) (by first | exact HC.out 0 (by have := H2.out; omega) | exact (HC.out 0 (by have := H2.out; omega))) (by first | exact HC.out 1 (by have := H2.out; omega) | exact (HC.out 1 (by have := H2.out; omega)))).mono ?_
   rintro e w1 ⟨rfl, hb⟩
   have HB1 := zab.mk (zau HB.out hb)
   clear hb
   have e1 : ((Lib.beNat [a1.get! 0, a1.get! 1] : Nat) : Int) = r := by rw [← HR.out]; congr 1; unfold u2; rw [decide_eq_true HF.out, if_pos rfl]; simp [Lib.beNat, Lib.beFrom, Lib.leNat, bN]; try omega
   have hw : wrap64 ((Lib.beNat [a1.get! 0, a1.get! 1] : Nat) : Int) = r := by rw [e1, ← HR.out]; have := u2_lt (decide (a0 = 2)) a1 0; exact w64_ (by omega) (by omega)
   generalize ((Lib.beNat [a1.get! 0, a1.get! 1] : Nat) : Int) = z at *
   subst e1
   go_wp2
   go_ret
   exact ⟨by first | rfl | (simp; done) | (simp [hw]; done) | (simp [*]; done), HB1.out⟩
  have b3 : (a0 == 2) = false := beq_eq_false_iff_ne.mpr hf
  have HF := zab.mk hf; clear hf
  go_enter Tryd.func45, Tryd.ntmps45
  go_wp2_with (fail)
  refine (Tryd.binary_LE_Uint16 w.heap.size 0 a1.size _ (a1.get! 0) (a1.get! 1) (Lib.bytesWorld w 5 a1) (by have := H2.out; omega) (by first | exact HC.out 0 (by have := H2.out; omega) | exact (HC.out 0 (by have := H2.out; omega))) (by first | exact HC.out 1 (by have := H2.out; omega) | exact (HC.out 1 (by have := H2.out; omega)))).mono ?_
  rintro e w1 ⟨rfl, hb⟩
  have HB1 := zab.mk (zau HB.out hb)
  clear hb
  have e1 : ((Lib.leNat [a1.get! 0, a1.get! 1] : Nat) : Int) = r := by rw [← HR.out]; congr 1; unfold u2; rw [decide_eq_false HF.out, if_neg (by simp)]; simp [Lib.beNat, Lib.beFrom, Lib.leNat, bN]; try omega
  have hw : wrap64 ((Lib.leNat [a1.get! 0, a1.get! 1] : Nat) : Int) = r := by rw [e1, ← HR.out]; have := u2_lt (decide (a0 = 2)) a1 0; exact w64_ (by omega) (by omega)
  generalize ((Lib.leNat [a1.get! 0, a1.get! 1] : Nat) : Int) = z at *
  subst e1
  go_wp2
  go_ret
  exact ⟨by first | rfl | (simp; done) | (simp [hw]; done) | (simp [*]; done), HB1.out⟩
 rw [if_neg h2] at h
 by_cases h4 : a1.size = 4
 ·rw [if_pos h4] at h
  have hr := Option.some.inj h
  have HR := zab.mk hr; clear h hr; have H2 := zab.mk h4
  have b2 : ((a1.size : Int) == 2) = false := beq_eq_false_iff_ne.mpr (by omega)
  clear h2 h4
  by_cases hf : a0 = 4
  ·have b3 : (a0 == 4) = true := beq_iff_eq.mpr hf
   have HF := zab.mk hf; clear hf
   go_enter Tryd.func45, Tryd.ntmps45
   go_wp2_with (fail)
   refine (Tryd.binary_BE_Uint32 w.heap.size 0 a1.size _ (a1.get! 0) (a1.get! 1) (a1.get! 2) (a1.get! 3) (Lib.bytesWorld w 5 a1) (by have := H2.out; omega) (by first | exact HC.out 0 (by have := H2.out; omega) | exact (HC.out 0 (by have := H2.out; omega))) (by first | exact HC.out 1 (by have := H2.out; omega) | exact (HC.out 1 (by have := H2.out; omega))) (by first | exact HC.out 2 (by have := H2.out; omega) | exact (HC.out 2 (by have := H2.out; omega))) (by first | exact HC.out 3 (by have := H2.out; omega) | exact (HC.out 3 (by have := H2.out; omega)))).mono ?_
   rintro e w1 ⟨rfl, hb⟩
   have HB1 := zab.mk (zau HB.out hb)
   clear hb
   have e1 : ((Lib.beNat [a1.get! 0, a1.get! 1, a1.get! 2, a1.get! 3] : Nat) : Int) = r := by rw [← HR.out]; congr 1; unfold u4; rw [decide_eq_true HF.out, if_pos rfl]; simp [Lib.beNat, Lib.beFrom, Lib.leNat, bN]; try omega
   have hw : wrap64 ((Lib.beNat [a1.get! 0, a1.get! 1, a1.get! 2, a1.get! 3] : Nat) : Int) = r := by rw [e1, ← HR.out]; have := u4_lt (decide (a0 = 4)) a1 0; exact w64_ (by omega) (by omega)
   generalize ((Lib.beNat [a1.get! 0, a1.get! 1, a1.get! 2, a1.get! 3] : Nat) : Int) = z at *
   subst e1
   go_wp2
   go_ret
   exact ⟨by first | rfl | (simp; done) | (simp [hw]; done) | (simp [*]; done), HB1.out⟩
  have b3 : (a0 == 4) = false := beq_eq_false_iff_ne.mpr hf
  have HF := zab.mk hf; clear hf
  go_enter Tryd.func45, Tryd.ntmps45
  go_wp2_with (fail)
  refine (Tryd.binary_LE_Uint32 w.heap.size 0 a1.size _ (a1.get! 0) (a1.get! 1) (a1.get! 2) (a1.get! 3) (Lib.bytesWorld w 5 a1) (by have := H2.out; omega) (by first | exact HC.out 0 (by have := H2.out; omega) | exact (HC.out 0 (by have := H2.out; omega))) (by first | exact HC.out 1 (by have := H2.out; omega) | exact (HC.out 1 (by have := H2.out; omega))) (by first | exact HC.out 2 (by have := H2.out; omega) | exact (HC.out 2 (by have := H2.out; omega))) (by first | exact HC.out 3 (by have := H2.out; omega) | exact (HC.out 3 (by have := H2.out; omega)))).mono ?_
  rintro e w1 ⟨rfl, hb⟩
  have HB1 := zab.mk (zau HB.out hb)
  clear hb
  have e1 : ((Lib.leNat [a1.get! 0, a1.get! 1, a1.get! 2, a1.get! 3] : Nat) : Int) = r := by rw [← HR.out]; congr 1; unfold u4; rw [decide_eq_false HF.out, if_neg (by simp)]; simp [Lib.beNat, Lib.beFrom, Lib.leNat, bN]; try omega
  have hw : wrap64 ((Lib.leNat [a1.get! 0, a1.get! 1, a1.get! 2, a1.get! 3] : Nat) : Int) = r := by rw [e1, ← HR.out]; have := u4_lt (decide (a0 = 4)) a1 0; exact w64_ (by omega) (by omega)
  generalize ((Lib.leNat [a1.get! 0, a1.get! 1, a1.get! 2, a1.get! 3] : Nat) : Int) = z at *
  subst e1
  go_wp2
  go_ret
  exact ⟨by first | rfl | (simp; done) | (simp [hw]; done) | (simp [*]; done), HB1.out⟩
 rw [if_neg h4] at h
 cases h
end Go.Proofs.YtfafjbolmeimmaaDoor.P
