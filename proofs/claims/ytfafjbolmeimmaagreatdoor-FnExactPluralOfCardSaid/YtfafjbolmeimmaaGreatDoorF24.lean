/- Parts of a proof: words of the print tool that this claim uses, or plain lists. -/
import Derived.Test.YtfafjbolmeimmaaGreatDoorAb
import Derived.Test.YtfafjbolmeimmaaGreatDoorF23
import Derived.Test.YtfafjbolmeimmaaGreatDoorF17
import Derived.Test.YtfafjbolmeimmaaGreatDoorF9
import Derived.Test.YtfafjbolmeimmaaGreatDoorF7
import Derived.Test.YtfafjbolmeimmaaGreatDoorF5
import Derived.Laws.CopyOwn
namespace Go.Proofs.YtfafjbolmeimmaaGreatDoor.P
open Go.RowKit Go.Proofs.YtfafjbolmeimmaaGreatDoorW.PrintWords Go.Proofs.YtfafjbolmeimmaaGreatDoorW.PrintLast Go.Proofs.YtfafjbolmeimmaaGreatDoorW.PrintMore
set_option linter.unusedVariables false
set_option linter.unusedSimpArgs false
set_option maxHeartbeats 4000000 in
set_option maxRecDepth 100000 in
theorem spl_calls (a0_0 : ByteArray) (a0_1 : ByteArray) (a0_2 : ByteArray) (a0_3 : ByteArray) (a0_4 : ByteArray) (A0_5 : Option Addr) (c0_5 : Nat) (l0_5 : List Int) (a0_6 : Int) (A0_7 : Option Addr) (c0_7 : Nat) (l0_7 : List S58) (a0_8 : ByteArray) (a0_9 : ByteArray) (a0_10 : ByteArray) (a0_11 : ByteArray) (A0_12 : Option Addr) (c0_12 : Nat) (l0_12 : List ByteArray) (A0_13 : Option Addr) (c0_13 : Nat) (l0_13 : List ByteArray) (a0_14 : ByteArray) (num p : Int) (w : World) (hr0_5 : Kd.C (Kd.int .i64) w A0_5 l0_5.length l0_5) (hc0_5 : l0_5.length ≤ c0_5) (hr0_7 : Kd.C k58 w A0_7 l0_7.length l0_7) (hc0_7 : l0_7.length ≤ c0_7) (hr0_12 : Kd.C Kd.string w A0_12 l0_12.length l0_12) (hc0_12 : l0_12.length ≤ c0_12) (hr0_13 : Kd.C Kd.string w A0_13 l0_13.length l0_13) (hc0_13 : l0_13.length ≤ c0_13) (k : Nat) (wh pt : ByteArray) (i f v : Int) (hw : zaT.f k num p = some (wh, pt)) (h1 : za5.f k wh = some i) (h2 : za5.f k pt = some f) (hv : v = pt.size) (hp : pt.size ≤ 9) (hi0 : 0 ≤ i) (hf0 : 0 ≤ f) (hn : l0_7.length ≤ 1048576) (hR : ∀ j, j < l0_7.length → (whenI (za8 l0_7 (j : Int)).f1.data.toList).isSome = true) :
  Calls Tryz.prog 58 #[.agg #[.string a0_0, .string a0_1, .string a0_2, .string a0_3, .string a0_4, .slice A0_5 l0_5.length c0_5, .int .i64 a0_6, .slice A0_7 l0_7.length c0_7, .string a0_8, .string a0_9, .string a0_10, .string a0_11, .slice A0_12 l0_12.length c0_12, .slice A0_13 l0_13.length c0_13, .string a0_14], .int .i64 num, .int .i64 p] w fun e w' => e = .returned (.string (plV i f v l0_7)) ∧ Below w.heap.size w w' := by
 have HC := zaa.mk hr0_7; have HN := zaa.mk hn; have HR := zaa.mk hR
 have CW1 : zaa (∀ w1, Calls Tryz.prog 89 #[.int .i64 num, .int .i64 p] w1 fun e w' => e = .returned (.tuple #[.string wh, .string pt]) ∧ Below w1.heap.size w1 w') := ⟨fun w1 => zaT.calls k num p wh pt w1 hw⟩
 have CH : zaa (∀ (t : TI) w1, tOk t → Calls Tryz.prog 90 #[.agg #[.int .u8 t.1, .int .i64 t.2.1, .bool t.2.2.1, .int .i64 t.2.2.2.1, .int .i64 t.2.2.2.2], .string wh, .string pt] w1 fun e w' => e = .returned (.bool (tH i f v t)) ∧ Below w1.heap.size w1 w') := ⟨fun t w1 ht => by rw [hv]; exact sh_calls t.1 t.2.1 t.2.2.2.1 t.2.2.2.2 t.2.2.1 wh pt i f k ht h1 h2 hp hi0 hf0 w1⟩
 clear hr0_5 hc0_5 hr0_7 hc0_7 hr0_12 hc0_12 hr0_13 hc0_13 hw h1 h2 hv hp hi0 hf0 hn hR
 go_enter Tryz.func58, Tryz.ntmps58
 go_wp2_with (first
  | ((with_reducible refine zaF (N := 3) rfl ?_); refine zaO ?hg (N := 3) ?hd (cs := #[.string a0_0, .string a0_1, .string a0_2, .string a0_3, .string a0_4, .slice A0_5 l0_5.length c0_5, .int .i64 a0_6, .slice A0_7 l0_7.length c0_7, .string a0_8, .string a0_9, .string a0_10, .string a0_11, .slice A0_12 l0_12.length c0_12, .slice A0_13 l0_13.length c0_13, .string a0_14]) (t := 31) ?hr ?_; (case hd => rfl); (case hg => rfl); (case hr => first | (go_simp; done) | (go_simp; rfl)); intro g hg wb hbox hb; have BK := zaa.mk hbox; have HB := zaa.mk hb; clear hb hbox hg)
  | ((with_reducible refine (CW1.out _).mono ?_); rintro e w1 ⟨rfl, hb⟩; have BK1 := zaa.mk (zaH BK.out hb); have HB1 := zaa.mk (zam HB.out hb); clear hb BK HB CW1)
  | fail)
 go_loopg [9] (l0_7.length + 1) (fun gk v9 wr => ∃ (x : Int) (j : Nat), v9 = .int .i64 x ∧ zaa (x = (j : Int) ∧ j ≤ l0_7.length ∧ l0_7.length + 1 ≤ gk + j ∧ ∀ y, y < j → rowsH i f v (plW (za8 l0_7 (y : Int))) = false) ∧ zaa (wr.heap[g]? = some (.cells #[.string a0_0, .string a0_1, .string a0_2, .string a0_3, .string a0_4, .slice A0_5 l0_5.length c0_5, .int .i64 a0_6, .slice A0_7 l0_7.length c0_7, .string a0_8, .string a0_9, .string a0_10, .string a0_11, .slice A0_12 l0_12.length c0_12, .slice A0_13 l0_13.length c0_13, .string a0_14] 31 (0, 0))) ∧ zaa (Below w.heap.size w wr))
 case atStart => exact ⟨0, 0, rfl, ⟨rfl, Nat.zero_le _, Nat.le_refl _, fun y hy => absurd hy (Nat.not_lt_zero _)⟩, BK1, HB1⟩
 case round =>
  clear BK1 HB1
  rename World => wo
  obtain ⟨x, j, rfl, HX, BK, HB⟩ := hrel
  have z7 := (zah BK.out 7).trans rfl
  cases gk with
  | zero => exact absurd HX.out.2.2.1 (by have := HX.out.2.1; omega)
  | succ k1 =>
   by_cases hlt : j < l0_7.length
   case neg =>
    have g1 : decide (x < (l0_7.length : Int)) = false := decide_eq_false (yq32 HX.out)
    have HV := zaa.mk (plV_end (fun y hy => HX.out.2.2.2 y yq10))
    clear hlt
    go_wp2
    go_ret
    exact ⟨by rw [HV.out]; rfl, HB.out⟩
   have g1 : decide (x < (l0_7.length : Int)) = true := decide_eq_true (yq32 HX.out)
   have g2 : (0 ≤ x) = True := eq_true (yq32 HX.out)
   have g3 : (x < (l0_7.length : Int)) = True := eq_true (yq32 HX.out)
   obtain ⟨ad, ea, hc0, hc1⟩ := at_T58 (Kd.za6 HC.out HB.out) x (yq32 HX.out) (yq32 HX.out)
   have HL := zaa.mk hlt
   have hRj := HR.out j hlt
   rw [← HX.out.1] at hRj
   obtain ⟨R, hR⟩ := Option.isSome_iff_exists.1 hRj
   obtain ⟨pr, hpr⟩ : ∃ pr, za8 l0_7 x = pr := ⟨_, rfl⟩
   rw [hpr] at hc0 hc1 hR
   have HP := zaa.mk (show plW pr = R by unfold plW; rw [hR]; rfl)
   have HPR := zaa.mk hpr; have HRR := zaa.mk hR
   have HC0 := zaa.mk (And.intro ea hc0)
   cases ea
   clear hlt hRj hR hpr hc0
   go_upto_region 6 with (first
    | ((with_reducible refine (rows_calls pr.f1 R HRR.out _).mono ?_); rintro e w2 ⟨vr, rfl, hr, hb⟩; have BK2 := zaa.mk (zaH BK.out hb); have HB2 := zaa.mk (zam HB.out hb); have HO := zaa.mk hr; have HBo := zaa.mk hb; clear hb hr)
    | fail)
   obtain ⟨A10, c10, e10, _, hCR⟩ := Kd.R_reads HO.out
   subst e10; have HCR := zaa.mk hCR
   have HLR : zaa (R.length ≤ 1048576) := ⟨by have h := HRR.out; unfold whenI at h; split at h; cases h; rename_i h5; have h6 := (sp_le 124 pr.f1.data.toList).1; have h7 : R.length = (sp 124 pr.f1.data.toList).length := mapO_len h; omega⟩
   have HLT : zaa (∀ k : Int, (R.getD k.toNat []).length ≤ 1048576) := ⟨fun k => when_len HRR.out k⟩
   clear z7 g1 g2 g3 hc1 hCR HO BK HB
   go_wp2_with (fail)
   go_loopg [12, 13, 14] (R.length + 1) (fun gk v12 v13 v14 wr => ∃ (y : Int) (q : Nat), v12 = .int .i64 y ∧ zaa (y = (q : Int) ∧ q ≤ R.length ∧ R.length + 1 ≤ gk + q ∧ rowsH i f v (R.take q) = false) ∧ zaa (Below w2.heap.size w2 wr))
   case atStart => exact ⟨0, 0, rfl, ⟨rfl, Nat.zero_le _, Nat.le_refl _, rfl⟩, ⟨Below.refl _ _⟩⟩
   case round =>
    obtain ⟨y, q, rfl, HY, HBy⟩ := hrel
    cases gk with
    | zero => exact absurd HY.out.2.2.1 (by have := HY.out.2.1; omega)
    | succ k2 =>
     by_cases hlt : q < R.length
     case neg =>
      have g1 : decide (y < (R.length : Int)) = false := decide_eq_false (yq32 HY.out)
      have HN1 : zaa (rowsH i f v (plW (za8 l0_7 (j : Int))) = false) := ⟨by rw [← HX.out.1, HPR.out, HP.out]; have h := HY.out.2.2.2; rw [List.take_of_length_le yq10] at h; exact h⟩
      clear hlt
      go_wp2
      go_roundg k1
      case measure => have := HX.out; have := HL.out; omega
      case rel => exact ⟨_, j + 1, rfl, ⟨yq39 HX.out HL.out HN.out, HL.out, by have := HX.out.2.2.1; omega, fun z hz => by rcases Nat.lt_succ_iff_lt_or_eq.1 hz with h1 | rfl; exact HX.out.2.2.2 z h1; exact HN1.out⟩, ⟨zaH BK2.out HBy.out⟩, ⟨zam HB2.out HBy.out⟩⟩
     have HLy := zaa.mk hlt
     have g1 : decide (y < (R.length : Int)) = true := decide_eq_true (yq32 HY.out)
     clear hlt
     obtain ⟨r, hr⟩ : ∃ r, R.getD y.toNat [] = r := ⟨_, rfl⟩
     have HRY := zaa.mk hr
     have HRL : zaa (r.length ≤ 1048576) := ⟨by rw [← hr]; exact HLT.out y⟩
     have g2 : (0 ≤ y) = True := eq_true (yq32 HY.out)
     have g3 : (y < (R.length : Int)) = True := eq_true (by have := HY.out.1; have := HLy.out; omega)
     clear hr
     go_wp2_with (fail)
     go_loopg [13, 14] (r.length + 1) (fun gk v13 v14 ws => ∃ (al : Bool) (zx : Int) (m : Nat), v13 = .bool al ∧ v14 = .int .i64 zx ∧ zaa (zx = (m : Int) ∧ m ≤ r.length ∧ r.length + 1 ≤ gk + m ∧ al = (r.take m).all (tH i f v)) ∧ zaa (Below w2.heap.size w2 ws))
     case atStart => exact ⟨true, 0, 0, rfl, rfl, ⟨rfl, Nat.zero_le _, Nat.le_refl _, rfl⟩, HBy⟩
     case round =>
      clear HBy
      rename World => ws
      obtain ⟨al, zx, m, rfl, rfl, HM, HBs⟩ := hrel
      cases gk with
      | zero => exact absurd HM.out.2.2.1 (by have := HM.out.2.1; omega)
      | succ k3 =>
       obtain ⟨ad1, A0, c0, e1, hc, hC⟩ := at_dS (Kd.za6 HCR.out HBs.out) y (yq32 HY.out) (by have := HY.out.1; have := HLy.out; omega)
       rw [HRY.out] at hc hC
       have HCr := zaa.mk hC; clear hC
       cases e1
       by_cases hm : m < r.length
       ·have g4 : decide (zx < (r.length : Int)) = true := decide_eq_true (yq32 HM.out)
        have hall := all_snoc (i := i) (f := f) (v := v) r m hm
        rw [← HM.out.2.2.2] at hall
        have HLm := zaa.mk hm
        cases al with
        | false =>
         have HA := zaa.mk hall; clear hm hall
         go_wp2
         go_roundg k3
         case measure => have := HM.out; have := HLm.out; omega
         case rel => exact ⟨false, _, m + 1, rfl, rfl, ⟨yq39 HM.out HRL.out HLm.out, HLm.out, by have := HM.out.2.2.1; omega, by rw [HA.out]; rfl⟩, HBs⟩
        | true =>
         obtain ⟨ad2, e2, hcs⟩ := at_dT HCr.out zx (yq32 HM.out) (yq32 HM.out)
         have hok := when_ok HRR.out y zx
         rw [HRY.out] at hok
         have hz : zx.toNat = m := by have := HM.out.1; omega
         obtain ⟨t, ht⟩ : ∃ t, r.getD zx.toNat zT = t := ⟨_, rfl⟩
         have ht2 : r.getD m zT = t := by rw [← hz]; exact ht
         rw [ht2, Bool.true_and] at hall
         rw [ht] at hok hcs
         have HA := zaa.mk hall; have HOK := zaa.mk hok
         obtain ⟨t1, t2, t3, t4, t5⟩ := t
         obtain ⟨q0, q1, q2, q3, q4⟩ := hcs t1 t2 t3 t4 t5 rfl
         have g5 : (0 ≤ zx) = True := eq_true (yq32 HM.out)
         have g6 : (zx < (r.length : Int)) = True := eq_true (yq32 HM.out)
         cases e2
         clear hm hall hok ht ht2 hz hcs
         go_wp2_with (first
          | ((with_reducible refine (CH.out (t1, t2, t3, t4, t5) _ HOK.out).mono ?_); rintro e wt ⟨rfl, hb⟩; have HBt := zaa.mk (zam HBs.out hb); clear hb)
          | fail)
         go_roundg k3
         case measure => have := HM.out; have := HLm.out; omega
         case rel => exact ⟨_, _, m + 1, rfl, rfl, ⟨yq39 HM.out HRL.out HLm.out, HLm.out, by have := HM.out.2.2.1; omega, HA.out.symm⟩, HBt⟩
       have g4 : decide (zx < (r.length : Int)) = false := decide_eq_false (yq32 HM.out)
       have hq : y.toNat = q := by have := HY.out.1; omega
       have hany := any_snoc (i := i) (f := f) (v := v) R q HLy.out
       rw [HY.out.2.2.2, Bool.false_or, ← hq, HRY.out, hq] at hany
       have hale := HM.out.2.2.2
       rw [List.take_of_length_le yq10] at hale
       rw [← hale] at hany
       have HAN := zaa.mk hany; clear hm hq hany hale
       cases al with
       | false =>
        go_wp2
        go_roundg k2
        case measure => have := HY.out; have := HLy.out; omega
        case rel => exact ⟨_, q + 1, rfl, ⟨yq39 HY.out HLy.out HLR.out, HLy.out, by have := HY.out.2.2.1; omega, HAN.out⟩, HBs⟩
       | true =>
        have HV : zaa (plV i f v l0_7 = pr.f0) := ⟨by
         have h5 : rowsH i f v (plW (za8 l0_7 (j : Int))) = true := by
          rw [← HX.out.1, HPR.out, HP.out]
          unfold rowsH
          rw [← List.take_append_drop (q + 1) R, List.any_append]
          have h6 := HAN.out
          unfold rowsH at h6
          rw [h6]
          rfl
         rw [plV_at HX.out.2.2.2 HL.out h5, ← HX.out.1, HPR.out]⟩
        have z7 := (zah (zaH BK2.out HBs.out) 7).trans rfl
        have g7 : (0 ≤ x) = True := eq_true (yq32 HX.out)
        have g8 : (x < (l0_7.length : Int)) = True := eq_true (by have := HX.out.1; have := HL.out; omega)
        have q0 := cell_st (below_then HBo.out HBo.out.size HBs.out) HC0.out.2
        go_wp2
        go_ret
        exact ⟨by rw [HV.out]; rfl, zam HB2.out HBs.out⟩
end Go.Proofs.YtfafjbolmeimmaaGreatDoor.P
namespace Go.Proofs.YtfafjbolmeimmaaGreatDoor.P
open Go.RowKit Go.Proofs.YtfafjbolmeimmaaGreatDoorW.PrintWords Go.Proofs.YtfafjbolmeimmaaGreatDoorW.PrintLast Go.Proofs.YtfafjbolmeimmaaGreatDoorW.PrintMore
set_option linter.unusedVariables false
set_option linter.unusedSimpArgs false
def Cap (w : World) (gn gp : Nat) (num p : Int) : Prop := w.heap[gn]? = some (.cells #[.int .i64 num] 2 (0, 0)) ∧ w.heap[gp]? = some (.cells #[.int .i64 p] 2 (0, 0))
theorem Cap.step {w w' : World} {gn gp : Nat} {num p : Int} (h : Cap w gn gp num p) (hb : Below w.heap.size w w') : Cap w' gn gp num p := ⟨zaH h.1 hb, zaH h.2 hb⟩
set_option maxHeartbeats 4000000 in
set_option maxRecDepth 100000 in
theorem clo_calls (t1 t2 t4 t5 : Int) (t3 : Bool) (num p i f : Int) (hn : Nums num p i f) (ht : tOk (t1, t2, t3, t4, t5)) (gn gp : Nat) (w : World) (hc : Cap w gn gp num p) :
  Calls Tryz.prog 92 #[.agg #[.int .u8 t1, .int .i64 t2, .bool t3, .int .i64 t4, .int .i64 t5], .pointer (some ⟨gn, 0, none⟩), .pointer (some ⟨gp, 0, none⟩)] w fun e w' => e = .returned (.bool (!tH i f p (t1, t2, t3, t4, t5))) ∧ Below w.heap.size w w' := by
 have CH : zaa (∀ w1, Calls Tryz.prog 93 #[.agg #[.int .u8 t1, .int .i64 t2, .bool t3, .int .i64 t4, .int .i64 t5], .int .i64 num, .int .i64 p] w1 fun e w' => e = .returned (.bool (tH i f p (t1, t2, t3, t4, t5))) ∧ Below w1.heap.size w1 w') := ⟨fun w1 => ih_calls t1 t2 t4 t5 t3 num p ht hn.hn hn.hp i f hn.hi hn.hf w1⟩
 have HC := zaa.mk hc; clear hc hn ht
 go_enter Tryz.func92, Tryz.ntmps92
 go_wp2_with (first
  | ((with_reducible refine zaF (N := 3) rfl ?_); refine zaO ?hg (N := 3) ?hd (cs := #[.int .u8 t1, .int .i64 t2, .bool t3, .int .i64 t4, .int .i64 t5]) (t := 106) ?hr ?_; (case hd => rfl); (case hg => rfl); (case hr => first | (go_simp; done) | (go_simp; rfl)); intro g hg wb hbox hb; have c1 := (zah (zaH HC.out.1 hb) 0).trans rfl; have c2 := (zah (zaH HC.out.2 hb) 0).trans rfl; have z0 := (zah hbox 0).trans rfl; have z1 := (zah hbox 1).trans rfl; have z2 := (zah hbox 2).trans rfl; have z3 := (zah hbox 3).trans rfl; have z4 := (zah hbox 4).trans rfl; have HB := zaa.mk hb; clear hb hbox hg)
  | ((with_reducible refine (CH.out _).mono ?_); rintro e w1 ⟨rfl, hb⟩; have HB1 := zaa.mk (zam HB.out hb); clear hb)
  | fail)
 go_ret
 exact ⟨rfl, HB1.out⟩
set_option maxHeartbeats 4000000 in
set_option maxRecDepth 100000 in
theorem ixf_calls (A : Option Addr) (c : Nat) (r : List TI) (num p i f : Int) (hn : Nums num p i f) (hr : r.length ≤ 1048576) (ht : ∀ j : Int, tOk (r.getD j.toNat zT)) (gn gp : Nat) (w : World) (hc : Cap w gn gp num p) (hC : dT.C w A r.length r) :
  Calls Tryz.prog 115 #[.slice A r.length c, (.func (Fn.func 92) #[] #[.pointer (some ⟨gn, 0, none⟩), .pointer (some ⟨gp, 0, none⟩)])] w fun e w' => ∃ x : Int, e = .returned (.int .i64 x) ∧ decide (0 ≤ x) = !r.all (tH i f p) ∧ Below w.heap.size w w' := by
 have HN := zaa.mk hn; have HR := zaa.mk hr; have HT := zaa.mk ht; have HC := zaa.mk hc; have HD := zaa.mk hC; clear hn hr ht hc hC
 go_enter Tryz.func115, Tryz.ntmps115
 go_wp2_with (fail)
 go_loopg [8] (r.length + 1) (fun gk v8 wr => ∃ (x : Int) (j : Nat), v8 = .int .i64 x ∧ zaa (x = (j : Int) ∧ j ≤ r.length ∧ r.length + 1 ≤ gk + j ∧ (r.take j).all (tH i f p) = true) ∧ zaa (Below w.heap.size w wr))
 case atStart => exact ⟨0, 0, rfl, ⟨rfl, Nat.zero_le _, Nat.le_refl _, rfl⟩, ⟨Below.refl _ _⟩⟩
 case round =>
  obtain ⟨x, j, rfl, HX, HB⟩ := hrel
  cases gk with
  | zero => exact absurd HX.out.2.2.1 (by have := HX.out.2.1; omega)
  | succ k1 =>
   by_cases hlt : j < r.length
   case neg =>
    have g1 : decide (x < (r.length : Int)) = false := decide_eq_false (yq32 HX.out)
    have HA : zaa (r.all (tH i f p) = true) := ⟨by have h := HX.out.2.2.2; rw [List.take_of_length_le yq10] at h; exact h⟩
    clear hlt
    go_wp2
    go_ret
    exact ⟨_, rfl, by rw [HA.out]; rfl, HB.out⟩
   have g1 : decide (x < (r.length : Int)) = true := decide_eq_true (yq32 HX.out)
   have g2 : (0 ≤ x) = True := eq_true (yq32 HX.out)
   have g3 : (x < (r.length : Int)) = True := eq_true (yq32 HX.out)
   have hall := all_snoc (i := i) (f := f) (v := p) r j hlt
   rw [HX.out.2.2.2, Bool.true_and] at hall
   obtain ⟨ad2, e2, hcs⟩ := at_dT (Kd.za6 HD.out HB.out) x (yq32 HX.out) (yq32 HX.out)
   have hz : x.toNat = j := by have := HX.out.1; omega
   have hok := HT.out x
   obtain ⟨t, ht⟩ : ∃ t, r.getD x.toNat zT = t := ⟨_, rfl⟩
   have ht2 : r.getD j zT = t := by rw [← hz]; exact ht
   rw [ht2] at hall
   rw [ht] at hok hcs
   obtain ⟨t1, t2, t3, t4, t5⟩ := t
   obtain ⟨q0, q1, q2, q3, q4⟩ := hcs t1 t2 t3 t4 t5 rfl
   have HA := zaa.mk hall; have HOK := zaa.mk hok; have HL := zaa.mk hlt
   cases e2
   clear hlt hall hok ht ht2 hcs hz
   obtain ⟨bb, hbb⟩ : ∃ bb, tH i f p (t1, t2, t3, t4, t5) = bb := ⟨_, rfl⟩
   rw [hbb] at HA
   have CC : zaa (∀ w1, Cap w1 gn gp num p → Calls Tryz.prog 92 #[.agg #[.int .u8 t1, .int .i64 t2, .bool t3, .int .i64 t4, .int .i64 t5], .pointer (some ⟨gn, 0, none⟩), .pointer (some ⟨gp, 0, none⟩)] w1 fun e w' => e = .returned (.bool (!bb)) ∧ Below w1.heap.size w1 w') := ⟨fun w1 hc => by rw [← hbb]; exact clo_calls t1 t2 t4 t5 t3 num p i f HN.out HOK.out gn gp w1 hc⟩
   clear hbb
   cases bb with
   | true =>
    go_wp2_with (first
     | ((go_at_call 92; with_reducible refine (CC.out _ (HC.out.step HB.out)).mono ?_); rintro e w1 ⟨rfl, hb⟩; have HB1 := zaa.mk (zam HB.out hb); clear hb)
     | fail)
    go_roundg k1
    case measure => have := HX.out; have := HL.out; omega
    case rel => exact ⟨_, j + 1, rfl, ⟨yq39 HX.out HR.out HL.out, HL.out, by have := HX.out.2.2.1; omega, HA.out⟩, HB1⟩
   | false =>
    have HV : zaa (decide (0 ≤ x) = !r.all (tH i f p)) := ⟨by
     have h6 : r.all (tH i f p) = false := by
      rw [← List.take_append_drop (j + 1) r, List.all_append, HA.out]
      rfl
     rw [h6, decide_eq_true (show 0 ≤ x by have := HX.out.1; omega)]
     rfl⟩
    go_wp2_with (first
     | ((go_at_call 92; with_reducible refine (CC.out _ (HC.out.step HB.out)).mono ?_); rintro e w1 ⟨rfl, hb⟩; have HB1 := zaa.mk (zam HB.out hb); clear hb)
     | fail)
    go_ret
    exact ⟨_, rfl, HV.out, HB1.out⟩
set_option maxHeartbeats 4000000 in
theorem cof_calls (A : Option Addr) (c : Nat) (r : List TI) (num p i f : Int) (hn : Nums num p i f) (hr : r.length ≤ 1048576) (ht : ∀ j : Int, tOk (r.getD j.toNat zT)) (gn gp : Nat) (w : World) (hc : Cap w gn gp num p) (hC : dT.C w A r.length r) :
  Calls Tryz.prog 91 #[.slice A r.length c, (.func (Fn.func 92) #[] #[.pointer (some ⟨gn, 0, none⟩), .pointer (some ⟨gp, 0, none⟩)])] w fun e w' => e = .returned (.bool (!r.all (tH i f p))) ∧ Below w.heap.size w w' := by
 have HI := zaa.mk (ixf_calls A c r num p i f hn hr ht gn gp w hc hC)
 clear hn hr ht hc hC
 go_enter Tryz.func91, Tryz.ntmps91
 go_wp2_with (first
  | ((with_reducible refine HI.out.mono ?_); rintro e w1 ⟨x, rfl, hx, hb⟩; have HX := zaa.mk hx; have HB := zaa.mk hb; clear hb hx)
  | fail)
 go_ret
 exact ⟨by rw [← HX.out]; rfl, HB.out⟩
set_option maxHeartbeats 4000000 in
set_option maxRecDepth 100000 in
theorem ipl_calls (a0_0 : ByteArray) (a0_1 : ByteArray) (a0_2 : ByteArray) (a0_3 : ByteArray) (a0_4 : ByteArray) (A0_5 : Option Addr) (c0_5 : Nat) (l0_5 : List Int) (a0_6 : Int) (A0_7 : Option Addr) (c0_7 : Nat) (l0_7 : List S58) (a0_8 : ByteArray) (a0_9 : ByteArray) (a0_10 : ByteArray) (a0_11 : ByteArray) (A0_12 : Option Addr) (c0_12 : Nat) (l0_12 : List ByteArray) (A0_13 : Option Addr) (c0_13 : Nat) (l0_13 : List ByteArray) (a0_14 : ByteArray) (num p i f : Int) (hn : Nums num p i f) (w : World) (hr0_5 : Kd.C (Kd.int .i64) w A0_5 l0_5.length l0_5) (hc0_5 : l0_5.length ≤ c0_5) (hr0_7 : Kd.C k58 w A0_7 l0_7.length l0_7) (hc0_7 : l0_7.length ≤ c0_7) (hr0_12 : Kd.C Kd.string w A0_12 l0_12.length l0_12) (hc0_12 : l0_12.length ≤ c0_12) (hr0_13 : Kd.C Kd.string w A0_13 l0_13.length l0_13) (hc0_13 : l0_13.length ≤ c0_13) (hG : GT w) (hz : l0_7.length ≤ 1048576) (hR : ∀ j, j < l0_7.length → (za8 l0_7 (j : Int)).f1.size ≤ 1048576 ∧ (whenI (za8 l0_7 (j : Int)).f1.data.toList).isSome = true) :
  Calls Tryz.prog 59 #[.agg #[.string a0_0, .string a0_1, .string a0_2, .string a0_3, .string a0_4, .slice A0_5 l0_5.length c0_5, .int .i64 a0_6, .slice A0_7 l0_7.length c0_7, .string a0_8, .string a0_9, .string a0_10, .string a0_11, .slice A0_12 l0_12.length c0_12, .slice A0_13 l0_13.length c0_13, .string a0_14], .int .i64 num, .int .i64 p] w fun e w' => e = .returned (.string (plV i f p l0_7)) ∧ Below w.heap.size w w' := by
 have HC := zaa.mk hr0_7; have HN := zaa.mk hz; have HR := zaa.mk hR; have HG := zaa.mk hG; have HU := zaa.mk hn; clear hr0_5 hc0_5 hr0_7 hc0_7 hr0_12 hc0_12 hr0_13 hc0_13 hz hR hG hn
 have hmf : ∀ (fn : Fn) (fs cp : Array Value) (w : World), (Instr.makeFunc fn fs cp).run Tryz.prog w = .ok (.func fn fs cp) w := fun _ _ _ _ => rfl
 go_enter Tryz.func59, Tryz.ntmps59
 go_wp2_with (first
  | ((with_reducible refine zaF (N := 3) rfl ?_); refine zaO ?hg (N := 3) ?hd (cs := #[.string a0_0, .string a0_1, .string a0_2, .string a0_3, .string a0_4, .slice A0_5 l0_5.length c0_5, .int .i64 a0_6, .slice A0_7 l0_7.length c0_7, .string a0_8, .string a0_9, .string a0_10, .string a0_11, .slice A0_12 l0_12.length c0_12, .slice A0_13 l0_13.length c0_13, .string a0_14]) (t := 31) ?hr ?_; (case hd => rfl); (case hg => rfl); (case hr => first | (go_simp; done) | (go_simp; rfl)); intro g hg wb hbox hb; have BK := zaa.mk hbox; have HB := zaa.mk hb; clear hb hbox hg)
  | ((with_reducible refine zaF (N := 4) rfl ?_); refine zaO ?hg (N := 4) ?hd (cs := #[.int .i64 num]) (t := 2) ?hr ?_; (case hd => rfl); (case hg => rfl); (case hr => first | (go_simp; done) | (go_simp; rfl)); intro gn hg wb hbox hb; have CN := zaa.mk hbox; have BK1 := zaa.mk (zaH BK.out hb); have HB1 := zaa.mk (zam HB.out hb); clear hb hbox hg HB BK)
  | ((with_reducible refine zaF (N := 5) rfl ?_); refine zaO ?hg (N := 5) ?hd (cs := #[.int .i64 p]) (t := 2) ?hr ?_; (case hd => rfl); (case hg => rfl); (case hr => first | (go_simp; done) | (go_simp; rfl)); intro gp hg wB hbox hb; have z7 := (zah (zaH BK1.out hb) 7).trans rfl; have CP := zaa.mk (show Cap wB gn gp num p from ⟨zaH CN.out hb, hbox⟩); have HB2 := zaa.mk (zam HB1.out hb); clear hb hbox hg HB1 CN BK1)
  | fail)
 clear z7
 go_loopg [16] (l0_7.length + 1) (fun gk v16 wr => ∃ (x : Int) (j : Nat), v16 = .int .i64 x ∧ zaa (x = (j : Int) ∧ j ≤ l0_7.length ∧ l0_7.length + 1 ≤ gk + j ∧ ∀ y, y < j → rowsH i f p (plW (za8 l0_7 (y : Int))) = false) ∧ zaa (Below wB.heap.size wB wr))
 case atStart => exact ⟨0, 0, rfl, ⟨rfl, Nat.zero_le _, Nat.le_refl _, fun y hy => absurd hy (Nat.not_lt_zero _)⟩, ⟨Below.refl _ _⟩⟩
 case round =>
  rename World => wo
  obtain ⟨x, j, rfl, HX, HB⟩ := hrel
  cases gk with
  | zero => exact absurd HX.out.2.2.1 (by have := HX.out.2.1; omega)
  | succ k1 =>
   by_cases hlt : j < l0_7.length
   case neg =>
    have g1 : decide (x < (l0_7.length : Int)) = false := decide_eq_false (yq32 HX.out)
    have HV := zaa.mk (plV_end (fun y hy => HX.out.2.2.2 y yq10))
    clear hlt
    go_wp2
    go_ret
    exact ⟨by rw [HV.out]; rfl, zam HB2.out HB.out⟩
   have g1 : decide (x < (l0_7.length : Int)) = true := decide_eq_true (yq32 HX.out)
   have g2 : (0 ≤ x) = True := eq_true (yq32 HX.out)
   have g3 : (x < (l0_7.length : Int)) = True := eq_true (yq32 HX.out)
   obtain ⟨ad, ea, hc0, hc1⟩ := at_T58 (Kd.za6 HC.out (zam HB2.out HB.out)) x (yq32 HX.out) (yq32 HX.out)
   have HL := zaa.mk hlt
   have hRj := HR.out j hlt
   rw [← HX.out.1] at hRj
   obtain ⟨R, hR⟩ := Option.isSome_iff_exists.1 hRj.2
   obtain ⟨pr, hpr⟩ : ∃ pr, za8 l0_7 x = pr := ⟨_, rfl⟩
   rw [hpr] at hc0 hc1 hR hRj
   have HP := zaa.mk (show plW pr = R by unfold plW; rw [hR]; rfl)
   have HPR := zaa.mk hpr; have HRR := zaa.mk hR
   have WC : zaa (∀ w1, Below wB.heap.size wB w1 → Calls Tryz.prog 81 #[.string pr.f1] w1 fun e w' => ∃ v : Value, e = .returned (.tuple #[v, .bool true]) ∧ dTs.R 103 w' w1.heap.size (fun _ => True) v R ∧ Below w1.heap.size w1 w') := ⟨fun w1 hb => by
    have h := when_calls pr.f1.data.toList w1 (GT_below HG.out (zam HB2.out hb)) (by rw [Array.length_toList]; have h9 := hRj.1; exact Nat.le_trans h9 yq41)
    rw [bs_self] at h
    refine h.mono ?_
    rintro e w' ⟨v, h1, h2, h3⟩
    rw [hR] at h1 h2
    exact ⟨v, h1, h2, h3⟩⟩
   cases ea
   clear hlt hRj hR hpr
   go_upto_region 4 with (first
    | ((with_reducible refine zaF (N := 8) rfl ?_); refine zaO ?hg (N := 8) ?hd (cs := #[.string ⟨#[]⟩, .string ⟨#[]⟩]) (t := 58) ?hr ?_; (case hd => rfl); (case hg => rfl); (case hr => first | (go_simp; done) | (go_simp; rfl)); intro gq hg wb hbox hb; have BQ : zaa (BX wo wb gq 58 #[.string ⟨#[]⟩, .string ⟨#[]⟩]) := ⟨⟨hb, hbox, yq31⟩⟩; clear hb hbox hg)
    | ((with_reducible refine gate_store (t := 58) (p := 8) rfl ?_); refine wpList_plain rfl (fun K_ hK_ => wp_store_row 58 (.tmp 8) (.tmp 19) rfl gq #[.string pr.f0, .string pr.f1] rfl rfl 58 #[.string ⟨#[]⟩, .string ⟨#[]⟩] BQ.out.k (show (Tryz.prog.info? 58).map (·.size) = some 2 by kernel_rfl) rfl (by simp [Value.oneCell']) (hK_ _ _ ?_)); have BQ1 := zaa.mk (BX.row #[.string pr.f0, .string pr.f1] BQ.out); clear BQ; generalize World.setRow _ _ _ = wq at BQ1 ⊢; have y0 := (zah BQ1.out.k 0).trans rfl; have y1 := (zah BQ1.out.k 1).trans rfl)
    | fail)
   have HQ := zaa.mk y0; clear hc0 hc1 y0 g1 g2 g3
   go_upto_region 5 with (first
    | ((with_reducible refine (WC.out _ (zam HB.out BQ1.out.b)).mono ?_); rintro e w2 ⟨vr, rfl, hr, hb⟩; have HO := zaa.mk hr; have HBo := zaa.mk hb; clear hb hr)
    | fail)
   obtain ⟨A10, c10, e10, _, hCR⟩ := Kd.R_reads HO.out
   subst e10; have HCR := zaa.mk hCR
   have HLR : zaa (R.length ≤ 1048576) := ⟨by have h := HRR.out; unfold whenI at h; split at h; cases h; rename_i h5; have h6 := (sp_le 124 pr.f1.data.toList).1; have h7 : R.length = (sp 124 pr.f1.data.toList).length := mapO_len h; omega⟩
   have HBW := zaa.mk (zam (zam HB.out BQ1.out.b) HBo.out)
   clear hCR HO y1 WC
   go_wp2_with (fail)
   go_loopg [28] (R.length + 1) (fun gk v28 wr => ∃ (y : Int) (q : Nat), v28 = .int .i64 y ∧ zaa (y = (q : Int) ∧ q ≤ R.length ∧ R.length + 1 ≤ gk + q ∧ rowsH i f p (R.take q) = false) ∧ zaa (Below w2.heap.size w2 wr))
   case atStart => exact ⟨0, 0, rfl, ⟨rfl, Nat.zero_le _, Nat.le_refl _, rfl⟩, ⟨Below.refl _ _⟩⟩
   case round =>
    obtain ⟨y, q, rfl, HY, HBy⟩ := hrel
    cases gk with
    | zero => exact absurd HY.out.2.2.1 (by have := HY.out.2.1; omega)
    | succ k2 =>
     by_cases hlt : q < R.length
     case neg =>
      have g1 : decide (y < (R.length : Int)) = false := decide_eq_false (yq32 HY.out)
      have HN1 : zaa (rowsH i f p (plW (za8 l0_7 (j : Int))) = false) := ⟨by rw [← HX.out.1, HPR.out, HP.out]; have h := HY.out.2.2.2; rw [List.take_of_length_le yq10] at h; exact h⟩
      clear hlt
      go_wp2
      go_roundg k1
      case measure => have := HX.out; have := HL.out; omega
      case rel => exact ⟨_, j + 1, rfl, ⟨yq39 HX.out HL.out HN.out, HL.out, by have := HX.out.2.2.1; omega, fun z hz => by rcases Nat.lt_succ_iff_lt_or_eq.1 hz with h1 | rfl; exact HX.out.2.2.2 z h1; exact HN1.out⟩, ⟨zam HBW.out HBy.out⟩⟩
     have HLy := zaa.mk hlt
     have g1 : decide (y < (R.length : Int)) = true := decide_eq_true (yq32 HY.out)
     have g2 : (0 ≤ y) = True := eq_true (yq32 HY.out)
     have g3 : (y < (R.length : Int)) = True := eq_true (yq32 HY.out)
     obtain ⟨ad1, A0, c0, e1, hc, hC⟩ := at_dS (Kd.za6 HCR.out HBy.out) y (yq32 HY.out) (yq32 HY.out)
     have hq : y.toNat = q := by have := HY.out.1; omega
     have hany := any_snoc (i := i) (f := f) (v := p) R q hlt
     rw [HY.out.2.2.2, Bool.false_or, ← hq] at hany
     have hrl := when_len HRR.out y
     have hro := fun jj => when_ok HRR.out y jj
     obtain ⟨r, hr⟩ : ∃ r, R.getD y.toNat [] = r := ⟨_, rfl⟩
     rw [hr] at hc hC hrl hro hany
     rw [hq] at hany
     obtain ⟨bb, hbb⟩ : ∃ bb, r.all (tH i f p) = bb := ⟨_, rfl⟩
     rw [hbb] at hany
     have HA := zaa.mk hany
     have CC : zaa (Calls Tryz.prog 91 #[.slice A0 r.length c0, (.func (Fn.func 92) #[] #[.pointer (some ⟨gn, 0, none⟩), .pointer (some ⟨gp, 0, none⟩)])] wr fun e w' => e = .returned (.bool (!bb)) ∧ Below wr.heap.size wr w') := ⟨by rw [← hbb]; exact cof_calls A0 c0 r num p i f HU.out hrl hro gn gp wr (CP.out.step (zam HBW.out HBy.out)) hC⟩
     cases e1
     clear hlt hC hq hany hrl hro hr hbb
     cases bb with
     | false =>
      go_wp2_with (first
       | ((with_reducible refine CC.out.mono ?_); rintro e w3 ⟨rfl, hb⟩; have HB3 := zaa.mk (zam HBy.out hb); clear hb)
       | fail)
      go_roundg k2
      case measure => have := HY.out; have := HLy.out; omega
      case rel => exact ⟨_, q + 1, rfl, ⟨yq39 HY.out HLy.out HLR.out, HLy.out, by have := HY.out.2.2.1; omega, HA.out⟩, HB3⟩
     | true =>
      have HV : zaa (plV i f p l0_7 = pr.f0) := ⟨by
       have h5 : rowsH i f p (plW (za8 l0_7 (j : Int))) = true := by
        rw [← HX.out.1, HPR.out, HP.out]
        unfold rowsH
        rw [← List.take_append_drop (q + 1) R, List.any_append]
        have h6 := HA.out
        unfold rowsH at h6
        rw [h6]
        rfl
       rw [plV_at HX.out.2.2.2 HL.out h5, ← HX.out.1, HPR.out]⟩
      go_wp2_with (first
       | ((with_reducible refine CC.out.mono ?_); rintro e w3 ⟨rfl, hb⟩; have HB3 := zaa.mk (zam HBy.out hb); have q0 := cell_st (below_then HBo.out HBo.out.size HB3.out) HQ.out; clear hb)
       | fail)
      go_ret
      exact ⟨by rw [HV.out]; rfl, zam HB2.out (zam HBW.out HB3.out)⟩
end Go.Proofs.YtfafjbolmeimmaaGreatDoor.P
