/- impl's write comes to the text of points. -/
import Derived.Test.YtfafjbolmeimmaaDoorF15
import Derived.Test.YtfafjbolmeimmaaDoorF0
import Derived.Test.YtfafjbolmeimmaaDoorXTb
import Derived.Test.YtfafjbolmeimmaaDoorShR
namespace Go.Proofs.YtfafjbolmeimmaaDoor.P
open Go.RowKit Go.Proofs.YtfafjbolmeimmaaDoorW.PrintWords Go.Proofs.YtfafjbolmeimmaaDoorW.PrintLast Go.Proofs.YtfafjbolmeimmaaDoorW.PrintMore
set_option linter.unusedVariables false
set_option linter.unusedSimpArgs false
theorem iPoint_eq (p : Int) : impl_isPoint.f p = some (isPt p) := by
 unfold impl_isPoint.f
 by_cases h0 : 0 ≤ p
 ·rw [if_pos (by omega)]
  by_cases h1 : p ≤ 1114111
  ·rw [if_pos h1]
   by_cases h2 : p < 55296
   ·rw [if_pos h2, isPt_iff.2 ⟨h0, h1, .inl h2⟩]
   rw [if_neg h2]
   by_cases h3 : 57343 < p
   ·rw [isPt_iff.2 ⟨h0, h1, .inr h3⟩, decide_eq_true h3]
   rw [decide_eq_false h3, show isPt p = false from Bool.eq_false_iff.2 (fun h => by have := isPt_iff.1 h; omega)]
  rw [if_neg h1, show isPt p = false from Bool.eq_false_iff.2 (fun h => h1 (isPt_iff.1 h).2.1)]
 rw [if_neg (by omega), show isPt p = false from Bool.eq_false_iff.2 (fun h => h0 (isPt_iff.1 h).1)]
def impl_write.f (k : Nat) (l0 : List Int) : Option ByteArray := if l0.length < 17592186044416 then some (txt l0) else none
set_option maxHeartbeats 4000000 in
set_option maxRecDepth 100000 in
theorem impl_write.calls (k : Nat) (A0 : Option Addr) (c0 : Nat) (l0 : List Int) (r : ByteArray) (w : World) (hr0 : Kd.C (Kd.int .i64) w A0 l0.length l0) (hc0 : l0.length ≤ c0) (h : impl_write.f k l0 = some r) :
  Calls Tryd.prog 42 #[.slice A0 l0.length c0] w fun e w' => e = .returned (.string r) ∧ Below w.heap.size w w' := by
 have HR0 := zab.mk hr0; have HC0 := zab.mk hc0; clear hr0 hc0
 have HB := zab.mk (Below.refl w.heap.size w)
 unfold impl_write.f at h
 by_cases hlen : l0.length < 17592186044416
 case neg => rw [if_neg hlen] at h; cases h
 rw [if_pos hlen] at h
 obtain rfl := Option.some.inj h
 have HL := zab.mk hlen; clear h hlen
 go_enter Tryd.func42, Tryd.ntmps42
 go_wp2
 go_loopw [3, 8] (fun v3 v8 w' => ∃ (i : Nat), v8 = .int .i64 i ∧ i ≤ l0.length ∧ zab (Kd.R (Kd.int .u8) 5 w' w.heap.size (fun _ => True) v3 (txtB (l0.take i))) ∧ zab (Below w.heap.size w w')) (fun _ v _ => l0.length - (intOf v).toNat)
 case atStart => exact ⟨0, rfl, by omega, ⟨Kd.R_nil _ _ _ _ _⟩, ⟨by repeat (first | (with_reducible first | exact HB.out | apply zad | apply zaa | apply zac) | exact HB.out)⟩⟩
 case round =>
  obtain ⟨i, rfl, hi, HO, HB⟩ := hrel
  by_cases hlt : i < l0.length
  ·obtain ⟨ad, rfl, hx⟩ := Kd.at_int HR0.out i (by omega) (by omega)
   have hL := HL.out
   replace hx := (HB.out.cell (World.block_lt_of_cell? w _ hx)).trans hx
   have es : rd l0 (i : Int) = l0[i] := by simp [rd, hlt]
   have HS := zab.mk (txtB_snoc l0 i hlt)
   have HT := zab.mk (show (txtB (l0.take i)).length ≤ 4 * i by have := txtB_len (l0.take i); have h2 := List.length_take_le i l0; omega)
   rw [es, Int.toNat_natCast] at hx
   generalize l0[i] = p at *
   clear es
   have KEY := zab.mk (show ∀ q, wrB p = wrNums q → isPt q = true → encs (Value.int .u8) (txtB (l0.take i)) ++ Lib.runeCells q = encs (Value.int .u8) (txtB (l0.take (i + 1))) ∧ (txtB (l0.take i)).length + (Lib.runeCells q).length = (txtB (l0.take (i + 1))).length by
    intro q hw hq
    rw [runeCells_eq q hq, HS.out, hw, encs_append, encs_length, List.length_append]
    exact ⟨rfl, rfl⟩)
   clear HS
   obtain ⟨q, hq, hqp⟩ : ∃ q, (if isPt p = true then p else 65533) = q ∧ isPt q = true := by
    by_cases h : isPt p = true
    ·exact ⟨p, if_pos h, h⟩
    exact ⟨65533, if_neg h, by decide⟩
   have hw : wrB p = wrNums q := by unfold wrB; rw [hq]
   obtain ⟨q0, q1, q2⟩ := isPt_iff.1 hqp
   have HQ := zab.mk hq; have HQP := zab.mk hqp; have HW := zab.mk hw; clear hq hqp hw q2
   go_wp2_with (fail)
   refine (impl_isPoint.calls p (isPt p) _ (iPoint_eq p)).mono ?_
   rintro e w4 ⟨rfl, ⟨m4, rfl⟩⟩
   cases hip : isPt p
   all_goals
    have eq := HQ.out
    rw [hip] at eq
    first
    | (rw [if_pos rfl] at eq; subst eq)
    | (rw [if_neg (by decide)] at eq; subst eq)
    clear HQ
    go_wp2_with (fail)
    refine (Tryd.utf8_AppendRune_plain w.heap.size u3 (txtB (l0.take i)).length (encs (Value.int .u8) (txtB (l0.take i))) _ (by omega) (by omega) _ (Kd.own_of_R (by (with_reducible repeat (first | apply Kd.R_alloc | apply Kd.zat | apply Kd.zaw)); exact HO.out)) (by have := HT.out; omega) (zav (by repeat (first | (with_reducible first | exact HB.out | apply zad | apply zaa | apply zac) | exact HB.out)))).mono ?_
    rintro e w5 ⟨v', rfl, hown, o, hg⟩
    obtain ⟨k1, k2⟩ := KEY.out _ HW.out HQP.out
    rw [k1, k2] at hown
    have ho2 := hown
    have n0_ := zab.mk (show Below w.heap.size w w5 from (Below.alloc (by repeat (first | (with_reducible first | exact HB.out | apply zad | apply zaa | apply zac) | exact HB.out)) (zav (by repeat (first | (with_reducible first | exact HB.out | apply zad | apply zaa | apply zac) | exact HB.out))) o).grown hg (by have h1 := zav (by repeat (first | (with_reducible first | exact HB.out | apply zad | apply zaa | apply zac) | exact HB.out)); simp; omega) (own_base (Kd.own_of_R HO.out)))
    have n1_ := zab.mk (Kd.R_of_own (h1 := fun _ => rfl) (ok := fun _ => True) ho2 (fun _ _ => trivial))
    clear HO HB hown hg ho2 k1 k2 HT HW HQP KEY
    have HO := n1_
    have HB := n0_
    clear n0_ n1_ q0 q1
    go_wp2
    go_roundw
    case rel => exact ⟨i + 1, by go_num, by omega, ⟨by (with_reducible repeat (first | apply Kd.R_alloc | apply Kd.zat | apply Kd.zaw)); exact HO.out⟩, ⟨by repeat (first | (with_reducible first | exact HB.out | apply zad | apply zaa | apply zac) | exact HB.out)⟩⟩
    case measure => simp [intOf]; omega
  obtain rfl : i = l0.length := by omega
  have hL := HL.out
  have q1 : decide (l0.length < l0.length) = false := decide_eq_false (by omega)
  have q2 : decide ((l0.length : Int) < (l0.length : Int)) = false := decide_eq_false (by omega)
  have hcv := own_string (P := Tryd.prog) Tryd.underlying22 Tryd.underlying5 Tryd.underlying9 (Kd.own_of_R HO.out)
  rw [List.take_length] at hcv
  clear hlt hi
  go_wp2
  go_ret
  exact ⟨rfl, by repeat (first | (with_reducible first | exact HB.out | apply zad | apply zaa | apply zac) | exact HB.out)⟩
end Go.Proofs.YtfafjbolmeimmaaDoor.P
