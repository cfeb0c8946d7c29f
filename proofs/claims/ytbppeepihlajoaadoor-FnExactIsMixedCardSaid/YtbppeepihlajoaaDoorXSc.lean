/- The program's ScriptsOf comes to what a plain Lean function says. -/
import Derived.Test.YtbppeepihlajoaaDoorM5
import Derived.Test.YtbppeepihlajoaaDoorM6
import Derived.Test.YtbppeepihlajoaaDoorM10
import Derived.Test.YtbppeepihlajoaaDoorM11
import Derived.Test.YtbppeepihlajoaaDoorXSo
import Derived.Test.YtbppeepihlajoaaDoorShS
namespace Go.Proofs.YtbppeepihlajoaaDoor.P
open Go.RowKit Go.Proofs.YtbppeepihlajoaaDoorW.PrintWords Go.Proofs.YtbppeepihlajoaaDoorW.PrintLast Go.Proofs.YtbppeepihlajoaaDoorW.PrintMore
set_option linter.unusedVariables false
set_option linter.unusedSimpArgs false
def scrL (k : Nat) : List Int → List Int → Option (List Int)
  | [], y => some y
  | p :: r, y => (impl_Script.f k p).bind fun s => if 0 < s then (impl_isLetter.f k p).bind fun b => if b = true then scrL k r (y ++ [s]) else scrL k r y else scrL k r y
theorem scrL.mono (k : Nat) : ∀ l y, LeO (scrL k l y) (scrL (k + 1) l y)
  | [], _ => LeO.refl _
  | p :: r, y => by
    unfold scrL
    exact LeO.bind (impl_Script.mono _ _) fun s => LeO.ite (LeO.bind (impl_isLetter.mono _ _) fun b => LeO.ite (scrL.mono k r _) (scrL.mono k r _)) (scrL.mono k r _)
def impl_ScriptsOf.f (k : Nat) (a0 : ByteArray) : Option (List Int) := (impl_long.f a0).bind fun b => if b = true then some [] else (impl_points.f k a0).bind fun l => if l.length < 17592186044416 then (scrL k l []).bind fun y => some (Lib.compact (y.mergeSort fun x y => decide (x ≤ y))) else none
theorem impl_ScriptsOf.mono : ∀ a0 k, LeO (impl_ScriptsOf.f k a0) (impl_ScriptsOf.f (k + 1) a0) := by
  intro a0 k
  unfold impl_ScriptsOf.f
  exact LeO.bind (LeO.refl _) fun b => LeO.ite (LeO.refl _) (LeO.bind (impl_points.mono _ _) fun l => LeO.ite (LeO.bind (scrL.mono k _ _) fun y => LeO.refl _) (LeO.refl _))
theorem compact_nil (w : World) : Calls Tryd.prog 114 #[.slice none 0 0] w fun e w' => e = .returned (.slice none 0 0) ∧ Drawn0 w w' := by
  go_enter Tryd.func114, Tryd.ntmps114
  go_wp2
  go_ret
  exact ⟨rfl, by repeat (first | exact Drawn0.refl _ | apply Drawn0.step)⟩
set_option maxHeartbeats 4000000 in
set_option maxRecDepth 100000 in
theorem impl_ScriptsOf.calls (k : Nat) (a0 : ByteArray) (r : List Int) (w : World) (hG : GT w) (h : impl_ScriptsOf.f k a0 = some r) :
    Calls Tryd.prog 60 #[.string a0] w fun e w' => ∃ v0_ : Value, e = .returned (v0_) ∧ Kd.R (Kd.int .i64) 2 w' w.heap.size (fun _ => True) v0_ r ∧ Below w.heap.size w w' := by
  have HG := Aside0.mk hG
  obtain ⟨b, hb, h2⟩ := Option.bind_eq_some_iff.mp h
  have HBL := Aside0.mk hb
  have H := Aside0.mk h2
  clear h h2 hb hG
  have HB := Aside0.mk (Below.refl w.heap.size w)
  go_enter Tryd.func60, Tryd.ntmps60
  go_wp2_with (fail)
  refine (impl_long.calls a0 b w HBL.out).mono ?_
  rintro e w1 ⟨rfl, ⟨m1, rfl⟩⟩
  cases b with
  | true =>
    have hr := H.out
    rw [if_pos rfl] at hr
    obtain rfl := Option.some.inj hr
    clear hr
    go_wp2
    go_ret
    exact ⟨_, rfl, Kd.R_nil _ _ _ _ _, by repeat (first | (with_reducible first | exact HB.out | apply below_alloc | apply pw_below_drewN | apply below_drew1) | exact HB.out)⟩
  | false =>
    have hr := H.out
    rw [if_neg (by simp)] at hr
    obtain ⟨l, hl, hr2⟩ := Option.bind_eq_some_iff.mp hr
    by_cases hll : l.length < 17592186044416
    case neg => rw [if_neg hll] at hr2; cases hr2
    rw [if_pos hll] at hr2
    obtain ⟨yf, hy, hr3⟩ := Option.bind_eq_some_iff.mp hr2
    obtain rfl := Option.some.inj hr3
    have HPT := Aside0.mk hl
    have HL := Aside0.mk hll
    have HS := Aside0.mk hy
    clear H hr hr2 hr3 hl hll hy
    go_wp2_with (fail)
    have HBw := Aside0.mk (show Below w.heap.size w (w.drewN m1) from by repeat (first | (with_reducible first | exact HB.out | apply below_alloc | apply pw_below_drewN | apply below_drew1) | exact HB.out))
    refine (impl_points.calls k a0 l _ (GT_below HG.out HBw.out) HPT.out).mono ?_
    rintro e w2 ⟨v, rfl, hR, hb1⟩
    obtain ⟨Ap, cp, ev⟩ := Kd.R_slice hR
    subst ev
    obtain ⟨_, _, hC⟩ := Kd.R_reads' hR
    have HC := Aside0.mk hC
    have HB2 := Aside0.mk (below_step HBw.out hb1)
    clear hR hb1 hC HB HBw
    go_wp2
    go_loopw [3, 12] (fun v3 v12 w' => ∃ (i : Nat) (y : List Int), v12 = .int .i64 i ∧ i ≤ l.length ∧ Aside0 (y.length ≤ i) ∧ Aside0 (scrL k (l.drop i) y = some yf) ∧ Aside0 (Kd.R (Kd.int .i64) 2 w' w2.heap.size (fun _ => True) v3 y) ∧ Aside0 (Below w2.heap.size w2 w')) (fun _ v _ => l.length - (intOf v).toNat)
    case atStart => exact ⟨0, [], rfl, by omega, ⟨by simp⟩, ⟨by rw [List.drop_zero]; exact HS.out⟩, ⟨Kd.R_nil _ _ _ _ _⟩, ⟨Below.refl _ _⟩⟩
    case round =>
      obtain ⟨i, y, rfl, hi, HX, HE, HO, HB⟩ := hrel
      obtain ⟨W3, hW3⟩ : ∃ W, W = wr := ⟨_, rfl⟩
      subst hW3
      by_cases hlt : i < l.length
      · obtain ⟨ad, rfl, hx⟩ := Kd.at_int HC.out i (by omega) (by omega)
        have hL := HL.out
        replace hx := (HB.out.cell (World.block_lt_of_cell? w2 _ hx)).trans hx
        have es : rd l (i : Int) = l[i] := by simp [rd, hlt]
        have HE2 := HE.out
        rw [List.drop_eq_getElem_cons hlt] at HE2
        unfold scrL at HE2
        rw [es, Int.toNat_natCast] at hx
        generalize l[i] = p at *
        clear HE es
        obtain ⟨s, hs, HE3⟩ := Option.bind_eq_some_iff.mp HE2
        have HSC := Aside0.mk hs
        clear HE2 hs
        have HE := Aside0.mk HE3
        clear HE3
        go_wp2_with (fail)
        refine (impl_Script.calls k p s _ HSC.out).mono ?_
        rintro e w4 ⟨rfl, ⟨m4, rfl⟩⟩
        by_cases h0 : 0 < s
        · have c1 : decide (0 < s) = true := decide_eq_true h0
          have HE2 := HE.out
          rw [if_pos h0] at HE2
          obtain ⟨b, hb, HE3⟩ := Option.bind_eq_some_iff.mp HE2
          have HBB := Aside0.mk hb
          clear HE HE2 hb
          go_wp2_with (fail)
          refine (impl_isLetter.calls k p b _ HBB.out).mono ?_
          rintro e w5 ⟨rfl, ⟨m5, rfl⟩⟩
          cases b with
          | true =>
            rw [if_pos rfl] at HE3
            have HE := Aside0.mk HE3
            have LM := Aside0.mk (show y.length < 17592186044416 by have := HX.out; omega)
            clear HE3
            go_wp2_with (first | ((with_reducible refine gate_builtin (b := .append) (xs := #[.tmp 24, .tmp 26]) rfl ?_); at_builtin; refine Kd.R_append (Kd.int .i64) (w0 := w2) w2.heap.size rfl (.tmp 24) (.tmp 26) 67 2 (.int .i64 0) 8 rfl Tryd.underlying67 info2 rfl (by decide) (by omega) (u3) y (s) [.int .i64 s] (fun _ => True) (fun _ => False) rfl rfl ?aP (fun _ hk => hk.elim) ?aF ?aO ?aB ?aS ?aL ?_; (case aP => exact rfl); (case aB => exact (by repeat (first | (with_reducible first | exact HB.out | apply below_alloc | apply pw_below_drewN | apply below_drew1) | exact HB.out))); (case aF => exact (fun _ _ => trivial)); (case aO => exact (by (with_reducible repeat (first | apply Kd.R_alloc | apply Kd.R_drewN | apply Kd.R_drew)); exact HO.out)); (case aS => exact (below_size (by repeat (first | (with_reducible first | exact HB.out | apply below_alloc | apply pw_below_drewN | apply below_drew1) | exact HB.out)))); (case aL => have := LM.out; omega); intro v_ w_ ho hb hg hat; have n0_ := Aside0.mk (hb); have n1_ := Aside0.mk (ho); clear HB; clear HO; have HB := n0_; have HO := n1_; clear n0_ n1_; clear ho hb hg hat))
            go_roundw
            case rel => exact ⟨i + 1, y ++ [s], by go_num, by omega, ⟨by have := HX.out; simp; omega⟩, HE, ⟨by (with_reducible repeat (first | apply Kd.R_alloc | apply Kd.R_drewN | apply Kd.R_drew)); exact HO.out⟩, ⟨by repeat (first | (with_reducible first | exact HB.out | apply below_alloc | apply pw_below_drewN | apply below_drew1) | exact HB.out)⟩⟩
            case measure => simp [intOf]; omega
          | false =>
            rw [if_neg (by simp)] at HE3
            have HE := Aside0.mk HE3
            clear HE3
            go_wp2
            go_roundw
            case rel => exact ⟨i + 1, y, by go_num, by omega, ⟨by have := HX.out; omega⟩, HE, ⟨by (with_reducible repeat (first | apply Kd.R_alloc | apply Kd.R_drewN | apply Kd.R_drew)); exact HO.out⟩, ⟨by repeat (first | (with_reducible first | exact HB.out | apply below_alloc | apply pw_below_drewN | apply below_drew1) | exact HB.out)⟩⟩
            case measure => simp [intOf]; omega
        · have c1 : decide (0 < s) = false := decide_eq_false h0
          have HE2 := HE.out
          rw [if_neg h0] at HE2
          have HE := Aside0.mk HE2
          clear HE2
          go_wp2
          go_roundw
          case rel => exact ⟨i + 1, y, by go_num, by omega, ⟨by have := HX.out; omega⟩, HE, ⟨by (with_reducible repeat (first | apply Kd.R_alloc | apply Kd.R_drewN | apply Kd.R_drew)); exact HO.out⟩, ⟨by repeat (first | (with_reducible first | exact HB.out | apply below_alloc | apply pw_below_drewN | apply below_drew1) | exact HB.out)⟩⟩
          case measure => simp [intOf]; omega
      · have hE := HE.out
        rw [List.drop_eq_nil_of_le (by omega)] at hE
        unfold scrL at hE
        obtain rfl := Option.some.inj hE
        clear HE hE
        have q1 : decide (i < l.length) = false := decide_eq_false (by omega)
        have q2 : decide ((i : Int) < (l.length : Int)) = false := decide_eq_false (by omega)
        have HW := Aside0.mk (below_step HB2.out HB.out)
        have HY := Aside0.mk (show y.length < 17592186044416 by have := HX.out; have := HL.out; omega)
        have HZ := Aside0.mk HB2.out.size
        have ho := Kd.own_of_R HO.out
        rcases ho.2 with ⟨hv, hn⟩ | ⟨g, cap, cur, hv, hg, hb, hn, hc, hsz, ht⟩
        · subst hv
          obtain rfl := List.eq_nil_of_length_eq_zero hn
          clear ho hn hlt
          go_wp2_with (fail)
          refine (Tryd.slices_Sort_i64_none none 0 W3).mono ?_
          rintro e w5 ⟨rfl, rfl⟩
          go_wp2_with (fail)
          refine (compact_nil _).mono ?_
          rintro e w6 ⟨rfl, ⟨m6, rfl⟩⟩
          go_wp2
          go_ret
          have e0 : Lib.compact (([] : List Int).mergeSort fun x y => decide (x ≤ y)) = [] := by simp [Lib.compact, Lib.compactUpTo]
          rw [e0]
          exact ⟨_, rfl, Kd.R_nil _ _ _ _ _, by repeat (first | (with_reducible first | exact HW.out | apply below_alloc | apply pw_below_drewN | apply below_drew1) | exact HW.out)⟩
        · subst hv
          have hH := own_holds ho
          have HOW := Aside0.mk ho
          have HH := Aside0.mk hH
          clear ho hH hb hsz ht hlt
          have HN := Aside0.mk hn
          have HCP := Aside0.mk hc
          have HGG := Aside0.mk hg
          clear hn hc hg
          go_wp2_with (fail)
          refine (Tryd.slices_Sort_i64 g 0 cap y W3 HH.out.1 HH.out.2.1 (by have := HY.out; omega)).mono ?_
          rintro e w5 ⟨rfl, n5, os5, hw5⟩
          obtain ⟨ho5, hb5, hg5⟩ := own_put HOW.out (y.mergeSort fun x y => decide (x ≤ y)) (List.length_mergeSort _) y.length (by rw [List.length_mergeSort]; exact Nat.le_refl _) hw5
          have hD : (y.mergeSort fun x y => decide (x ≤ y)).length = y.length := List.length_mergeSort _
          rw [List.take_of_length_le (by omega)] at ho5
          obtain ⟨D, hDe⟩ : ∃ D, (y.mergeSort fun x y => decide (x ≤ y)) = D := ⟨_, rfl⟩
          rw [hDe] at ho5 hD
          have HDE := Aside0.mk hDe
          clear hw5 hDe
          have hH5 := own_holds ho5
          have HO5 := Aside0.mk ho5
          have HB5 := Aside0.mk hb5
          have hcm := Tryd.slices_Compact_i64 g 0 cap D.toArray w5 hH5.1 (by have := HY.out; simp; omega) (by have := HN.out; simp; omega)
          have hDs : D.toArray.size = y.length := by simpa using hD
          rw [hDs] at hcm
          have HCM := Aside0.mk hcm
          have HD := Aside0.mk hD
          clear hcm hDs ho5 hb5 hg5 hH5 hD
          go_wp2_with (fail)
          refine HCM.out.mono ?_
          rintro e w6 ⟨rfl, q6, hw6⟩
          have hCl : (Lib.compactUpTo D.toArray y.length).length ≤ y.length := by
            unfold Lib.compactUpTo
            rw [List.length_map]
            exact Nat.le_trans (List.length_filter_le _ _) (by simp)
          have eC : Lib.compactUpTo D.toArray y.length = Lib.compact D := by unfold Lib.compact; rw [HD.out]
          rw [eC] at hw6 hCl ⊢
          obtain ⟨ho6, hb6, _⟩ := own_put HO5.out (Lib.compact D ++ List.replicate (y.length - (Lib.compact D).length) 0) (by have := HD.out; rw [List.length_append, List.length_replicate]; omega) (Lib.compact D).length (by rw [List.length_append]; omega) (w' := w6) (q := q6) (os := #[]) (by rw [Go.Sort.grow_empty]; exact hw6)
          rw [List.take_left] at ho6
          have HR6 := Aside0.mk (Kd.R_lower (Kd.R_of_own (h1 := fun _ => rfl) (ok := fun _ => True) ho6 (fun _ _ => trivial)) HZ.out)
          have HW6 := Aside0.mk (below_step HB2.out (Below.trans HB.out (Below.trans HB5.out hb6)))
          clear ho6 hb6 hw6
          go_wp2
          go_ret
          rw [HDE.out]
          exact ⟨_, rfl, HR6.out, HW6.out⟩
end Go.Proofs.YtbppeepihlajoaaDoor.P
