/- The program's CostsFault comes to what a plain Lean function says. -/
import Derived.Test.YtgahimbccbghnaaDoorQ5
import Derived.Test.YtgahimbccbghnaaDoorQ5
import Derived.Test.YtgahimbccbghnaaDoorXM
import Derived.Test.YtgahimbccbghnaaDoorXPtA
import Derived.WalkLawsBesides
namespace Go.Proofs.YtgahimbccbghnaaDoor.P
open Go.RowKit Go.Maps Go.Proofs.YtgahimbccbghnaaDoorW.PrintWords Go.Proofs.YtgahimbccbghnaaDoorW.PrintLast Go.Proofs.YtgahimbccbghnaaDoorW.PrintMore
set_option linter.unusedVariables false
set_option linter.unusedSimpArgs false
/-- What is seen, with the points of a list put to it from place j on; none: one of them is seen twice. -/
def cfDup : List Int → List Int → Option (List Int)
  | seen, [] => some seen
  | seen, p :: r => if seen.contains p then none else cfDup (p :: seen) r
theorem cfDup_nil (seen : List Int) : cfDup seen [] = some seen := rfl
theorem cfDup_hit {seen : List Int} {p : Int} {r : List Int} (h : seen.contains p = true) : cfDup seen (p :: r) = none := by unfold cfDup; rw [if_pos h]
theorem cfDup_miss {seen : List Int} {p : Int} {r : List Int} (h : ¬ seen.contains p = true) : cfDup seen (p :: r) = cfDup (p :: seen) r := by
  show (if seen.contains p = true then none else cfDup (p :: seen) r) = _
  rw [if_neg h]
def impl_CostsFault.l0 : Nat → List Int → List ByteArray → Option Int
  | _, _, [] => some 0
  | k, seen, s :: r => (impl_points.f k s).bind fun l => (impl_well.f s).bind fun b =>
      if b = true ∧ 2 ≤ l.length ∧ l.length ≤ 10 then (match cfDup seen l with | none => some 1 | some seen' => impl_CostsFault.l0 k seen' r) else some 1
def cfOk (n : Int) : Prop := 0 ≤ n ∧ n ≤ 1000
instance (n : Int) : Decidable (cfOk n) := by unfold cfOk; infer_instance
def impl_CostsFault.f (k : Nat) (a0_0 a0_1 a0_2 a0_3 a0_4 : Int) (l0_5 : List ByteArray) : Option Int :=
  if cfOk a0_0 ∧ cfOk a0_1 ∧ cfOk a0_2 ∧ cfOk a0_3 ∧ cfOk a0_4 then
    (if a0_0 = 0 ∨ a0_1 = 0 ∨ a0_3 > a0_2 ∨ a0_2 > a0_0 + a0_1 ∨ l0_5.length > 50 then some 1 else impl_CostsFault.l0 k [] l0_5)
  else some 1
theorem impl_CostsFault.mono_l : ∀ (l : List ByteArray) (seen : List Int) (k : Nat), LeO (impl_CostsFault.l0 k seen l) (impl_CostsFault.l0 (k + 1) seen l)
  | [], _, _ => LeO.refl _
  | s :: r, seen, k => by
    unfold impl_CostsFault.l0
    refine LeO.bind (impl_points.mono _ _) fun l => LeO.bind (LeO.refl _) fun b => LeO.ite ?_ (LeO.refl _)
    cases cfDup seen l with
    | none => exact LeO.refl _
    | some s' => exact impl_CostsFault.mono_l r s' k
theorem impl_CostsFault.mono : ∀ a0 a1 a2 a3 a4 l k, LeO (impl_CostsFault.f k a0 a1 a2 a3 a4 l) (impl_CostsFault.f (k + 1) a0 a1 a2 a3 a4 l) := by
  intro a0 a1 a2 a3 a4 l k
  unfold impl_CostsFault.f
  exact LeO.ite (LeO.ite (LeO.refl _) (impl_CostsFault.mono_l _ _ _)) (LeO.refl _)
def seenF (seen : List Int) : Lit → Bool
  | .int .i64 p => seen.contains p
  | _ => false
theorem seenF_nil (l : Lit) : seenF [] l = false := by unfold seenF; split <;> simp
theorem seenF_put (seen : List Int) (p : Int) (l : Lit) : (if l.sameKey (.int .i64 p) then true else seenF seen l) = seenF (p :: seen) l := by
  by_cases h : l = .int .i64 p
  · subst h
    rw [if_pos (WideAt.sameKey_self (by simp [WideAt.IsKeyLit]))]
    simp [seenF]
  · rw [if_neg (fun h' => h ((WideAt.sameKey_iff (by simp [WideAt.IsKeyLit])).1 h'))]
    unfold seenF
    split
    · simp [List.contains_cons]
      intro e
      exact absurd (by rw [e]) h
    · rfl
theorem cfWorld (w : World) (a0 a1 a2 a3 a4 : Int) (v5 : Value) : ∃ W, (w.alloc (.cells #[.int .i64 a0, .int .i64 a1, .int .i64 a2, .int .i64 a3, .int .i64 a4, v5] 27)).alloc (.cells #[.int .i64 a0, .int .i64 a1, .int .i64 a2, .int .i64 a3, .int .i64 a4] 2) = W ∧
    W.heap.size = w.heap.size + 2 ∧ Below w.heap.size w W ∧
    (W.cell? ⟨w.heap.size, 0, none⟩ = some (.int .i64 a0) ∧ W.cell? ⟨w.heap.size, 1, none⟩ = some (.int .i64 a1) ∧ W.cell? ⟨w.heap.size, 2, none⟩ = some (.int .i64 a2) ∧ W.cell? ⟨w.heap.size, 3, none⟩ = some (.int .i64 a3) ∧ W.cell? ⟨w.heap.size, 5, none⟩ = some v5) ∧
    (∀ j, j < 5 → W.cell? ⟨w.heap.size + 1, j, none⟩ = some (.int .i64 (rd [a0, a1, a2, a3, a4] j))) := by
  refine ⟨_, rfl, by simp, ((Below.refl _ _).alloc (Nat.le_refl _) _).alloc (by simp) _, ⟨?_, ?_, ?_, ?_, ?_⟩, ?_⟩
  all_goals try (go_simp; done)
  intro j hj
  obtain rfl | rfl | rfl | rfl | rfl : j = 0 ∨ j = 1 ∨ j = 2 ∨ j = 3 ∨ j = 4 := by omega
  all_goals (go_simp; simp [rd])
set_option maxHeartbeats 4000000 in
set_option maxRecDepth 100000 in
theorem impl_CostsFault.calls (k : Nat) (a0_0 : Int) (a0_1 : Int) (a0_2 : Int) (a0_3 : Int) (a0_4 : Int) (A0_5 : Option Addr) (c0_5 : Nat) (l0_5 : List ByteArray) (r : Int) (w : World) (hr0_5 : Kd.C Kd.string w A0_5 l0_5.length l0_5) (hc0_5 : l0_5.length ≤ c0_5) (hG : GT w) (h : impl_CostsFault.f k a0_0 a0_1 a0_2 a0_3 a0_4 l0_5 = some r) :
    Calls Tryd.prog 12 #[.agg #[.int .i64 a0_0, .int .i64 a0_1, .int .i64 a0_2, .int .i64 a0_3, .int .i64 a0_4, .slice A0_5 l0_5.length c0_5]] w fun e w' => e = .returned (.int .i64 r) ∧ Below w.heap.size w w' := by
  have HR := Aside0.mk hr0_5
  have HC := Aside0.mk hc0_5
  have HG := Aside0.mk hG
  have H := Aside0.mk h
  clear hr0_5 hc0_5 hG h
  have hu27 := Tryd.underlying27
  go_enter Tryd.func12, Tryd.ntmps12
  go_wp2_with (fail)
  obtain ⟨W, hW, hS, hBW, ⟨hc0, hc1, hc2, hc3, hc5⟩, hcs⟩ := cfWorld w a0_0 a0_1 a0_2 a0_3 a0_4 (.slice A0_5 l0_5.length c0_5)
  rw [hW]
  clear hW
  have HS := Aside0.mk hS
  have HBW := Aside0.mk hBW
  have HCS := Aside0.mk hcs
  clear hS hBW hcs
  go_loop [23] (fun v => ∃ m : Nat, v = .int .i64 m ∧ m ≤ 5 ∧ Aside0 (∀ j : Nat, j < m → cfOk (rd [a0_0, a0_1, a0_2, a0_3, a0_4] j))) (fun v => 5 - (intOf v).toNat)
  case atStart => exact ⟨0, rfl, by omega, ⟨fun j hj => by omega⟩⟩
  case round =>
    obtain ⟨m, rfl, hm, HO⟩ := hrel
    by_cases hlt : m < 5
    · have hcell := HCS.out m hlt
      obtain ⟨n, hn⟩ : ∃ n, rd [a0_0, a0_1, a0_2, a0_3, a0_4] m = n := ⟨_, rfl⟩
      rw [hn] at hcell
      have HN := Aside0.mk hn
      clear hn
      by_cases hok : cfOk n
      · have HOK := Aside0.mk hok
        obtain ⟨h1, h2⟩ := hok
        go_wp2
        go_round
        case rel =>
          refine ⟨m + 1, by go_num, by omega, ⟨fun j hj => ?_⟩⟩
          by_cases e : j = m
          · subst e
            rw [HN.out]
            exact HOK.out
          · exact HO.out j (by omega)
        case measure => simp [intOf]; omega
      · have hr : r = 1 := by
          have h := H.out
          unfold impl_CostsFault.f at h
          rw [if_neg] at h
          · cases h; rfl
          · intro ⟨k0, k1, k2, k3, k4⟩
            apply hok
            rw [← HN.out]
            obtain rfl | rfl | rfl | rfl | rfl : m = 0 ∨ m = 1 ∨ m = 2 ∨ m = 3 ∨ m = 4 := by omega
            all_goals (simp [rd]; assumption)
        subst hr
        unfold cfOk at hok
        by_cases h1 : 0 ≤ n
        · have h2 : 1000 < n := by omega
          clear hok
          go_wp2
          go_ret
          exact ⟨rfl, HBW.out⟩
        · have h2 : n < 0 := by omega
          clear hok h1
          go_wp2
          go_ret
          exact ⟨rfl, HBW.out⟩
    · obtain rfl : m = 5 := by omega
      have k0 := HO.out 0 (by omega)
      have k1 := HO.out 1 (by omega)
      have k2 := HO.out 2 (by omega)
      have k3 := HO.out 3 (by omega)
      have k4 := HO.out 4 (by omega)
      simp [rd] at k0 k1 k2 k3 k4
      have h := H.out
      unfold impl_CostsFault.f at h
      rw [if_pos ⟨k0, k1, k2, k3, k4⟩] at h
      unfold cfOk at k0 k1 k2 k3 k4
      have H1 := Aside0.mk h
      clear h
      obtain ⟨k00, k01⟩ := k0
      obtain ⟨k10, k11⟩ := k1
      obtain ⟨k20, k21⟩ := k2
      obtain ⟨k30, k31⟩ := k3
      clear k4
      by_cases hbad : a0_0 = 0 ∨ a0_1 = 0 ∨ a0_3 > a0_2 ∨ a0_2 > a0_0 + a0_1 ∨ l0_5.length > 50
      · have hr : r = 1 := by
          have h := H1.out
          rw [if_pos hbad] at h
          cases h; rfl
        subst hr
        clear HR HC HG H H1 HCS HO hm hlt
        by_cases e0 : a0_0 = 0
        · have b0 : (a0_0 == 0) = true := beq_iff_eq.2 e0
          clear hbad e0
          go_wp2
          go_ret
          exact ⟨rfl, HBW.out⟩
        · have b0 : (a0_0 == 0) = false := beq_eq_false_iff_ne.2 e0
          by_cases e1 : a0_1 = 0
          · have b1 : (a0_1 == 0) = true := beq_iff_eq.2 e1
            clear hbad e0 e1
            go_wp2
            go_ret
            exact ⟨rfl, HBW.out⟩
          · have b1 : (a0_1 == 0) = false := beq_eq_false_iff_ne.2 e1
            by_cases e2 : a0_2 < a0_3
            · clear hbad e0 e1
              go_wp2
              go_ret
              exact ⟨rfl, HBW.out⟩
            · by_cases e3 : a0_0 + a0_1 < a0_2
              · clear hbad e0 e1
                go_wp2
                go_ret
                exact ⟨rfl, HBW.out⟩
              · have e4 : decide (50 < l0_5.length) = true := decide_eq_true (by omega)
                have e5 : decide ((50 : Int) < (l0_5.length : Int)) = true := decide_eq_true (by omega)
                clear hbad e0 e1
                go_wp2
                go_ret
                exact ⟨rfl, HBW.out⟩
      · have b0 : (a0_0 == 0) = false := beq_eq_false_iff_ne.2 (by omega)
        have b1 : (a0_1 == 0) = false := beq_eq_false_iff_ne.2 (by omega)
        have e2 : ¬ a0_2 < a0_3 := by omega
        have e3 : ¬ a0_0 + a0_1 < a0_2 := by omega
        have e4 : decide (50 < l0_5.length) = false := decide_eq_false (by omega)
        have e5 : decide ((50 : Int) < (l0_5.length : Int)) = false := decide_eq_false (by omega)
        have HL := Aside0.mk (show l0_5.length ≤ 50 by omega)
        have H2 : Aside0 (impl_CostsFault.l0 k [] l0_5 = some r) := ⟨by have h := H1.out; rw [if_neg hbad] at h; exact h⟩
        clear hbad H1 H HO hm hlt HCS
        have hc6 : (W.alloc (.map #[] 0)).cell? ⟨w.heap.size, 5, none⟩ = some (.slice A0_5 l0_5.length c0_5) := (((Below.refl W.heap.size W).alloc (Nat.le_refl _) _).cell (p := ⟨w.heap.size, 5, none⟩) (by have := HS.out; show w.heap.size < W.heap.size; omega)).trans hc5
        have hmm := @run_makeMap Tryd.prog
        go_wp2_with (fail)
        clear hc0 hc1 hc2 hc3 hc5 hc6 hmm e2 e3 e4 e5 b0 b1 k00 k01 k10 k11 k20 k21 k30 k31
        go_loopw [69] (fun v wr => ∃ (i : Nat) (seen : List Int) (n : Nat), v = .int .i64 i ∧ i ≤ l0_5.length ∧ Aside0 (impl_CostsFault.l0 k seen (l0_5.drop i) = some r) ∧ Aside0 (IsSet Tryd.prog 2 4 wr W.heap.size n (seenF seen)) ∧ Aside0 (n ≤ 10 * i) ∧ Aside0 (Below W.heap.size W wr)) (fun v _ => l0_5.length - (intOf v).toNat)
        case atStart => exact ⟨0, [], 0, rfl, by omega, H2, ⟨(IsSet.made W Tryd.prog 2 4).congr (fun l _ => (seenF_nil l).symm)⟩, ⟨by omega⟩, ⟨(Below.refl _ _).alloc (Nat.le_refl _) _⟩⟩
        case round =>
          clear H2
          obtain ⟨i, seen, n, rfl, hi, HI, HM, HN, HB⟩ := hrel
          by_cases hlt : i < l0_5.length
          · obtain ⟨ad, rfl, hx⟩ := Kd.at_string HR.out i (by omega) (by omega)
            have hxl := World.block_lt_of_cell? w _ hx
            replace hx := (HB.out.cell (p := ad.add (i : Int).toNat) (by have := HS.out; omega)).trans ((HBW.out.cell hxl).trans hx)
            have H := HI.out
            rw [List.drop_eq_getElem_cons hlt] at H
            unfold impl_CostsFault.l0 at H
            obtain ⟨l, hl, Ha⟩ := Option.bind_eq_some_iff.mp H
            obtain ⟨b, hb, Hc⟩ := Option.bind_eq_some_iff.mp Ha
            clear H Ha
            have es : rdOf ByteArray.empty l0_5 (i : Int) = l0_5[i] := by simp [rdOf, hlt]
            rw [es, Int.toNat_natCast] at hx
            generalize l0_5[i] = s at *
            have HL1 := Aside0.mk hl
            have HB1 := Aside0.mk hb
            have H3 := Aside0.mk Hc
            have HG1 := Aside0.mk (GT_below (GT_below HG.out HBW.out) HB.out)
            clear hl hb Hc HI es hxl
            go_wp2_with (fail)
            refine (impl_points.calls k s l _ HG1.out HL1.out).mono ?_
            rintro e w1 ⟨v, rfl, hR, hb1⟩
            obtain ⟨Ap, cp, ev⟩ := Kd.R_slice hR
            subst ev
            have HR1 := Aside0.mk (Kd.R_mono (Kd.R_bound hR) (fun _ hk => hk.2.1))
            have HBa := Aside0.mk hb1
            clear hR hb1
            go_wp2_with (fail)
            refine (impl_well.calls s b _ (GT_below HG1.out HBa.out) HB1.out).mono ?_
            rintro e w2 ⟨rfl, hb2⟩
            have HBb := Aside0.mk (below_step HBa.out hb2)
            have HR2 := Aside0.mk (Kd.R_below HR1.out hb2)
            have HM2 := Aside0.mk (HM.out.below HBb.out)
            have HB2 := Aside0.mk (below_step HB.out HBb.out)
            have HW2 := Aside0.mk (below_step HBW.out HB2.out)
            have HML := Aside0.mk HM.out.lt
            clear hb2 HBa HBb HR1 HM HB hx HG1
            by_cases hgood : b = true ∧ 2 ≤ l.length ∧ l.length ≤ 10
            · have H4 := Aside0.mk (show (match cfDup seen l with | none => some 1 | some seen' => impl_CostsFault.l0 k seen' (l0_5.drop (i + 1))) = some r by have h := H3.out; rw [if_pos hgood] at h; exact h)
              obtain ⟨rfl, hl2, hl10⟩ := hgood
              clear H3
              have q1 : decide (l.length < 2) = false := decide_eq_false (by omega)
              have q2 : decide ((l.length : Int) < 2) = false := decide_eq_false (by omega)
              have q3 : decide (10 < l.length) = false := decide_eq_false (by omega)
              have q4 : decide ((10 : Int) < (l.length : Int)) = false := decide_eq_false (by omega)
              go_wp2_with (fail)
              clear q1 q2 q3 q4
              go_loopw [90] (fun v wx => ∃ (j : Nat) (seen' : List Int) (n' : Nat), v = .int .i64 j ∧ j ≤ l.length ∧ Aside0 (cfDup seen' (l.drop j) = cfDup seen l) ∧ Aside0 (IsSet Tryd.prog 2 4 wx W.heap.size n' (seenF seen')) ∧ Aside0 (n' ≤ 10 * i + j) ∧ Aside0 (Kd.R (Kd.int .i64) 2 wx wr.heap.size (fun k => wr.heap.size ≤ k) (.slice Ap l.length cp) l) ∧ Aside0 (Below W.heap.size W wx)) (fun v _ => l.length - (intOf v).toNat)
              case atStart => exact ⟨0, seen, n, rfl, by omega, ⟨rfl⟩, ⟨HM2.out⟩, ⟨by have := HN.out; omega⟩, ⟨HR2.out⟩, ⟨HB2.out⟩⟩
              case round =>
                clear HM2 HR2 HB2 HW2
                obtain ⟨j, seen', n', rfl, hj, HD, HM, HN', HRx, HB⟩ := hrel
                by_cases hjl : j < l.length
                · obtain ⟨_, _, hC⟩ := Kd.R_reads' HRx.out
                  obtain ⟨ad2, rfl, hx⟩ := Kd.at_int hC j (by omega) (by omega)
                  have es : rd l (j : Int) = l[j] := by simp [rd, hjl]
                  have hwf := points_wf HL1.out l[j] (List.getElem_mem hjl)
                  have hd := HD.out
                  rw [List.drop_eq_getElem_cons hjl] at hd
                  rw [es, Int.toNat_natCast] at hx
                  generalize l[j] = p at *
                  have hkey := keyOf_int_mk Tryd.underlying2 hwf
                  have HD2 := Aside0.mk hd
                  clear hd es hwf hC HD
                  cases hs : seenF seen' (.int .i64 p) with
                  | true =>
                    have hr : r = 1 := by
                      have h1 := HD2.out
                      have h2 : seen'.contains p = true := hs
                      have h := H4.out
                      rw [← h1, cfDup_hit h2] at h
                      cases h; rfl
                    subst hr
                    go_wp2_with (first | (at_lookup; refine wpList_lookup_set rfl _ _ 67 rfl 2 4 (int_keyed Tryd.underlying2) Tryd.underlying67 Tryd.underlying4 (by kernel_rfl) rfl HM.out _ _ rfl hkey (by simp [WideAt.IsKeyLit]) _ hs ?_) | fail)
                    go_ret
                    exact ⟨rfl, below_step HBW.out HB.out⟩
                  | false =>
                    have HD3 : Aside0 (cfDup (p :: seen') (l.drop (j + 1)) = cfDup seen l) := ⟨by
                      have h1 := HD2.out
                      have h2 : ¬ seen'.contains p = true := by
                        intro h
                        have : seenF seen' (.int .i64 p) = true := h
                        rw [hs] at this
                        cases this
                      exact (cfDup_miss h2).symm.trans h1⟩
                    go_wp2_with (first | (at_lookup; refine wpList_lookup_set rfl _ _ 67 rfl 2 4 (int_keyed Tryd.underlying2) Tryd.underlying67 Tryd.underlying4 (by kernel_rfl) rfl HM.out _ _ rfl hkey (by simp [WideAt.IsKeyLit]) _ hs ?_) | (at_mapUpdate; refine wpList_store_set rfl _ _ _ 67 rfl 2 4 (int_keyed Tryd.underlying2) Tryd.underlying67 Tryd.underlying4 rfl HM.out (by have h1 := HN'.out; have h2 := HL.out; unfold maxLen; omega) _ _ rfl true rfl hkey (by simp [WideAt.IsKeyLit]) ?_; intro w5 hM5 hg5) | fail)
                    have HM5 := Aside0.mk (hM5.congr (fun l _ => seenF_put seen' p l))
                    have HG5 := Aside0.mk hg5
                    have hmlt := HML.out
                    clear hM5 hg5 hx hkey hs
                    go_wp2
                    go_roundw
                    case rel => exact ⟨j + 1, p :: seen', n' + 1, by go_num, by omega, HD3, ⟨HM5.out⟩, ⟨by have := HN'.out; omega⟩, ⟨Kd.R_grown HRx.out HG5.out (fun k hk => by intro e; cases e; omega)⟩, ⟨HB.out.grown HG5.out (by have := HB.out.size; omega) (fun k hk => by cases hk; exact Nat.le_refl _)⟩⟩
                    case measure => simp [intOf]; omega
                · obtain rfl : j = l.length := by omega
                  have H5 : Aside0 (impl_CostsFault.l0 k seen' (l0_5.drop (i + 1)) = some r) := ⟨by
                    have h1 := HD.out
                    rw [List.drop_eq_nil_of_le (Nat.le_refl _)] at h1
                    have h := H4.out
                    rw [← h1, cfDup_nil] at h
                    exact h⟩
                  clear H4 HD
                  have hl50 := HL.out
                  go_wp2
                  go_roundw
                  case rel => exact ⟨i + 1, seen', n', by go_num, by omega, H5, ⟨HM.out⟩, ⟨by have := HN'.out; omega⟩, ⟨HB.out⟩⟩
                  case measure => simp [intOf]; omega
            · have hr : r = 1 := by
                have h := H3.out
                rw [if_neg hgood] at h
                cases h; rfl
              subst hr
              clear H3
              cases b with
              | false =>
                clear hgood
                go_wp2
                go_ret
                exact ⟨rfl, HW2.out⟩
              | true =>
                by_cases hl2 : l.length < 2
                · have q1 : decide (l.length < 2) = true := decide_eq_true (by omega)
                  have q2 : decide ((l.length : Int) < 2) = true := decide_eq_true (by omega)
                  clear hgood
                  go_wp2
                  go_ret
                  exact ⟨rfl, HW2.out⟩
                · have q1 : decide (l.length < 2) = false := decide_eq_false (by omega)
                  have q2 : decide ((l.length : Int) < 2) = false := decide_eq_false (by omega)
                  have q5 : 10 < l.length := by
                    by_cases h : l.length ≤ 10
                    · exact absurd ⟨rfl, by omega, h⟩ hgood
                    · omega
                  have q3 : decide (10 < l.length) = true := decide_eq_true (by omega)
                  have q4 : decide ((10 : Int) < (l.length : Int)) = true := decide_eq_true (by omega)
                  clear hgood hl2
                  go_wp2
                  go_ret
                  exact ⟨rfl, HW2.out⟩
          · have hr : r = 0 := by
              have h := HI.out
              rw [List.drop_eq_nil_of_le (by omega)] at h
              unfold impl_CostsFault.l0 at h
              cases h; rfl
            subst hr
            go_wp2
            go_ret
            exact ⟨rfl, below_step HBW.out HB.out⟩
end Go.Proofs.YtgahimbccbghnaaDoor.P
