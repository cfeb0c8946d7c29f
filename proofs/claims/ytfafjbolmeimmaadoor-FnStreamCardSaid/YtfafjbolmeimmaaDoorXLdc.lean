/- spec's l02Decode: it reads piece by piece. -/
import Derived.Test.YtfafjbolmeimmaaDoorXLdw
namespace Go.Proofs.YtfafjbolmeimmaaDoor.P
open Go.RowKit Go.Proofs.YtfafjbolmeimmaaDoorW.PrintWords Go.Proofs.YtfafjbolmeimmaaDoorW.PrintLast Go.Proofs.YtfafjbolmeimmaaDoorW.PrintMore
set_option linter.unusedVariables false
set_option linter.unusedSimpArgs false
def spec_l02Decode.f (k : Nat) (a0 : Int) (a1 : ByteArray) (a2 : Bool) : Option (List Int × List Int × Int) :=
 if 1 ≤ a0 ∧ a0 ≤ 5 ∧ a1.size ≤ 1099511627776 then some ((stp (pcF a0 a1) a1.size (!a2) 0).1, (stp (pcF a0 a1) a1.size (!a2) 0).2.1, ((stp (pcF a0 a1) a1.size (!a2) 0).2.2 : Int)) else none
theorem step_go (P : Nat → Nat → Pc) (E : Nat) (G : Good P E) (last : Bool) (pts brk : List Int) (u : Nat) (hu : u < E) (pts' brk' : List Int) (u' : Nat) (h : nx (P u E) last pts brk u = (true, pts', brk', u')) :
  u < u' ∧ u' ≤ E ∧ pts'.length = pts.length + 1 ∧ brk'.length ≤ brk.length + 1 ∧ pts ++ (stp P E (!last) u).1 = pts' ++ (stp P E (!last) u').1 ∧ brk ++ (stp P E (!last) u).2.1 = brk' ++ (stp P E (!last) u').2.1 ∧ (stp P E (!last) u).2.2 = (stp P E (!last) u').2.2 := by
 have hp := G.pos u E hu (Nat.le_refl _)
 unfold nx at h
 split at h
 ·cases h
 rename_i hw
 simp only [Prod.mk.injEq, true_and] at h
 obtain ⟨rfl, rfl, rfl⟩ := h
 rw [stp_go (m := !last) hu hp.1 (fun h2 => hw ⟨h2.1, by simpa using h2.2⟩)]
 refine ⟨by omega, hp.2, by simp, by split <;> simp, by simp, ?_, rfl⟩
 cases (P u E).2.2.1 <;> simp
theorem step_stop (P : Nat → Nat → Pc) (E : Nat) (last : Bool) (pts brk : List Int) (u : Nat) (pts' brk' : List Int) (u' : Nat) (h : nx (P u E) last pts brk u = (false, pts', brk', u')) :
  pts' = pts ∧ brk' = brk ∧ u' = u ∧ stp P E (!last) u = ([], [], u) := by
 unfold nx at h
 split at h
 ·rename_i hw
  simp only [Prod.mk.injEq, true_and] at h
  obtain ⟨rfl, rfl, rfl⟩ := h
  obtain ⟨h1, rfl⟩ := hw
  exact ⟨rfl, rfl, rfl, stp_wait h1⟩
 cases h
set_option maxHeartbeats 4000000 in
set_option maxRecDepth 100000 in
theorem spec_l02Decode.calls (k : Nat) (a0 : Int) (a1 : ByteArray) (a2 : Bool) (r1 r2 : List Int) (r3 : Int) (w : World) (h : spec_l02Decode.f k a0 a1 a2 = some (r1, r2, r3)) :
  Calls Tryd.prog 22 #[.int .i64 a0, .string a1, .bool a2] w fun e w' => ∃ v0_ v1_ : Value, e = .returned (.agg #[v0_, v1_, .int .i64 r3]) ∧ Kd.R (Kd.int .i64) 2 w' w.heap.size (fun k => some k ≠ v1_.ownBlock) v0_ r1 ∧ Kd.R (Kd.int .i64) 2 w' w.heap.size (fun k => some k ≠ v0_.ownBlock) v1_ r2 ∧ Below w.heap.size w w' := by
 unfold spec_l02Decode.f at h
 split at h
 case isFalse => cases h
 rename_i hc
 obtain ⟨hf1, hf5, hsz⟩ := hc
 simp only [Option.some.injEq, Prod.mk.injEq] at h
 have HS := zab.mk h
 have HF := zab.mk (show 1 ≤ a0 ∧ a0 ≤ 5 from ⟨hf1, hf5⟩)
 have HZ := zab.mk hsz
 have HG := zab.mk (pcF_good a0 a1 a1.size)
 have hu49 := Tryd.underlying49
 have HB0 := zab.mk (Below.refl w.heap.size w)
 clear h hf1 hf5 hsz
 obtain ⟨lt, hlt⟩ : ∃ lt : Bool, decide (a0 = 3 ∨ a0 = 5) = lt := ⟨_, rfl⟩
 have HL := zab.mk hlt; clear hlt
 go_enter Tryd.func22, Tryd.ntmps22
 go_upto_region 1 with (first | ((with_reducible refine zbb (N := 6) rfl ?_); refine zbs ?hg (N := 6) ?hd (cs := #[.slice none 0 0, .slice none 0 0, .int .i64 0]) (t := 49) ?hr ?_; (case hd => rfl); (case hg => rfl); (case hr => first | (go_simp; done) | (go_simp; rfl)); intro g6 hg w1 hbox hb; have BK6 := zab.mk hbox; have HBa := zab.mk (zau HB0.out hb); have G6 := zab.mk (show w.heap.size ≤ g6 by omega); clear hb hbox hg) | fail)
 go_upto_region 2 with (first | ((with_reducible refine zbb (N := 7) rfl ?_); refine zbs ?hg (N := 7) ?hd (cs := #[.slice none 0 0, .slice none 0 0, .int .i64 0]) (t := 49) ?hr ?_; (case hd => rfl); (case hg => rfl); (case hr => first | (go_simp; done) | (go_simp; rfl)); intro g7 hg w2 hbox hb; have hz0 := (zal hbox 0).trans rfl; have hz1 := (zal hbox 1).trans rfl; have hz2 := (zal hbox 2).trans rfl; have hy0 := zam hbox 0; have hy1 := zam hbox 1; have hy2 := zam hbox 2; have BK7 := zab.mk hbox; have HBb := zab.mk (show Below w1.heap.size w1 w2 from hg ▸ hb); have G7 := zab.mk (show w1.heap.size ≤ g7 by omega); clear hb hbox hg) | fail)
 go_cut [8] (fun v8 wc => v8 = .bool lt ∧ zab (RD w1 wc g7 [] [] ((0 : Nat) : Int)) ∧ zab (Below w1.heap.size w1 wc))
 case first => as_aux_lemma =>
  have hb2 : RD w1 (((w2.setCell ⟨g7, 0, none⟩ (.slice none 0 0)).setCell ⟨g7, 1, none⟩ (.slice none 0 0)).setCell ⟨g7, 2, none⟩ (.int .i64 0)) g7 [] [] ((0 : Nat) : Int) := ⟨.slice none 0 0, .slice none 0 0, zaG (zaG (zaG BK7.out 0 _ rfl) 1 _ rfl) 2 _ rfl, G7.out, Kd.R_nil _ _ _ _ _, Kd.R_nil _ _ _ _ _⟩
  have hb3 : Below w1.heap.size w1 (((w2.setCell ⟨g7, 0, none⟩ (.slice none 0 0)).setCell ⟨g7, 1, none⟩ (.slice none 0 0)).setCell ⟨g7, 2, none⟩ (.int .i64 0)) := zae (zae (zae HBb.out G7.out) G7.out) G7.out
  have HX := zab.mk hb2; have HY := zab.mk hb3
  have hl := HL.out
  clear hb2 hb3
  by_cases e3 : a0 = 3
  ·have x1 : (a0 == 3) = true := beq_iff_eq.mpr e3
   rw [decide_eq_true (Or.inl e3)] at hl
   subst hl; clear e3
   go_wp2
   go_meet
   case rel => exact ⟨rfl, HX, HY⟩
  have x1 : (a0 == 3) = false := beq_eq_false_iff_ne.mpr e3
  by_cases e5 : a0 = 5
  ·have x2 : (a0 == 5) = true := beq_iff_eq.mpr e5
   rw [decide_eq_true (Or.inr e5)] at hl
   subst hl; clear e3 e5
   go_wp2
   go_meet
   case rel => exact ⟨rfl, HX, HY⟩
  have x2 : (a0 == 5) = false := beq_eq_false_iff_ne.mpr e5
  rw [decide_eq_false (by omega)] at hl
  subst hl; clear e3 e5
  go_wp2
  go_meet
  case rel => exact ⟨rfl, HX, HY⟩
 case rest =>
  clear hz0 hz1 hz2 hy0 hy1 hy2 BK7 HBb
  obtain ⟨rfl, HI, HB⟩ := hcut
  have hs := HS.out
  go_wp2_with (fail)
  go_loopg [9] (a1.size + 1) (fun gk v9 wr => ∃ (pts brk : List Int) (u : Nat), zab (u ≤ a1.size ∧ a1.size - u < gk ∧ pts.length ≤ u ∧ brk.length ≤ u) ∧ zab (pts ++ (stp (pcF a0 a1) a1.size (!a2) u).1 = r1 ∧ brk ++ (stp (pcF a0 a1) a1.size (!a2) u).2.1 = r2 ∧ ((stp (pcF a0 a1) a1.size (!a2) u).2.2 : Int) = r3) ∧ zab (RD w1 wr g7 pts brk (u : Int)) ∧ zab (Below w1.heap.size w1 wr))
  case atStart => exact ⟨[], [], 0, ⟨by omega, by omega, by simp, by simp⟩, ⟨by simpa using hs⟩, HI, HB⟩
  case round => as_aux_lemma =>
   clear HI HB hs HS
   obtain ⟨pts, brk, u, HN, HS, HI, HB⟩ := hrel
   cases gk with
   | zero => exact absurd HN.out.2.1 (by omega)
   | succ k1 =>
    have hz : wr.cell? ⟨g7, 2, none⟩ = some (.int .i64 (u : Int)) := by obtain ⟨vp, vb, BK, _⟩ := HI.out; exact (zal BK 2).trans rfl
    by_cases cu : u < a1.size
    ·have x0 : decide ((u : Int) < (a1.size : Int)) = true := decide_eq_true (by omega)
     have x0n : decide (u < a1.size) = true := decide_eq_true cu
     obtain ⟨⟨on, p2, b2, u2⟩, hnx⟩ : ∃ q, nx (pcF a0 a1 u a1.size) a2 pts brk u = q := ⟨_, rfl⟩
     have HX := zab.mk hnx
     have lim := HN.out
     have HC := zab.mk cu; clear hnx lim cu
     by_cases e1 : a0 = 1
     ·as_aux_lemma =>
       have x1 : (a0 == 1) = true := beq_iff_eq.mpr e1
       have hp : nx (pcEight a1 u a1.size) a2 pts brk u = (on, p2, b2, u2) := by have h := HX.out; unfold pcF at h; rw [if_pos e1] at h; exact h
       have HPx := zab.mk hp; clear hp e1
       go_wp2_with (fail)
       refine (eight_calls g7 a1 a2 pts brk u (on, p2, b2, u2) w1 _ HPx.out HZ.out HC.out HI.out HB.out HN.out.2.2.1 HN.out.2.2.2).mono ?_
       rintro e w3 ⟨rfl, hi, hb⟩
       have HI2 := zab.mk hi; have HB2 := zab.mk hb; clear hi hb HI HB hz x0 x0n
       cases on with
       | true =>
        have st := step_go (pcF a0 a1) a1.size HG.out a2 pts brk u HC.out p2 b2 u2 HX.out
        have HT := zab.mk st; clear st
        go_wp2
        go_roundg k1
        case measure => omega
        case rel => exact ⟨p2, b2, u2, ⟨HT.out.2.1, by have := HT.out; have := HN.out; omega, by have := HT.out; have := HN.out; omega, by have := HT.out; have := HN.out; omega⟩, ⟨by obtain ⟨t1, t2, t3, t4, t5, t6, t7⟩ := HT.out; rw [← t5, ← t6, ← t7]; exact HS.out⟩, HI2, HB2⟩
       | false =>
        obtain ⟨q1, q2, q3, hst⟩ := step_stop (pcF a0 a1) a1.size a2 pts brk u p2 b2 u2 HX.out
        have hs := HS.out
        rw [hst, List.append_nil, List.append_nil] at hs
        obtain ⟨y1, y2, y3⟩ := hs
        have HI3 := zab.mk (show RD w1 w3 g7 r1 r2 r3 by rw [← y1, ← y2, ← y3]; show RD w1 w3 g7 pts brk (u : Int); rw [← q1, ← q2, ← q3]; exact HI2.out)
        clear hst q1 q2 q3 y1 y2 y3 HI2
        obtain ⟨vp, vb, BK, hge, HP, HQ⟩ := HI3.out
        have B6 : (w3).heap[g6]? = some (.cells #[.slice none 0 0, .slice none 0 0, .int .i64 0] 49 (0, 0)) := (HB2.out.block g6 (blk_lt BK6.out)).trans BK6.out
        obtain ⟨Ap, cp, rfl⟩ := Kd.zbr HP
        obtain ⟨Aq, cq, rfl⟩ := Kd.zbr HQ
        have hz0 := (zal BK 0).trans rfl
        have hz1 := (zal BK 1).trans rfl
        have hz2 := (zal BK 2).trans rfl
        have ha0 := (zal B6 0).trans rfl
        have ha1 := (zal B6 1).trans rfl
        have ha2 := (zal B6 2).trans rfl
        have hf0 := zam B6 0
        have hf1 := zam B6 1
        have hf2 := zam B6 2
        have HP := zab.mk HP; have HQ := zab.mk HQ; have B6' := zab.mk B6
        have hne : g7 ≠ g6 := by have := blk_lt BK6.out; omega
        clear BK B6
        go_wp2
        refine bodyPost_ret (results_cell_row rfl _ _ g6 49 #[.slice Ap r1.length cp, .slice Aq r2.length cq, .int .i64 r3] (0, 0) _ rfl (by refine zaG (cs := #[.slice Ap r1.length cp, .slice Aq r2.length cq, .int .i64 0]) ?_ 2 _ rfl; refine zaG (cs := #[.slice Ap r1.length cp, .slice none 0 0, .int .i64 0]) ?_ 1 _ rfl; exact zaG B6'.out 0 _ rfl) Tryd.underlying49 rfl (by kernel_rfl)) rfl ?_
        have g6l : g6 < w1.heap.size := blk_lt BK6.out
        have far : ∀ {v : Value} {xs : List Int} {ok : Nat → Prop}, Kd.R (Kd.int .i64) 2 (w3) w1.heap.size (fun k => k ≠ g7 ∧ ok k) v xs → Kd.R (Kd.int .i64) 2 ((((w3).setCell ⟨g6, 0, none⟩ (.slice Ap r1.length cp)).setCell ⟨g6, 1, none⟩ (.slice Aq r2.length cq)).setCell ⟨g6, 2, none⟩ (.int .i64 r3)) w.heap.size ok v xs := by
         intro v xs ok hR
         have h1 := Kd.R_bound hR
         have hn : ∀ k, ((k ≠ g7 ∧ ok k) ∧ w1.heap.size ≤ k ∧ k < (w3).heap.size ∧ ∃ q, q ∈ 2 :: (Kd.int .i64).E ∧ ∃ cells, (w3).heap[k]? = some (.cells cells q (0, 0))) → k ≠ g6 := fun k hk => by have := hk.2.1; omega
         exact Kd.za7 (Kd.zbm (Kd.za0 (Kd.za0 (Kd.za0 h1 hn _) hn _) hn _) (Nat.le_of_lt (Nat.lt_of_le_of_lt G6.out g6l))) (fun k hk => hk.1.2)
        refine ⟨.slice Ap r1.length cp, .slice Aq r2.length cq, rfl, far HP.out, far HQ.out, ?_⟩
        exact zae (zae (zae (zau HBa.out HB2.out) G6.out) G6.out) G6.out
     have x1 : (a0 == 1) = false := beq_eq_false_iff_ne.mpr e1
     by_cases e4 : 4 ≤ a0
     ·as_aux_lemma =>
       have x2 : decide (4 ≤ a0) = true := decide_eq_true e4
       have hp : nx (pcWide (!(decide (a0 = 3 ∨ a0 = 5))) a1 u a1.size) a2 pts brk u = (on, p2, b2, u2) := by
        have h := HX.out; unfold pcF at h; rw [if_neg e1, if_neg (by omega)] at h
        have e : decide (a0 = 4) = !(decide (a0 = 3 ∨ a0 = 5)) := by have := HF.out; rw [← decide_not]; exact decide_eq_decide.2 (by omega)
        rw [e] at h; exact h
       rw [HL.out] at hp
       have HPx := zab.mk hp; clear hp e1 e4
       go_wp2_with (fail)
       refine (wide_calls g7 a1 lt a2 pts brk u (on, p2, b2, u2) w1 _ HPx.out HZ.out HC.out HI.out HB.out HN.out.2.2.1 HN.out.2.2.2).mono ?_
       rintro e w3 ⟨rfl, hi, hb⟩
       have HI2 := zab.mk hi; have HB2 := zab.mk hb; clear hi hb HI HB hz x0 x0n
       cases on with
       | true =>
        have st := step_go (pcF a0 a1) a1.size HG.out a2 pts brk u HC.out p2 b2 u2 HX.out
        have HT := zab.mk st; clear st
        go_wp2
        go_roundg k1
        case measure => omega
        case rel => exact ⟨p2, b2, u2, ⟨HT.out.2.1, by have := HT.out; have := HN.out; omega, by have := HT.out; have := HN.out; omega, by have := HT.out; have := HN.out; omega⟩, ⟨by obtain ⟨t1, t2, t3, t4, t5, t6, t7⟩ := HT.out; rw [← t5, ← t6, ← t7]; exact HS.out⟩, HI2, HB2⟩
       | false =>
        obtain ⟨q1, q2, q3, hst⟩ := step_stop (pcF a0 a1) a1.size a2 pts brk u p2 b2 u2 HX.out
        have hs := HS.out
        rw [hst, List.append_nil, List.append_nil] at hs
        obtain ⟨y1, y2, y3⟩ := hs
        have HI3 := zab.mk (show RD w1 w3 g7 r1 r2 r3 by rw [← y1, ← y2, ← y3]; show RD w1 w3 g7 pts brk (u : Int); rw [← q1, ← q2, ← q3]; exact HI2.out)
        clear hst q1 q2 q3 y1 y2 y3 HI2
        obtain ⟨vp, vb, BK, hge, HP, HQ⟩ := HI3.out
        have B6 : (w3).heap[g6]? = some (.cells #[.slice none 0 0, .slice none 0 0, .int .i64 0] 49 (0, 0)) := (HB2.out.block g6 (blk_lt BK6.out)).trans BK6.out
        obtain ⟨Ap, cp, rfl⟩ := Kd.zbr HP
        obtain ⟨Aq, cq, rfl⟩ := Kd.zbr HQ
        have hz0 := (zal BK 0).trans rfl
        have hz1 := (zal BK 1).trans rfl
        have hz2 := (zal BK 2).trans rfl
        have ha0 := (zal B6 0).trans rfl
        have ha1 := (zal B6 1).trans rfl
        have ha2 := (zal B6 2).trans rfl
        have hf0 := zam B6 0
        have hf1 := zam B6 1
        have hf2 := zam B6 2
        have HP := zab.mk HP; have HQ := zab.mk HQ; have B6' := zab.mk B6
        have hne : g7 ≠ g6 := by have := blk_lt BK6.out; omega
        clear BK B6
        go_wp2
        refine bodyPost_ret (results_cell_row rfl _ _ g6 49 #[.slice Ap r1.length cp, .slice Aq r2.length cq, .int .i64 r3] (0, 0) _ rfl (by refine zaG (cs := #[.slice Ap r1.length cp, .slice Aq r2.length cq, .int .i64 0]) ?_ 2 _ rfl; refine zaG (cs := #[.slice Ap r1.length cp, .slice none 0 0, .int .i64 0]) ?_ 1 _ rfl; exact zaG B6'.out 0 _ rfl) Tryd.underlying49 rfl (by kernel_rfl)) rfl ?_
        have g6l : g6 < w1.heap.size := blk_lt BK6.out
        have far : ∀ {v : Value} {xs : List Int} {ok : Nat → Prop}, Kd.R (Kd.int .i64) 2 (w3) w1.heap.size (fun k => k ≠ g7 ∧ ok k) v xs → Kd.R (Kd.int .i64) 2 ((((w3).setCell ⟨g6, 0, none⟩ (.slice Ap r1.length cp)).setCell ⟨g6, 1, none⟩ (.slice Aq r2.length cq)).setCell ⟨g6, 2, none⟩ (.int .i64 r3)) w.heap.size ok v xs := by
         intro v xs ok hR
         have h1 := Kd.R_bound hR
         have hn : ∀ k, ((k ≠ g7 ∧ ok k) ∧ w1.heap.size ≤ k ∧ k < (w3).heap.size ∧ ∃ q, q ∈ 2 :: (Kd.int .i64).E ∧ ∃ cells, (w3).heap[k]? = some (.cells cells q (0, 0))) → k ≠ g6 := fun k hk => by have := hk.2.1; omega
         exact Kd.za7 (Kd.zbm (Kd.za0 (Kd.za0 (Kd.za0 h1 hn _) hn _) hn _) (Nat.le_of_lt (Nat.lt_of_le_of_lt G6.out g6l))) (fun k hk => hk.1.2)
        refine ⟨.slice Ap r1.length cp, .slice Aq r2.length cq, rfl, far HP.out, far HQ.out, ?_⟩
        exact zae (zae (zae (zau HBa.out HB2.out) G6.out) G6.out) G6.out
     as_aux_lemma =>
      have x2 : decide (4 ≤ a0) = false := decide_eq_false e4
      have hp : nx (pcSixteen (!(decide (a0 = 3 ∨ a0 = 5))) a1 u a1.size) a2 pts brk u = (on, p2, b2, u2) := by
       have h := HX.out; unfold pcF at h; rw [if_neg e1, if_pos (by omega)] at h
       have e : decide (a0 = 2) = !(decide (a0 = 3 ∨ a0 = 5)) := by have := HF.out; rw [← decide_not]; exact decide_eq_decide.2 (by omega)
       rw [e] at h; exact h
      rw [HL.out] at hp
      have HPx := zab.mk hp; clear hp e1 e4
      go_wp2_with (fail)
      refine (sixteen_calls g7 a1 lt a2 pts brk u (on, p2, b2, u2) w1 _ HPx.out HZ.out HC.out HI.out HB.out HN.out.2.2.1 HN.out.2.2.2).mono ?_
      rintro e w3 ⟨rfl, hi, hb⟩
      have HI2 := zab.mk hi; have HB2 := zab.mk hb; clear hi hb HI HB hz x0 x0n
      cases on with
      | true =>
       have st := step_go (pcF a0 a1) a1.size HG.out a2 pts brk u HC.out p2 b2 u2 HX.out
       have HT := zab.mk st; clear st
       go_wp2
       go_roundg k1
       case measure => omega
       case rel => exact ⟨p2, b2, u2, ⟨HT.out.2.1, by have := HT.out; have := HN.out; omega, by have := HT.out; have := HN.out; omega, by have := HT.out; have := HN.out; omega⟩, ⟨by obtain ⟨t1, t2, t3, t4, t5, t6, t7⟩ := HT.out; rw [← t5, ← t6, ← t7]; exact HS.out⟩, HI2, HB2⟩
      | false =>
       obtain ⟨q1, q2, q3, hst⟩ := step_stop (pcF a0 a1) a1.size a2 pts brk u p2 b2 u2 HX.out
       have hs := HS.out
       rw [hst, List.append_nil, List.append_nil] at hs
       obtain ⟨y1, y2, y3⟩ := hs
       have HI3 := zab.mk (show RD w1 w3 g7 r1 r2 r3 by rw [← y1, ← y2, ← y3]; show RD w1 w3 g7 pts brk (u : Int); rw [← q1, ← q2, ← q3]; exact HI2.out)
       clear hst q1 q2 q3 y1 y2 y3 HI2
       obtain ⟨vp, vb, BK, hge, HP, HQ⟩ := HI3.out
       have B6 : (w3).heap[g6]? = some (.cells #[.slice none 0 0, .slice none 0 0, .int .i64 0] 49 (0, 0)) := (HB2.out.block g6 (blk_lt BK6.out)).trans BK6.out
       obtain ⟨Ap, cp, rfl⟩ := Kd.zbr HP
       obtain ⟨Aq, cq, rfl⟩ := Kd.zbr HQ
       have hz0 := (zal BK 0).trans rfl
       have hz1 := (zal BK 1).trans rfl
       have hz2 := (zal BK 2).trans rfl
       have ha0 := (zal B6 0).trans rfl
       have ha1 := (zal B6 1).trans rfl
       have ha2 := (zal B6 2).trans rfl
       have hf0 := zam B6 0
       have hf1 := zam B6 1
       have hf2 := zam B6 2
       have HP := zab.mk HP; have HQ := zab.mk HQ; have B6' := zab.mk B6
       have hne : g7 ≠ g6 := by have := blk_lt BK6.out; omega
       clear BK B6
       go_wp2
       refine bodyPost_ret (results_cell_row rfl _ _ g6 49 #[.slice Ap r1.length cp, .slice Aq r2.length cq, .int .i64 r3] (0, 0) _ rfl (by refine zaG (cs := #[.slice Ap r1.length cp, .slice Aq r2.length cq, .int .i64 0]) ?_ 2 _ rfl; refine zaG (cs := #[.slice Ap r1.length cp, .slice none 0 0, .int .i64 0]) ?_ 1 _ rfl; exact zaG B6'.out 0 _ rfl) Tryd.underlying49 rfl (by kernel_rfl)) rfl ?_
       have g6l : g6 < w1.heap.size := blk_lt BK6.out
       have far : ∀ {v : Value} {xs : List Int} {ok : Nat → Prop}, Kd.R (Kd.int .i64) 2 (w3) w1.heap.size (fun k => k ≠ g7 ∧ ok k) v xs → Kd.R (Kd.int .i64) 2 ((((w3).setCell ⟨g6, 0, none⟩ (.slice Ap r1.length cp)).setCell ⟨g6, 1, none⟩ (.slice Aq r2.length cq)).setCell ⟨g6, 2, none⟩ (.int .i64 r3)) w.heap.size ok v xs := by
        intro v xs ok hR
        have h1 := Kd.R_bound hR
        have hn : ∀ k, ((k ≠ g7 ∧ ok k) ∧ w1.heap.size ≤ k ∧ k < (w3).heap.size ∧ ∃ q, q ∈ 2 :: (Kd.int .i64).E ∧ ∃ cells, (w3).heap[k]? = some (.cells cells q (0, 0))) → k ≠ g6 := fun k hk => by have := hk.2.1; omega
        exact Kd.za7 (Kd.zbm (Kd.za0 (Kd.za0 (Kd.za0 h1 hn _) hn _) hn _) (Nat.le_of_lt (Nat.lt_of_le_of_lt G6.out g6l))) (fun k hk => hk.1.2)
       refine ⟨.slice Ap r1.length cp, .slice Aq r2.length cq, rfl, far HP.out, far HQ.out, ?_⟩
       exact zae (zae (zae (zau HBa.out HB2.out) G6.out) G6.out) G6.out
    have x0 : decide ((u : Int) < (a1.size : Int)) = false := decide_eq_false (by omega)
    have hs := HS.out
    rw [stp_end (by omega), List.append_nil, List.append_nil] at hs
    obtain ⟨y1, y2, y3⟩ := hs
    have HI3 := zab.mk (show RD w1 wr g7 r1 r2 r3 by rw [← y1, ← y2, ← y3]; exact HI.out)
    rw [y3] at x0
    clear cu hz y1 y2 y3 HI
    obtain ⟨vp, vb, BK, hge, HP, HQ⟩ := HI3.out
    have B6 : (wr).heap[g6]? = some (.cells #[.slice none 0 0, .slice none 0 0, .int .i64 0] 49 (0, 0)) := (HB.out.block g6 (blk_lt BK6.out)).trans BK6.out
    obtain ⟨Ap, cp, rfl⟩ := Kd.zbr HP
    obtain ⟨Aq, cq, rfl⟩ := Kd.zbr HQ
    have hz0 := (zal BK 0).trans rfl
    have hz1 := (zal BK 1).trans rfl
    have hz2 := (zal BK 2).trans rfl
    have ha0 := (zal B6 0).trans rfl
    have ha1 := (zal B6 1).trans rfl
    have ha2 := (zal B6 2).trans rfl
    have hf0 := zam B6 0
    have hf1 := zam B6 1
    have hf2 := zam B6 2
    have HP := zab.mk HP; have HQ := zab.mk HQ; have B6' := zab.mk B6
    have hne : g7 ≠ g6 := by have := blk_lt BK6.out; omega
    clear BK B6
    go_wp2
    refine bodyPost_ret (results_cell_row rfl _ _ g6 49 #[.slice Ap r1.length cp, .slice Aq r2.length cq, .int .i64 r3] (0, 0) _ rfl (by refine zaG (cs := #[.slice Ap r1.length cp, .slice Aq r2.length cq, .int .i64 0]) ?_ 2 _ rfl; refine zaG (cs := #[.slice Ap r1.length cp, .slice none 0 0, .int .i64 0]) ?_ 1 _ rfl; exact zaG B6'.out 0 _ rfl) Tryd.underlying49 rfl (by kernel_rfl)) rfl ?_
    have g6l : g6 < w1.heap.size := blk_lt BK6.out
    have far : ∀ {v : Value} {xs : List Int} {ok : Nat → Prop}, Kd.R (Kd.int .i64) 2 (wr) w1.heap.size (fun k => k ≠ g7 ∧ ok k) v xs → Kd.R (Kd.int .i64) 2 ((((wr).setCell ⟨g6, 0, none⟩ (.slice Ap r1.length cp)).setCell ⟨g6, 1, none⟩ (.slice Aq r2.length cq)).setCell ⟨g6, 2, none⟩ (.int .i64 r3)) w.heap.size ok v xs := by
     intro v xs ok hR
     have h1 := Kd.R_bound hR
     have hn : ∀ k, ((k ≠ g7 ∧ ok k) ∧ w1.heap.size ≤ k ∧ k < (wr).heap.size ∧ ∃ q, q ∈ 2 :: (Kd.int .i64).E ∧ ∃ cells, (wr).heap[k]? = some (.cells cells q (0, 0))) → k ≠ g6 := fun k hk => by have := hk.2.1; omega
     exact Kd.za7 (Kd.zbm (Kd.za0 (Kd.za0 (Kd.za0 h1 hn _) hn _) hn _) (Nat.le_of_lt (Nat.lt_of_le_of_lt G6.out g6l))) (fun k hk => hk.1.2)
    refine ⟨.slice Ap r1.length cp, .slice Aq r2.length cq, rfl, far HP.out, far HQ.out, ?_⟩
    exact zae (zae (zae (zau HBa.out HB.out) G6.out) G6.out) G6.out
end Go.Proofs.YtfafjbolmeimmaaDoor.P
