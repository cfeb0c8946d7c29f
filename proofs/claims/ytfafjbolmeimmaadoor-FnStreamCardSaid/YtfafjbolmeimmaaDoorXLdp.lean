/- The reference's reader of bytes: its state, a point, a broken piece. -/
import Derived.Test.YtfafjbolmeimmaaDoorF0
import Derived.Deep.RegionLaw
namespace Go.Proofs.YtfafjbolmeimmaaDoor.P
open Go.RowKit Go.Proofs.YtfafjbolmeimmaaDoorW.PrintWords Go.Proofs.YtfafjbolmeimmaaDoorW.PrintLast Go.Proofs.YtfafjbolmeimmaaDoorW.PrintMore
set_option linter.unusedVariables false
set_option linter.unusedSimpArgs false
def RD (w0 w : World) (g : Nat) (pts brk : List Int) (used : Int) : Prop :=
 ∃ vp vb : Value, w.heap[g]? = some (.cells #[vp, vb, .int .i64 used] 49 (0, 0)) ∧ w0.heap.size ≤ g ∧ Kd.R (Kd.int .i64) 2 w w0.heap.size (fun k => k ≠ g ∧ some k ≠ vb.ownBlock) vp pts ∧ Kd.R (Kd.int .i64) 2 w w0.heap.size (fun k => k ≠ g ∧ some k ≠ vp.ownBlock) vb brk
theorem RD.below {w0 w w' : World} {g : Nat} {pts brk : List Int} {used : Int} (h : RD w0 w g pts brk used) (hb : Below w.heap.size w w') : RD w0 w' g pts brk used := by
 obtain ⟨vp, vb, BK, hge, HP, HQ⟩ := h
 exact ⟨vp, vb, zaL BK hb, hge, Kd.zbi HP hb, Kd.zbi HQ hb⟩
theorem RD.drewN {w0 w : World} {g : Nat} {pts brk : List Int} {used : Int} (h : RD w0 w g pts brk used) (m : Nat) : RD w0 (w.drewN m) g pts brk used := h.below (zaa (Below.refl _ _) m)
theorem Kd.R_after_ {α : Type} {d : Kd α} {e base : Nat} {W w1 : World} {u v v1 : Value} {xs : List α} {g : Nat} (h1 : d.R e w1 base (fun k => k ≠ g ∧ some k ≠ v.ownBlock) u xs) (h : d.R e W base (fun k => k ≠ g ∧ some k ≠ v.ownBlock) u xs) (hg : W.grownBy w1 v.ownBlock) (hat : v1.ownBlock = v.ownBlock ∨ ∃ b, v1.ownBlock = some b ∧ W.heap.size ≤ b) : d.R e w1 base (fun k => k ≠ g ∧ some k ≠ v1.ownBlock) u xs := by
 have h2 := Kd.R_bound h
 have h3 := Kd.R_move (w1 := w1) h2 (fun k hk => hg.block k hk.2.2.1 hk.1.2)
 refine Kd.za7 h3 (fun k hk => ⟨hk.1.1, fun e => ?_⟩)
 rcases hat with hat | ⟨b, hb, hle⟩
 ·exact hk.1.2 (e.trans hat)
 rw [hb] at e
 injection e with e
 have := hk.2.2.1
 omega
set_option maxHeartbeats 4000000 in
set_option maxRecDepth 100000 in
theorem point_calls (g : Nat) (p n : Int) (pts brk : List Int) (used : Int) (w0 w : World) (hI : RD w0 w g pts brk used) (hB : Below w0.heap.size w0 w) (hL : pts.length < 4398046511104) :
  Calls Tryd.prog 54 #[.pointer (some ⟨g, 0, none⟩), .int .i64 p, .int .i64 n] w fun e w' => e = .returned (.tuple #[]) ∧ RD w0 w' g (pts ++ [p]) brk (wrap64 (used + n)) ∧ Below w0.heap.size w0 w' := by
 have HB := zab.mk hB; have LM := zab.mk hL
 obtain ⟨vp, vb, BK, hge, HP, HQ⟩ := hI
 have HP := zab.mk HP; have HQ := zab.mk HQ; have HK := zab.mk BK; clear hB hL
 go_enter Tryd.func54, Tryd.ntmps54
 have hz0 : w.cell? ⟨g, 0, none⟩ = some vp := (zal BK 0).trans rfl
 go_wp2_with (first | ((with_reducible refine gate_builtin (b := .append) (xs := #[.tmp 10, .tmp 12]) rfl ?_); at_builtin; refine Kd.R_append (Kd.int .i64) (w0 := w0) w0.heap.size rfl (.tmp 10) (.tmp 12) 25 2 (.int .i64 0) 8 rfl Tryd.underlying25 info2 rfl (by decide) (by omega) vp pts p [.int .i64 p] (fun k => k ≠ g ∧ some k ≠ vb.ownBlock) (fun _ => False) rfl rfl ?aP (fun _ hk => hk.elim) ?aF ?aO ?aB ?aS ?aL ?_; (case aP => exact rfl); (case aF => exact fun k hk => ⟨by have := blk_lt HK.out; omega, fun e => by have := Kd.R_lt HQ.out k e.symm; omega⟩); (case aO => exact HP.out); (case aB => exact HB.out); (case aS => exact (zav HB.out)); (case aL => have := LM.out; omega); intro v1 w1 ho hb hg hat; have hne : some g ≠ vp.ownBlock := (fun e => (HP.out.1 g e.symm).1 rfl); have BK1 := blk_grown HK.out hg hne; obtain ⟨A1, c1, hv1⟩ := Kd.zbr ho; have HQ1 := Kd.R_grown HQ.out hg (fun k hk => hk.2); have HQ2 := Kd.R_after_ HQ1 HQ.out hg hat; subst hv1; have hz1 : w1.cell? ⟨g, 0, none⟩ = some vp := (zal BK1 0).trans rfl; have hz2 : w1.cell? ⟨g, 2, none⟩ = some (.int .i64 used) := (zal BK1 2).trans rfl; have hf0 := zam BK1 0; have hf2 := zam BK1 2; have HO := zab.mk ho; have HQ3 := zab.mk HQ2; have HB1 := zab.mk hb; have BK2 := zab.mk BK1; clear ho HQ1 HQ2 BK1 hb hg hat))
 go_end0
 have el : (pts ++ [p]).length = pts.length + 1 := by rw [List.length_append]; rfl
 refine ⟨rfl, ⟨.slice A1 (pts.length + 1) c1, vb, ?_, hge, ?_, ?_⟩, ?_⟩
 ·exact zaG (zaG BK2.out 0 _ rfl) 2 _ rfl
 ·rw [el] at HO
  exact Kd.za0 (Kd.za0 HO.out (fun k hk => hk.1) _) (fun k hk => hk.1) _
 ·rw [el] at HQ3
  exact Kd.za0 (Kd.za0 HQ3.out (fun k hk => hk.1) _) (fun k hk => hk.1) _
 exact zae (zae HB1.out hge) hge
set_option maxHeartbeats 4000000 in
set_option maxRecDepth 100000 in
theorem piece_calls (g : Nat) (n : Int) (pts brk : List Int) (used : Int) (w0 w : World) (hI : RD w0 w g pts brk used) (hB : Below w0.heap.size w0 w) (hL : pts.length < 4398046511104) (hL2 : brk.length < 4398046511104) :
  Calls Tryd.prog 56 #[.pointer (some ⟨g, 0, none⟩), .int .i64 n] w fun e w' => e = .returned (.tuple #[]) ∧ RD w0 w' g (pts ++ [65533]) (brk ++ [used]) (wrap64 (used + n)) ∧ Below w0.heap.size w0 w' := by
 have HB := zab.mk hB; have LM := zab.mk hL; have LM2 := zab.mk hL2
 obtain ⟨vp, vb, BK, hge, HP, HQ⟩ := hI
 have HP := zab.mk HP; have HQ := zab.mk HQ; have HK := zab.mk BK; clear hB hL hL2
 have hz1 : w.cell? ⟨g, 1, none⟩ = some vb := (zal BK 1).trans rfl
 have hz2 : w.cell? ⟨g, 2, none⟩ = some (.int .i64 used) := (zal BK 2).trans rfl
 have ha1 : (w.alloc (.cells #[.int .i64 used] 2)).cell? ⟨g, 1, none⟩ = some vb := (zal (zah BK _) 1).trans rfl
 go_enter Tryd.func56, Tryd.ntmps56
 go_upto_region 0 with (fail)
 go_region_law (refine Kd.R_append_step (Kd.int .i64) (w0 := w0) (W := w.drew) w0.heap.size (by rfl) (.tmp 8) (.tmp 13) 25 2 (.int .i64 0) 8 rfl Tryd.underlying25 info2 rfl (by decide) (by omega) vb brk used [.int .i64 used] (fun k => k ≠ g ∧ some k ≠ vp.ownBlock) (fun _ => False) (by first | rfl | simp [Act.eval, Act.put]) (by first | rfl | simp [Act.eval, Act.put]) ?aP (fun _ hk => hk.elim) ?aF ?aO ?aB ?aS ?aL ?_; (case aP => exact rfl); (case aF => exact fun k hk => ⟨by have := blk_lt (zak HK.out); omega, fun e => by have := Kd.R_lt (Kd.zaw HP.out) k e.symm; omega⟩); (case aO => exact Kd.zaw HQ.out); (case aB => exact zac HB.out); (case aS => exact zav (zac HB.out)); (case aL => have := LM2.out; omega); intro v1 w1 ho hb hg hat; have hne : some g ≠ vb.ownBlock := (fun e => (HQ.out.1 g e.symm).1 rfl); have BK1 := blk_grown (zak HK.out) hg hne; obtain ⟨A1, c1, hv1⟩ := Kd.zbr ho; have HQ1 := Kd.R_grown (Kd.zaw HP.out) hg (fun k hk => hk.2); have HQ2 := Kd.R_after_ HQ1 (Kd.zaw HP.out) hg hat; subst hv1; have hy1 : w1.cell? ⟨g, 1, none⟩ = some vb := (zal BK1 1).trans rfl; have hf1 := zam BK1 1; have HO := zab.mk ho; have HQ3 := zab.mk HQ2; have HB1 := zab.mk hb; have BK2 := zab.mk BK1; clear ho HQ1 HQ2 BK1 hb hg hat)
 all_goals
  have el : (brk ++ [used]).length = brk.length + 1 := by rw [List.length_append]; rfl
  have HR : RD w0 (w1.setCell ⟨g, 1, none⟩ (.slice A1 (brk.length + 1) c1)) g pts (brk ++ [used]) used := by
   refine ⟨vp, .slice A1 (brk.length + 1) c1, zaG BK2.out 1 _ rfl, hge, ?_, ?_⟩
   ·have h := HQ3.out
    rw [el] at h
    exact Kd.za0 h (fun k hk => hk.1) _
   have h := HO.out
   rw [el] at h
   exact Kd.za0 h (fun k hk => hk.1) _
  have HBs : Below w0.heap.size w0 (w1.setCell ⟨g, 1, none⟩ (.slice A1 (brk.length + 1) c1)) := zae HB1.out hge
  go_wp2_with (fail)
  refine (point_calls g 65533 n pts (brk ++ [used]) used w0 _ HR HBs LM.out).mono ?_
  rintro e w2 ⟨rfl, hr, hb⟩
  have HR2 := zab.mk hr; have HB2 := zab.mk hb; clear hr hb
  go_wp2
  go_end0
  exact ⟨rfl, HR2.out, HB2.out⟩
end Go.Proofs.YtfafjbolmeimmaaDoor.P
