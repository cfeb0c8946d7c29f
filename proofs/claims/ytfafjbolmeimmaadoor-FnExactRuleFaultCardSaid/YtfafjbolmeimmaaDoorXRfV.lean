/- impl's readWhen, walked. -/
import Derived.Test.YtfafjbolmeimmaaDoorXRfW
namespace Go.Proofs.YtfafjbolmeimmaaDoor.P
open Go.RowKit Go.Proofs.YtfafjbolmeimmaaDoorW.PrintWords Go.Proofs.YtfafjbolmeimmaaDoorW.PrintLast Go.Proofs.YtfafjbolmeimmaaDoorW.PrintMore
set_option linter.unusedVariables false
set_option linter.unusedSimpArgs false
/-- A block of pieces. -/
def Pcs (w : World) (g : Nat) (L : List (List UInt8)) : Prop := w.heap[g]? = some (.cells (L.map (fun q => Value.string (bs q))).toArray 9 (0, 0))
theorem Pcs.at {w : World} {g : Nat} {L : List (List UInt8)} (h : Pcs w g L) (i : Nat) (hi : i < L.length) : w.cell? ⟨g, i, none⟩ = some (.string (bs L[i])) := by
  rw [blk_cell h i]
  simp [hi]
theorem Pcs.below {w w' : World} {g : Nat} {L : List (List UInt8)} (h : Pcs w g L) (hb : Below w.heap.size w w') : Pcs w' g L := blk_below h hb
theorem infoT : (Tryd.prog.info? 93).map (fun i => (i.zero, i.size, i.bytes)) = some (some (.agg #[.int .u8 0, .int .i64 0, .bool false, .int .i64 0, .int .i64 0]), 5, 40) := by kernel_rfl
theorem infoTs : (Tryd.prog.info? 91).map (fun i => (i.zero, i.size, i.bytes)) = some (some (.slice none 0 0), 1, 24) := by kernel_rfl
theorem test_calls' (l : List UInt8) (w : World) (hG : GT w) (hl : l.length ≤ 1099511627776) :
    Calls Tryd.prog 50 #[.string (bs l)] w fun e w' => ∃ (a b : Int) (c : Bool) (d f : Int), e = .returned (.tuple #[.agg #[.int .u8 a, .int .i64 b, .bool c, .int .i64 d, .int .i64 f], .bool (tI l).isSome]) ∧ (∀ y, tI l = some y → (a, b, c, d, f) = y) ∧ Below w.heap.size w w' :=
  (test_calls l w hG hl).mono fun _ _ ⟨x, h1, h2, h3⟩ => ⟨x.1, x.2.1, x.2.2.1, x.2.2.2.1, x.2.2.2.2, h1, h2, h3⟩
theorem GT_far {w w0 w1 : World} (h : GT w0) (ha : Below w0.heap.size w0 w) (hb : Below w.heap.size w w1) : GT w1 := GT_below (GT_below h ha) hb
theorem take_snoc {α : Type} (L : List α) (i : Nat) (h : i < L.length) : L.take (i + 1) = L.take i ++ [L[i]] := by rw [List.take_add_one, List.getElem?_eq_getElem h]; rfl
set_option maxHeartbeats 4000000 in
set_option maxRecDepth 100000 in
theorem when_calls (l : List UInt8) (w : World) (hG : GT w) (hl : l.length ≤ 1099511627776) :
    Calls Tryd.prog 30 #[.string (bs l)] w fun e w' => WhenOut l w e w' := by
  have HG := Aside0.mk hG
  have HL := Aside0.mk hl
  have hs := bs_size l
  have HS := Aside0.mk hs
  clear hG hl
  by_cases h200 : 200 < l.length
  · have d0 : decide (200 < ((bs l).size : Int)) = true := decide_eq_true (by omega)
    have d1 : decide (200 < (bs l).size) = true := decide_eq_true (by omega)
    have hno : whenI l = none := by unfold whenI; rw [if_pos h200]
    clear hs h200
    go_enter Tryd.func30, Tryd.ntmps30
    go_wp2
    go_ret2
    exact WhenOut.no hno (Below.refl _ _)
  · have d0 : decide (200 < ((bs l).size : Int)) = false := decide_eq_false (by omega)
    have d1 : decide (200 < (bs l).size) = false := decide_eq_false (by omega)
    have HW : Aside0 (whenI l = mapO rowI (sp 124 l)) := ⟨by unfold whenI; rw [if_neg h200]⟩
    have H2 := Aside0.mk (show l.length ≤ 200 by omega)
    clear hs h200
    go_enter Tryd.func30, Tryd.ntmps30
    go_wp2_with (fail)
    refine (split_calls 124 l (by have := H2.out; omega) w HG.out).mono ?_
    rintro e w1 ⟨rfl, rfl⟩
    have BP := Aside0.mk (show Pcs _ w.heap.size (sp 124 l) from blk_new w (.cells ((sp 124 l).map (fun q => Value.string (bs q))).toArray 9 (0, 0)))
    have HBA := Aside0.mk (below_alloc (Below.refl w.heap.size w) (.cells ((sp 124 l).map (fun q => Value.string (bs q))).toArray 9 (0, 0)))
    have hg16 : ∃ g16, w.heap.size = g16 := ⟨_, rfl⟩
    generalize w.alloc (.cells ((sp 124 l).map (fun q => Value.string (bs q))).toArray 9 (0, 0)) = wA at *
    obtain ⟨n, hn⟩ : ∃ n, (sp 124 l).length = n := ⟨_, rfl⟩
    have HN := Aside0.mk hn
    rw [hn]
    clear hn hg16
    go_wp2_with (fail)
    go_loopw [4, 18] (fun v4 v18 wr => ∃ (x : Int) (i : Nat) (rows : List (List TI)), v18 = .int .i64 x ∧ Aside0 (x = (i : Int) ∧ i ≤ n) ∧ Aside0 (mapO rowI ((sp 124 l).take i) = some rows ∧ rows.length = i) ∧ Aside0 (dTs.R 91 wr wA.heap.size (fun _ => True) v4 rows) ∧ Aside0 (Below wA.heap.size wA wr)) (fun v4 v18 wr => (n + 1 - (intOf v18).toNat))
    case atStart => exact ⟨0, 0, [], rfl, ⟨rfl, Nat.zero_le _⟩, ⟨rfl, rfl⟩, ⟨Kd.R_nil _ _ _ _ _⟩, ⟨by first | exact Below.refl _ _ | (repeat (first | (with_reducible first | exact Below.refl _ _ | apply pw_below_drewN | apply below_drew1) | exact Below.refl _ _))⟩⟩
    case round =>
      rename World => wo
      obtain ⟨x, i, rows, rfl, HX, HM, HR, HB⟩ := hrel
      by_cases hi : i < n
      · have d2 : decide (x < (n : Int)) = true := decide_eq_true (by have := HX.out; omega)
        have p1 : (0 ≤ x) = True := eq_true (by have := HX.out; omega)
        have p2 : (x < (n : Int)) = True := eq_true (by have := HX.out; omega)
        have hlt : i < (sp 124 l).length := by have := HN.out; omega
        have hxi : x.toNat = i := by have := HX.out; omega
        have hc : wo.cell? ⟨w.heap.size, x.toNat, none⟩ = some (.string (bs (sp 124 l)[i])) := by rw [hxi]; exact (BP.out.below HB.out).at i hlt
        have hpl := Aside0.mk ((sp_le 124 l).2 _ (List.getElem_mem hlt))
        have HPC := Aside0.mk (take_snoc (sp 124 l) i hlt)
        have HPM := Aside0.mk (List.getElem_mem hlt)
        generalize (sp 124 l)[i] = pc at hc hpl HPC HPM
        clear hxi hlt
        go_upto_region 8 with (fail)
        go_wp2_with (fail)
        refine (split_calls 38 pc (by have := H2.out; have := hpl.out; omega) wo (GT_below HG.out (below_step HBA.out HB.out))).mono ?_
        rintro e w2 ⟨rfl, rfl⟩
        have CP := Aside0.mk (show Pcs _ wo.heap.size (sp 38 pc) from blk_new wo (.cells ((sp 38 pc).map (fun q => Value.string (bs q))).toArray 9 (0, 0)))
        have HCA := Aside0.mk (below_alloc (Below.refl wo.heap.size wo) (.cells ((sp 38 pc).map (fun q => Value.string (bs q))).toArray 9 (0, 0)))
        have HRA := Aside0.mk (Kd.R_below HR.out HCA.out)
        have HBB := Aside0.mk (below_step HB.out HCA.out)
        have HLT := Aside0.mk (show wo.heap.size < (wo.alloc (.cells ((sp 38 pc).map (fun q => Value.string (bs q))).toArray 9 (0, 0))).heap.size from blk_lt CP.out)
        generalize wo.alloc (.cells ((sp 38 pc).map (fun q => Value.string (bs q))).toArray 9 (0, 0)) = wB at *
        obtain ⟨m, hm⟩ : ∃ m, (sp 38 pc).length = m := ⟨_, rfl⟩
        have HMN := Aside0.mk hm
        rw [hm]
        clear hm hc p1 p2 d2
        go_wp2_with (fail)
        go_loopw [7, 25] (fun v7 v25 ws => ∃ (y : Int) (j : Nat) (ts : List TI), v25 = .int .i64 y ∧ Aside0 (y = (j : Int) ∧ j ≤ m) ∧ Aside0 (mapO tI ((sp 38 pc).take j) = some ts ∧ ts.length = j) ∧ Aside0 (dT.R 93 ws wB.heap.size (fun _ => True) v7 ts) ∧ Aside0 (Below wB.heap.size wB ws)) (fun v7 v25 ws => (m + 1 - (intOf v25).toNat))
        case atStart => exact ⟨0, 0, [], rfl, ⟨rfl, Nat.zero_le _⟩, ⟨rfl, rfl⟩, ⟨Kd.R_nil _ _ _ _ _⟩, ⟨Below.refl _ _⟩⟩
        case round =>
          obtain ⟨y, j, ts, rfl, HY, HT, HO, HC⟩ := hrel
          by_cases hj : j < m
          · have d2 : decide (y < (m : Int)) = true := decide_eq_true (by have := HY.out; omega)
            have p1 : (0 ≤ y) = True := eq_true (by have := HY.out; omega)
            have p2 : (y < (m : Int)) = True := eq_true (by have := HY.out; omega)
            have hlt : j < (sp 38 pc).length := by have := HMN.out; omega
            have hxj : y.toNat = j := by have := HY.out; omega
            have hc : wr.cell? ⟨wo.heap.size, y.toNat, none⟩ = some (.string (bs (sp 38 pc)[j])) := by rw [hxj]; exact (CP.out.below HC.out).at j hlt
            have hql := Aside0.mk ((sp_le 38 pc).2 _ (List.getElem_mem hlt))
            have HQC := Aside0.mk (take_snoc (sp 38 pc) j hlt)
            have HQM := Aside0.mk (List.getElem_mem hlt)
            generalize (sp 38 pc)[j] = qc at hc hql HQC HQM
            clear hxj hlt
            have hu := Tryd.underlying93
            go_upto_region 11 with (fail)
            clear hc p1 p2 d2
            go_upto_region 12 with (first
              | ((with_reducible refine (test_calls' qc wr (GT_below HG.out (below_step HBA.out (below_step HBB.out HC.out))) (by have := H2.out; have := hpl.out; have := hql.out; omega)).mono ?_); rintro e w3 ⟨a, b, c, d, f, rfl, hx, hb⟩; have HX3 := Aside0.mk hx; have HO3 := Aside0.mk (Kd.R_below HO.out hb); have HC3 := Aside0.mk (below_step HC.out hb); clear hx hb)
              | ((with_reducible refine gate_dst (N := 10) rfl ?_); refine box_event ?hg (N := 10) ?hd (cs := #[.int .u8 0, .int .i64 0, .bool false, .int .i64 0, .int .i64 0]) (t := 93) ?hr ?_; (case hd => rfl); (case hg => rfl); (case hr => first | (go_simp; done) | (go_simp; rfl)); intro g10 hg w4 hbox hb; have BK := Aside0.mk hbox; have HB34 := Aside0.mk hb; have G10 := Aside0.mk (show w3.heap.size ≤ g10 by omega); have z0 := (blk_cell hbox 0).trans rfl; have z1 := (blk_cell hbox 1).trans rfl; have z2 := (blk_cell hbox 2).trans rfl; have z3 := (blk_cell hbox 3).trans rfl; have z4 := (blk_cell hbox 4).trans rfl; have f0 := blk_frozen hbox 0; have f1 := blk_frozen hbox 1; have f2 := blk_frozen hbox 2; have f3 := blk_frozen hbox 3; have f4 := blk_frozen hbox 4; clear hb hbox hg)
              | fail)
            have BK5 := Aside0.mk (blk_put (blk_put (blk_put (blk_put (blk_put BK.out 0 (.int .u8 a) rfl) 1 (.int .i64 b) rfl) 2 (.bool c) rfl) 3 (.int .i64 d) rfl) 4 (.int .i64 f) rfl)
            have HB35 := Aside0.mk (below_set (j := 4) (v := .int .i64 f) (below_set (j := 3) (v := .int .i64 d) (below_set (j := 2) (v := .bool c) (below_set (j := 1) (v := .int .i64 b) (below_set (j := 0) (v := .int .u8 a) HB34.out G10.out) G10.out) G10.out) G10.out) G10.out)
            generalize ((((w4.setCell ⟨g10, 0, none⟩ (.int .u8 a)).setCell ⟨g10, 1, none⟩ (.int .i64 b)).setCell ⟨g10, 2, none⟩ (.bool c)).setCell ⟨g10, 3, none⟩ (.int .i64 d)).setCell ⟨g10, 4, none⟩ (.int .i64 f) = w5 at *
            have HO5 := Aside0.mk (Kd.R_below HO3.out HB35.out)
            have HC5 := Aside0.mk (below_step HC3.out HB35.out)
            clear z0 z1 z2 z3 z4 f0 f1 f2 f3 f4 BK HB34 G10 HB35 HO3 HC3 HO HC
            cases ht : tI qc with
            | none =>
              have hrow : rowI pc = none := mapO_none HQM.out ht
              have hno : whenI l = none := HW.out.trans (mapO_none HPM.out hrow)
              have HE := Aside0.mk (below_step HBA.out (below_step HBB.out HC5.out))
              go_wp2
              go_ret2
              exact WhenOut.no hno HE.out
            | some q =>
              have hxq := HX3.out q ht
              have HTN : Aside0 (mapO tI ((sp 38 pc).take (j + 1)) = some (ts ++ [q]) ∧ (ts ++ [q]).length = j + 1) := ⟨by rw [HQC.out]; exact mapO_snoc HT.out.1 ht, by rw [List.length_append, HT.out.2]; rfl⟩
              subst hxq
              have z0 : w5.cell? ⟨g10, 0, none⟩ = some (.int .u8 a) := (blk_cell BK5.out 0).trans rfl
              have z1 : w5.cell? ⟨g10, 1, none⟩ = some (.int .i64 b) := (blk_cell BK5.out 1).trans rfl
              have z2 : w5.cell? ⟨g10, 2, none⟩ = some (.bool c) := (blk_cell BK5.out 2).trans rfl
              have z3 : w5.cell? ⟨g10, 3, none⟩ = some (.int .i64 d) := (blk_cell BK5.out 3).trans rfl
              have z4 : w5.cell? ⟨g10, 4, none⟩ = some (.int .i64 f) := (blk_cell BK5.out 4).trans rfl
              have LM : Aside0 (ts.length ≤ 201) := ⟨by have h1 := HT.out.2; have h2 := (sp_le 38 pc).1; have h3 := HMN.out; have := HY.out; have := hpl.out; have := H2.out; omega⟩
              have S3 : Aside0 (wrap64 (y + 1) = ((j + 1 : Nat) : Int)) := ⟨by have := HY.out; have h2 := (sp_le 38 pc).1; have h3 := HMN.out; have := hpl.out; have := H2.out; unfold wrap64; omega⟩
              go_upto_region 15 with (first | ((with_reducible refine gate_builtin (b := .append) (xs := #[.tmp 36, .tmp 38]) rfl ?_); at_builtin; refine Kd.R_append dT (w0 := wB) wB.heap.size rfl (.tmp 36) (.tmp 38) 91 93 (.agg #[.int .u8 0, .int .i64 0, .bool false, .int .i64 0, .int .i64 0]) 40 rfl Tryd.underlying91 infoT rfl (by decide) (by omega) (u7) ts (a, b, c, d, f) [.int .u8 a, .int .i64 b, .bool c, .int .i64 d, .int .i64 f] (fun _ => True) (fun _ => False) rfl rfl ?aP (fun _ hk => hk.elim) ?aF ?aO ?aB ?aS ?aL ?_; (case aP => exact dT_M _ _ _ (a, b, c, d, f)); (case aB => exact HC5.out); (case aF => exact (fun _ _ => trivial)); (case aO => exact HO5.out); (case aS => exact (below_size HC5.out)); (case aL => have := LM.out; omega); intro v_ w_ ho hb hg hat; have HO := Aside0.mk ho; have HC := Aside0.mk hb; clear ho hb hg hat) | fail)
              clear z0 z1 z2 z3 z4
              go_wp2
              go_roundw
              case rel => exact ⟨_, j + 1, ts ++ [(a, b, c, d, f)], rfl, ⟨S3.out, by have := HY.out; omega⟩, HTN, HO, HC⟩
              case measure => simp only [intOf]; rw [S3.out]; have := HY.out; omega
          · have hje : j = m := by have := HY.out; omega
            have d2 : decide (y < (m : Int)) = false := decide_eq_false (by have := HY.out; omega)
            have hrow : Aside0 (rowI pc = some ts) := ⟨by have h := HT.out.1; rw [hje, ← HMN.out, List.take_of_length_le (Nat.le_refl _)] at h; exact h⟩
            clear hje
            have HMX : Aside0 (mapO rowI ((sp 124 l).take (i + 1)) = some (rows ++ [ts]) ∧ (rows ++ [ts]).length = i + 1) := ⟨by rw [HPC.out]; exact mapO_snoc HM.out.1 hrow.out, by rw [List.length_append, HM.out.2]; rfl⟩
            have HRr := Aside0.mk (Kd.R_below HRA.out HC.out)
            have HBr := Aside0.mk (below_step HBB.out HC.out)
            have HOl := Aside0.mk (Kd.R_lower (Kd.R_mono (ok' := fun k => wB.heap.size ≤ k) (Kd.R_bound HO.out) (fun k hk => hk.2.1)) HBB.out.size)
            have HNE : Aside0 (∀ k, wB.heap.size ≤ k → True ∧ some k ≠ (u4 : Value).ownBlock) := ⟨fun k hk => ⟨trivial, fun he => by have := Kd.R_lt HRA.out k he.symm; omega⟩⟩
            obtain ⟨A7, c7, e7, _, _⟩ := Kd.R_reads HO.out
            subst e7
            have LM : Aside0 (rows.length ≤ 201) := ⟨by have h1 := HM.out.2; have h2 := (sp_le 124 l).1; have h3 := HN.out; have := HX.out; have := H2.out; omega⟩
            have S3 : Aside0 (wrap64 (x + 1) = ((i + 1 : Nat) : Int)) := ⟨by have := HX.out; have h2 := (sp_le 124 l).1; have h3 := HN.out; have := H2.out; unfold wrap64; omega⟩
            go_upto_region 17 with (first | ((with_reducible refine gate_builtin (b := .append) (xs := #[.tmp 41, .tmp 43]) rfl ?_); at_builtin; refine Kd.R_append dTs (w0 := wA) wA.heap.size rfl (.tmp 41) (.tmp 43) 60 91 (.slice none 0 0) 24 rfl Tryd.underlying60 infoTs rfl (by decide) (by omega) (u4) rows ts [.slice A7 ts.length c7] (fun _ => True) (fun k => wB.heap.size ≤ k) rfl rfl ?aP HNE.out ?aF ?aO ?aB ?aS ?aL ?_; (case aP => exact ⟨_, rfl, HOl.out⟩); (case aB => exact HBr.out); (case aF => exact (fun _ _ => trivial)); (case aO => exact HRr.out); (case aS => exact (below_size HBr.out)); (case aL => have := LM.out; omega); intro v_ w_ ho hb hg hat; have HRn := Aside0.mk ho; have HBn := Aside0.mk hb; clear ho hb hg hat) | fail)
            go_wp2
            go_roundw
            case rel => exact ⟨_, i + 1, rows ++ [ts], rfl, ⟨S3.out, by have := HX.out; omega⟩, HMX, HRn, HBn⟩
            case measure => simp only [intOf]; rw [S3.out]; have := HX.out; omega
      · have hie : i = n := by have := HX.out; omega
        have d2 : decide (x < (n : Int)) = false := decide_eq_false (by have := HX.out; omega)
        have hye : whenI l = some rows := HW.out.trans (by have h := HM.out.1; rw [hie, ← HN.out, List.take_of_length_le (Nat.le_refl _)] at h; exact h)
        clear hie
        have HRe := Aside0.mk (Kd.R_lower HR.out HBA.out.size)
        have HBe := Aside0.mk (below_step HBA.out HB.out)
        go_wp2
        go_ret2
        exact WhenOut.yes hye HRe.out HBe.out
end Go.Proofs.YtfafjbolmeimmaaDoor.P
