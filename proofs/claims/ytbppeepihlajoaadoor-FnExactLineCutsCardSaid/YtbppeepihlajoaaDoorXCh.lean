/- impl's charCuts comes to what a plain Lean function says. -/
import Derived.Test.YtbppeepihlajoaaDoorL20
import Derived.Test.YtbppeepihlajoaaDoorXCc
import Derived.OneCell
namespace Go.Proofs.YtbppeepihlajoaaDoor.P
open Go.RowKit Go.Proofs.YtbppeepihlajoaaDoorW.PrintWords Go.Proofs.YtbppeepihlajoaaDoorW.PrintLast Go.Proofs.YtbppeepihlajoaaDoorW.PrintMore
set_option linter.unusedVariables false
set_option linter.unusedSimpArgs false
theorem own_lt {w : World} {base e n : Nat} {v : Value} {xs : List Value} (h : w.ownsRow base e 1 v n xs) (k : Nat) (hk : v.ownBlock = some k) : k < w.heap.size := by
 rcases h.2 with ⟨rfl, _⟩ | ⟨g, cap, cur, rfl, _, hb, _⟩
 ·cases hk
 obtain rfl := Option.some.inj hk
 exact blk_lt hb
theorem one_far {w : World} {b g : Nat} {v : Value} {t : TypeId} (h : w.heap[b]? = some (.cells #[v] t (0, 0))) (hne : b ≠ g) (u : Value) : (w.setCell ⟨g, 0, none⟩ u).heap[b]? = some (.cells #[v] t (0, 0)) := (Below.heap_setCell w ⟨g, 0, none⟩ u b hne).trans h
def prevOf (l : List Int) : Nat → Option Int
 | 0 => none
 | j + 1 => l[j]?
def ccL (k : Nat) : List Int → Option Int → Bool → Bool → Int → Option (List Bool)
 | [], _, _, _, _ => some []
 | p :: r, prev, pic, bind, flags =>
  (zaM.f k p).bind fun c =>
  (match prev with | none => some false | some q => (zaM.f k q).bind fun d => some (ccB q p c d bind pic flags)).bind fun b =>
  (ccL k r (some p) (if c = 2 then pic else (c == 8)) ((p == 1584) || ((p == 1585) && bind)) (if c = 9 then wrap64 (flags + 1) else 0)).bind fun t => some (b :: t)
def impl_charCuts.f (k : Nat) (l0 : List Int) : Option (List Bool) := if l0.length ≤ 1000000000000 then ccL k l0 none false false 0 else none
set_option maxHeartbeats 4000000 in
set_option maxRecDepth 100000 in
theorem impl_charCuts.calls (k : Nat) (A0 : Option Addr) (c0 : Nat) (l0 : List Int) (r : List Bool) (w : World) (hr0 : Kd.C (Kd.int .i64) w A0 l0.length l0) (hc0 : l0.length ≤ c0) (h : impl_charCuts.f k l0 = some r) :
  Calls Tryd.prog 122 #[.slice A0 l0.length c0] w fun e w' => ∃ v0_ : Value, e = .returned (v0_) ∧ Kd.R Kd.bool 4 w' w.heap.size (fun _ => True) v0_ r ∧ Below w.heap.size w w' := by
 have HR0 := zab.mk hr0; have HC0 := zab.mk hc0; clear hr0 hc0
 have HB := zab.mk (Below.refl w.heap.size w)
 unfold impl_charCuts.f at h
 by_cases hlen : l0.length ≤ 1000000000000
 case neg => rw [if_neg hlen] at h; cases h
 rw [if_pos hlen] at h
 have HL := zab.mk hlen; have H := zab.mk h; clear h hlen
 have c2b1 : decide (0 ≤ (l0.length : Int)) = true := decide_eq_true (by omega)
 have c3b1 : decide (((l0.length : Int) : Int).toNat ≤ 35184372088832) = true := decide_eq_true (by have := HL.out; omega)
 go_enter Tryd.func122, Tryd.ntmps122
 go_wp2_with (first | ((with_reducible refine zbC (N := 14) rfl ?_); refine Kd.R_make Kd.bool _ 4 rfl (N := 14) rfl 79 _ _ rfl (l0.length : Int) rfl rfl Tryd.underlying79 (.bool false) 1 info4 rfl (by decide) (by omega) false (ok := fun _ => True) (okp := fun _ => True) rfl (fun _ hk => hk) trivial (of_decide_eq_true (by first | (with_reducible assumption) | assumption)) (Nat.le_trans (Nat.mul_le_mul_right _ (of_decide_eq_true (by first | (with_reducible assumption) | assumption) : (l0.length : Int).toNat ≤ 35184372088832)) (by omega)) (Below.refl _ _) (Nat.le_refl _) ?_; intro v3 w4 ho5 hb hg_ hnew_; clear hg_ hnew_; have n0_ := zab.mk ho5; have n1_ := zab.mk (zaw (by repeat (first | (with_reducible first | exact HB.out | apply zac | apply zaa | apply zad) | exact HB.out)) hb); clear HB; have HO := n0_; have HB := n1_; clear n0_ n1_ hb ho5))
 have hown := Kd.own_of_R HO.out
 have hlt0 := own_lt hown
 obtain ⟨G, hG⟩ : ∃ G, w4.heap.size = G := ⟨_, rfl⟩
 rw [hG] at hlt0
 have n0_ := zab.mk (Kd.R_of_own (h1 := fun _ => rfl) (ok := fun k => k < G) hown (fun k hk => hlt0 k hk))
 have n1_ := zab.mk (zaC HB.out)
 clear HO hown hlt0
 have HO := n0_
 have HGE := n1_
 clear n0_ n1_
 have BI := zab.mk (show (((w4.alloc (.cells #[.bool false] 4)).alloc (.cells #[.bool false] 4)).alloc (.cells #[.int .i64 0] 3)).heap[G]? = some (.cells #[.bool false] 4 (0, 0)) from by rw [← hG]; refine zai (zai ?_ _) _; simpa using heap_alloc_new w4 (.cells #[.bool false] 4))
 have BB := zab.mk (show (((w4.alloc (.cells #[.bool false] 4)).alloc (.cells #[.bool false] 4)).alloc (.cells #[.int .i64 0] 3)).heap[G + 1]? = some (.cells #[.bool false] 4 (0, 0)) from by rw [← hG]; refine zai ?_ _; have h := heap_alloc_new (w4.alloc (.cells #[.bool false] 4)) (.cells #[.bool false] 4); simpa using h)
 have BF := zab.mk (show (((w4.alloc (.cells #[.bool false] 4)).alloc (.cells #[.bool false] 4)).alloc (.cells #[.int .i64 0] 3)).heap[G + 1 + 1]? = some (.cells #[.int .i64 0] 3 (0, 0)) from by rw [← hG]; have h := heap_alloc_new ((w4.alloc (.cells #[.bool false] 4)).alloc (.cells #[.bool false] 4)) (.cells #[.int .i64 0] 3); simpa using h)
 have n0_ := zab.mk (show Kd.R Kd.bool 4 (((w4.alloc (.cells #[.bool false] 4)).alloc (.cells #[.bool false] 4)).alloc (.cells #[.int .i64 0] 3)) w.heap.size (fun k => k < G) v3 (List.replicate ((l0.length : Int) : Int).toNat false) from by (with_reducible repeat (first | apply Kd.zao | apply Kd.zan | apply Kd.zav)); exact HO.out)
 have n1_ := zab.mk (show Below w.heap.size w (((w4.alloc (.cells #[.bool false] 4)).alloc (.cells #[.bool false] 4)).alloc (.cells #[.int .i64 0] 3)) from by repeat (first | (with_reducible first | exact HB.out | apply zac | apply zaa | apply zad) | exact HB.out))
 have HSZ := zab.mk (show (((w4.alloc (.cells #[.bool false] 4)).alloc (.cells #[.bool false] 4)).alloc (.cells #[.int .i64 0] 3)).heap.size = G + 3 from by rw [← hG]; simp)
 have HWG := zab.mk (show w.heap.size ≤ G from by rw [← hG]; exact HGE.out)
 clear HO HB
 rw [hG]
 have HO := n0_
 have HB := n1_
 clear n0_ n1_
 generalize ((w4.alloc (.cells #[.bool false] 4)).alloc (.cells #[.bool false] 4)).alloc (.cells #[.int .i64 0] 3) = W5 at *
 go_loopw [17] (fun v17 w' => ∃ (i : Nat) (pre t : List Bool) (pic bind : Bool) (flags : Int), v17 = .int .i64 i ∧ i ≤ l0.length ∧ zab (pre.length = i) ∧ zab (r = pre ++ t) ∧ zab (ccL k (l0.drop i) (prevOf l0 i) pic bind flags = some t) ∧ zab (Kd.R Kd.bool 4 w' w.heap.size (fun k => k < G) v3 (pre ++ List.replicate (l0.length - i) false)) ∧ zab (Below w.heap.size w w') ∧ zab (w'.heap[G]? = some (.cells #[.bool pic] 4 (0, 0))) ∧ zab (w'.heap[G + 1]? = some (.cells #[.bool bind] 4 (0, 0))) ∧ zab (w'.heap[G + 1 + 1]? = some (.cells #[.int .i64 flags] 3 (0, 0)))) (fun v _ => l0.length - (intOf v).toNat)
 case atStart => exact ⟨0, [], r, false, false, 0, rfl, by omega, ⟨rfl⟩, ⟨rfl⟩, ⟨by rw [List.drop_zero]; exact H.out⟩, ⟨by have h := HO.out; simpa using h⟩, HB, BI, BB, BF⟩
 case round =>
  clear HO HB BI BB BF HSZ H
  obtain ⟨i, pre, t, pic, bind, flags, rfl, hi, HPL, HRT, HE, HO, HB, BI, BB, BF⟩ := hrel
  obtain ⟨W6, hW6⟩ : ∃ W, W = wr := ⟨_, rfl⟩
  subst hW6
  by_cases hlt : i < l0.length
  ·obtain ⟨ad, rfl, hx⟩ := Kd.zbF HR0.out i (by omega) (by omega)
   have hL := HL.out
   replace hx := (HB.out.cell (World.block_lt_of_cell? w _ hx)).trans hx
   have es : rd l0 (i : Int) = l0[i] := by simp [rd, hlt]
   rw [es, Int.toNat_natCast] at hx
   have hE := HE.out
   rw [List.drop_eq_getElem_cons hlt] at hE
   unfold ccL at hE
   have HPV := zab.mk (show prevOf l0 (i + 1) = some l0[i] by simp [prevOf, hlt])
   generalize l0[i] = p at *
   obtain ⟨c, hc, hE2⟩ := Option.bind_eq_some_iff.mp hE
   obtain ⟨bb, hbb, hE3⟩ := Option.bind_eq_some_iff.mp hE2
   obtain ⟨t2, ht2, hE4⟩ := Option.bind_eq_some_iff.mp hE3
   have ht := Option.some.inj hE4
   subst ht; have HC := zab.mk hc; have HBB := zab.mk hbb; have HT2 := zab.mk ht2; clear hE hE2 hE3 hE4 hc hbb ht2 HE es
   go_wp2_with (fail)
   refine (zaM.calls k p c _ HC.out).mono ?_
   rintro e w7 ⟨rfl, ⟨m7, rfl⟩⟩
   go_upto_if 25 with (fail)
   obtain ⟨Y, hY⟩ : ∃ Y, W6.heap.size = Y := ⟨_, rfl⟩
   have BP := zab.mk (show (((W6.alloc (.cells #[.int .i64 p] 2)).drewN m7).alloc (.cells #[.int .i64 c] 3)).heap[Y]? = some (.cells #[.int .i64 p] 2 (0, 0)) from by rw [← hY]; refine zai (zar ?_ _) _; simpa using heap_alloc_new W6 (.cells #[.int .i64 p] 2))
   have BC := zab.mk (show (((W6.alloc (.cells #[.int .i64 p] 2)).drewN m7).alloc (.cells #[.int .i64 c] 3)).heap[Y + 1]? = some (.cells #[.int .i64 c] 3 (0, 0)) from by rw [← hY]; have h := heap_alloc_new ((W6.alloc (.cells #[.int .i64 p] 2)).drewN m7) (.cells #[.int .i64 c] 3); simpa using h)
   have HX := zab.mk (show ∀ a : Addr, a.block < W6.heap.size → (((W6.alloc (.cells #[.int .i64 p] 2)).drewN m7).alloc (.cells #[.int .i64 c] 3)).cell? a = W6.cell? a from fun a ha => (show Below W6.heap.size W6 (((W6.alloc (.cells #[.int .i64 p] 2)).drewN m7).alloc (.cells #[.int .i64 c] 3)) from zac (zaa (zac (Below.refl _ _) _) _) _).cell ha)
   have HXS := zab.mk (show (((W6.alloc (.cells #[.int .i64 p] 2)).drewN m7).alloc (.cells #[.int .i64 c] 3)).heap.size = Y + 2 from by rw [← hY]; simp)
   have HGY := zab.mk (show G + 3 ≤ Y from by have := blk_lt BF.out; omega)
   have n0_ := zab.mk (show Kd.R Kd.bool 4 (((W6.alloc (.cells #[.int .i64 p] 2)).drewN m7).alloc (.cells #[.int .i64 c] 3)) w.heap.size (fun k => k < G) v3 (pre ++ List.replicate (l0.length - i) false) from by (with_reducible repeat (first | apply Kd.zao | apply Kd.zan | apply Kd.zav)); exact HO.out)
   have n1_ := zab.mk (show Below w.heap.size w (((W6.alloc (.cells #[.int .i64 p] 2)).drewN m7).alloc (.cells #[.int .i64 c] 3)) from by repeat (first | (with_reducible first | exact HB.out | apply zac | apply zaa | apply zad) | exact HB.out))
   have n2_ := zab.mk (show (((W6.alloc (.cells #[.int .i64 p] 2)).drewN m7).alloc (.cells #[.int .i64 c] 3)).heap[G]? = some (.cells #[.bool pic] 4 (0, 0)) from by (with_reducible repeat (first | refine zar ?_ _ | refine zat ?_ | refine zai ?_ _)); exact BI.out)
   have n3_ := zab.mk (show (((W6.alloc (.cells #[.int .i64 p] 2)).drewN m7).alloc (.cells #[.int .i64 c] 3)).heap[G + 1]? = some (.cells #[.bool bind] 4 (0, 0)) from by (with_reducible repeat (first | refine zar ?_ _ | refine zat ?_ | refine zai ?_ _)); exact BB.out)
   have n4_ := zab.mk (show (((W6.alloc (.cells #[.int .i64 p] 2)).drewN m7).alloc (.cells #[.int .i64 c] 3)).heap[G + 1 + 1]? = some (.cells #[.int .i64 flags] 3 (0, 0)) from by (with_reducible repeat (first | refine zar ?_ _ | refine zat ?_ | refine zai ?_ _)); exact BF.out)
   clear HO HB BI BB BF hx
   rw [hY]
   have HO := n0_
   have HB := n1_
   have BI := n2_
   have BB := n3_
   have BF := n4_
   clear n0_ n1_ n2_ n3_ n4_
   generalize ((W6.alloc (.cells #[.int .i64 p] 2)).drewN m7).alloc (.cells #[.int .i64 c] 3) = X at *
   have ho0 := Kd.own_of_R HO.out
   rcases ho0.2 with ⟨hv, hn⟩ | ⟨g, cap, cur, hv, hg, hb, hn, hcp, hsz, htk⟩
   ·have h1 := HPL.out
    rw [List.length_append, List.length_replicate] at hn
    omega
   have HG3 := zab.mk (show g < G from HO.out.1 g (by rw [hv]; rfl))
   have hnl : (pre ++ List.replicate (l0.length - i) false).length = l0.length := by have := HPL.out; rw [List.length_append, List.length_replicate]; omega
   rw [hnl] at hv hn
   subst hv; have HGB := zab.mk hb; have HCN := zab.mk hn; have HCS := zab.mk hsz; have HNL := zab.mk hnl; have HGG := zab.mk hg; clear ho0 hg hb hn hcp hsz htk hnl
   go_cut [37] (fun v37 wc => zab (Kd.R Kd.bool 4 wc w.heap.size (fun k => k < G) (.slice (some ⟨g, 0, none⟩) l0.length cap) ((pre ++ [bb]) ++ List.replicate (l0.length - (i + 1)) false)) ∧ zab (Below w.heap.size w wc) ∧ zab (wc.heap[G]? = some (.cells #[.bool pic] 4 (0, 0))) ∧ zab (wc.heap[G + 1]? = some (.cells #[.bool bind] 4 (0, 0))) ∧ zab (wc.heap[G + 1 + 1]? = some (.cells #[.int .i64 flags] 3 (0, 0))) ∧ zab (wc.heap[Y]? = some (.cells #[.int .i64 p] 2 (0, 0))) ∧ zab (wc.heap[Y + 1]? = some (.cells #[.int .i64 c] 3 (0, 0))))
   case first =>
    by_cases h0 : 0 < i
    ·have c25 : decide (0 < i) = true := decide_eq_true h0
     rw [c25]
     clear c25
     have p1 : (0 : Int) ≤ (i : Int) - 1 := by omega
     have p2 : (1 : Int) ≤ (i : Int) := by omega
     have q1 : (i : Int) - 1 < (l0.length : Int) := by omega
     obtain ⟨ad2, hAd, hx1⟩ := Kd.zbF HR0.out ((i : Int) - 1) p1 q1
     cases hAd
     rw [show ((i : Int) - 1).toNat = i - 1 by omega] at hx1
     replace hx1 := (HB.out.cell (World.block_lt_of_cell? w _ hx1)).trans hx1
     have eq1 : prevOf l0 i = some (rd l0 ((i : Int) - 1)) := by
      obtain ⟨j, rfl⟩ : ∃ j, i = j + 1 := ⟨i - 1, by omega⟩
      have e : (((j + 1 : Nat) : Int) - 1) = (j : Int) := by omega
      rw [e]
      simp only [prevOf, rd, Int.toNat_natCast]
      rw [List.getD_eq_getElem?_getD, List.getElem?_eq_getElem (by omega)]
      rfl
     have hbb := HBB.out
     rw [eq1] at hbb
     generalize rd l0 ((i : Int) - 1) = q at *
     obtain ⟨d, hd, hb2⟩ := Option.bind_eq_some_iff.mp hbb
     obtain rfl := Option.some.inj hb2
     have HD := zab.mk hd; clear hbb hd hb2 HBB eq1
     go_wp2_with (fail)
     refine (zaM.calls k q d _ HD.out).mono ?_
     rintro e w8 ⟨rfl, ⟨m8, rfl⟩⟩
     clear hx1 p1 q1
     have hmf : ∀ (fn : Fn) (fs cp : Array Value) (w : World), (Instr.makeFunc fn fs cp).run Tryd.prog w = .ok (.func fn fs cp) w := fun _ _ _ _ => rfl
     go_wp2_with (fail)
     have YB := zab.mk (show (((X.alloc (.cells #[.int .i64 q] 2)).drewN m8).alloc (.cells #[.int .i64 d] 3)).heap[X.heap.size]? = some (.cells #[.int .i64 q] 2 (0, 0)) from by refine zai (zar ?_ _) _; simpa using heap_alloc_new X (.cells #[.int .i64 q] 2))
     have YD := zab.mk (show (((X.alloc (.cells #[.int .i64 q] 2)).drewN m8).alloc (.cells #[.int .i64 d] 3)).heap[X.heap.size + 1]? = some (.cells #[.int .i64 d] 3 (0, 0)) from by have h := heap_alloc_new ((X.alloc (.cells #[.int .i64 q] 2)).drewN m8) (.cells #[.int .i64 d] 3); simpa using h)
     refine (cc_calls X.heap.size Y (Y + 1) (X.heap.size + 1) (G + 1) G (G + 1 + 1) q p c d bind pic flags _ (cell_of_one YB.out) (cell_of_one (zai (zar (zai BP.out _) _) _)) (cell_of_one (zai (zar (zai BC.out _) _) _)) (cell_of_one YD.out) (cell_of_one (zai (zar (zai BB.out _) _) _)) (cell_of_one (zai (zar (zai BI.out _) _) _)) (cell_of_one (zai (zar (zai BF.out _) _) _))).mono ?_
     rintro e w9 ⟨rfl, ⟨m9, rfl⟩⟩
     have n0_ := zab.mk (show Kd.R Kd.bool 4 ((((X.alloc (.cells #[.int .i64 q] 2)).drewN m8).alloc (.cells #[.int .i64 d] 3)).drewN m9) w.heap.size (fun k => k < G) (.slice (some ⟨g, 0, none⟩) l0.length cap) (pre ++ List.replicate (l0.length - i) false) from by (with_reducible repeat (first | apply Kd.zao | apply Kd.zan | apply Kd.zav)); exact HO.out)
     have n1_ := zab.mk (show Below w.heap.size w ((((X.alloc (.cells #[.int .i64 q] 2)).drewN m8).alloc (.cells #[.int .i64 d] 3)).drewN m9) from by repeat (first | (with_reducible first | exact HB.out | apply zac | apply zaa | apply zad) | exact HB.out))
     have n2_ := zab.mk (show ((((X.alloc (.cells #[.int .i64 q] 2)).drewN m8).alloc (.cells #[.int .i64 d] 3)).drewN m9).heap[G]? = some (.cells #[.bool pic] 4 (0, 0)) from zar (zai (zar (zai BI.out _) _) _) _)
     have n3_ := zab.mk (show ((((X.alloc (.cells #[.int .i64 q] 2)).drewN m8).alloc (.cells #[.int .i64 d] 3)).drewN m9).heap[G + 1]? = some (.cells #[.bool bind] 4 (0, 0)) from zar (zai (zar (zai BB.out _) _) _) _)
     have n4_ := zab.mk (show ((((X.alloc (.cells #[.int .i64 q] 2)).drewN m8).alloc (.cells #[.int .i64 d] 3)).drewN m9).heap[G + 1 + 1]? = some (.cells #[.int .i64 flags] 3 (0, 0)) from zar (zai (zar (zai BF.out _) _) _) _)
     have n5_ := zab.mk (show ((((X.alloc (.cells #[.int .i64 q] 2)).drewN m8).alloc (.cells #[.int .i64 d] 3)).drewN m9).heap[Y]? = some (.cells #[.int .i64 p] 2 (0, 0)) from zar (zai (zar (zai BP.out _) _) _) _)
     have n6_ := zab.mk (show ((((X.alloc (.cells #[.int .i64 q] 2)).drewN m8).alloc (.cells #[.int .i64 d] 3)).drewN m9).heap[Y + 1]? = some (.cells #[.int .i64 c] 3 (0, 0)) from zar (zai (zar (zai BC.out _) _) _) _)
     have n7_ := zab.mk (show ((((X.alloc (.cells #[.int .i64 q] 2)).drewN m8).alloc (.cells #[.int .i64 d] 3)).drewN m9).heap[g]? = some (.cells cur 4 (0, 0)) from zar (zai (zar (zai HGB.out _) _) _) _)
     clear HO HB BI BB BF BP BC HX HXS YB YD
     generalize (((X.alloc (.cells #[.int .i64 q] 2)).drewN m8).alloc (.cells #[.int .i64 d] 3)).drewN m9 = Z at *
     have hcs := HCS.out
     have hcn := HCN.out
     have hic : i < cur.size := by omega
     have hcell : Z.cell? ⟨g, i, none⟩ = some cur[i] := by rw [zak n7_.out i, Array.getElem?_eq_getElem hic]
     have hfz : Z.frozen? ⟨g, i, none⟩ = false := zaf n7_.out i
     have HSET := zab.mk (show ∀ x, (pre ++ List.replicate (l0.length - i) false).set i x = (pre ++ [x]) ++ List.replicate (l0.length - (i + 1)) false from fun x => by
      obtain ⟨m, hm⟩ : ∃ m, l0.length - i = m + 1 := ⟨l0.length - i - 1, by omega⟩
      have hm2 : l0.length - (i + 1) = m := by omega
      rw [hm, hm2, List.set_append_right _ _ (by rw [HPL.out]; exact Nat.le_refl _), HPL.out, Nat.sub_self, List.replicate_succ, List.set_cons_zero, List.append_assoc]
      rfl)
     have HNE := zab.mk (show ∀ (b : Nat) (o : Obj) (u : Value), G ≤ b → Z.heap[b]? = some o → (Z.setCell ⟨g, i, none⟩ u).heap[b]? = some o from fun b o u hb ho => (Below.heap_setCell Z ⟨g, i, none⟩ u b (by have := HG3.out; show b ≠ g; omega)).trans ho)
     clear hcs hcn
     go_wp2
     go_meet
     case rel =>
      have hgy := HGY.out
      refine ⟨⟨?_⟩, ⟨zas n1_.out HGG.out⟩, ⟨HNE.out G _ _ (Nat.le_refl _) n2_.out⟩, ⟨HNE.out (G + 1) _ _ (by omega) n3_.out⟩, ⟨HNE.out (G + 1 + 1) _ _ (by omega) n4_.out⟩, ⟨HNE.out Y _ _ (by omega) n5_.out⟩, ⟨HNE.out (Y + 1) _ _ (by omega) n6_.out⟩⟩
      rw [← HSET.out]
      exact Kd.R_putn n0_.out (i : Int) _
    obtain rfl : i = 0 := by omega
    have c25 : decide (0 < 0) = false := rfl
    rw [c25]
    clear c25
    have hb0 : bb = false := by have h := HBB.out; simpa [prevOf] using h.symm
    subst hb0
    have hp0 : pre = [] := List.eq_nil_of_length_eq_zero HPL.out
    subst hp0
    have he : ([] : List Bool) ++ List.replicate (l0.length - 0) false = ([] ++ [false]) ++ List.replicate (l0.length - (0 + 1)) false := by
     obtain ⟨n, hn⟩ : ∃ n, l0.length = n + 1 := ⟨l0.length - 1, by omega⟩
     rw [hn]
     simp [List.replicate_succ]
    have HE1 := zab.mk he; clear he
    go_wp2
    go_meet
    case rel => rw [← HE1.out]; exact ⟨⟨by (with_reducible repeat (first | apply Kd.zao | apply Kd.zan | apply Kd.zav)); exact HO.out⟩, ⟨by repeat (first | (with_reducible first | exact HB.out | apply zac | apply zaa | apply zad) | exact HB.out)⟩, BI, BB, BF, BP, BC⟩
   case rest =>
    clear HO HB BI BB BF BP BC HX HXS
    obtain ⟨HO, HB, BI, BB, BF, BP, BC⟩ := hcut
    have hgy := HGY.out
    have n1 : ¬ G = Y := by omega
    have n2 : ¬ Y = G := by omega
    have n3 : ¬ G = Y + 1 := by omega
    have n4 : ¬ Y + 1 = G := by omega
    have n5 : ¬ G + 1 = Y := by omega
    have n6 : ¬ Y = G + 1 := by omega
    have n7 : ¬ G + 1 + 1 = Y := by omega
    have n8 : ¬ Y = G + 1 + 1 := by omega
    have n9 : ¬ G + 1 + 1 = Y + 1 := by omega
    have n10 : ¬ Y + 1 = G + 1 + 1 := by omega
    have n11 : ¬ G + 1 + 1 = G := by omega
    have n12 : ¬ G = G + 1 + 1 := by omega
    have hci := cell_of_one BI.out
    have hcb := cell_of_one BB.out
    have hcf := cell_of_one BF.out
    have hcp := cell_of_one BP.out
    have hcc := cell_of_one BC.out
    have hfi := free_of_one BI.out
    have hfb := free_of_one BB.out
    have hff := free_of_one BF.out
    have g1 : G ≠ G + 1 := by omega
    have g2 : G ≠ G + 1 + 1 := by omega
    have g3 : G + 1 ≠ G := by omega
    have g4 : G + 1 ≠ G + 1 + 1 := by omega
    have g5 : G + 1 + 1 ≠ G := by omega
    have g6 : G + 1 + 1 ≠ G + 1 := by omega
    have b0 := HWG.out
    have b1 : w.heap.size ≤ G + 1 := by omega
    have b2 : w.heap.size ≤ G + 1 + 1 := by omega
    have o0 : ∀ k, k < G → k ≠ (⟨G, 0, none⟩ : Addr).block := fun k hk => Nat.ne_of_lt hk
    have o1 : ∀ k, k < G → k ≠ (⟨G + 1, 0, none⟩ : Addr).block := fun k hk => Nat.ne_of_lt (Nat.lt_succ_of_lt hk)
    have o2 : ∀ k, k < G → k ≠ (⟨G + 1 + 1, 0, none⟩ : Addr).block := fun k hk => Nat.ne_of_lt (Nat.lt_succ_of_lt (Nat.lt_succ_of_lt hk))
    have GS := zab.mk (And.intro g1 (And.intro g2 (And.intro g3 (And.intro g4 (And.intro g5 g6)))))
    have BS := zab.mk (And.intro b0 (And.intro b1 b2))
    have OS := zab.mk (And.intro o0 (And.intro o1 o2))
    clear g1 g2 g3 g4 g5 g6 b0 b1 b2 o0 o1 o2
    have hcs : c = 2 ∨ c = 9 ∨ ((c != 2) = true ∧ (c == 9) = false ∧ ¬ c = 2 ∧ ¬ c = 9) := by
     by_cases h2 : c = 2
     ·exact .inl h2
     by_cases h9 : c = 9
     ·exact .inr (.inl h9)
     exact .inr (.inr ⟨bne_iff_ne.2 h2, beq_eq_false_iff_ne.2 h9, h2, h9⟩)
    have hps : p = 1584 ∨ p = 1585 ∨ ((p == 1584) = false ∧ (p == 1585) = false ∧ ¬ p = 1584 ∧ ¬ p = 1585) := by
     by_cases h2 : p = 1584
     ·exact .inl h2
     by_cases h9 : p = 1585
     ·exact .inr (.inl h9)
     exact .inr (.inr ⟨beq_eq_false_iff_ne.2 h2, beq_eq_false_iff_ne.2 h9, h2, h9⟩)
    rcases hcs with rfl | rfl | ⟨k1, k2, k3, k4⟩
    all_goals
     rcases hps with rfl | rfl | ⟨m1, m2, m3, m4⟩
     all_goals
      go_wp2
      go_roundw
      case rel =>
       obtain ⟨g1, g2, g3, g4, g5, g6⟩ := GS.out
       obtain ⟨b0, b1, b2⟩ := BS.out
       obtain ⟨o0, o1, o2⟩ := OS.out
       refine ⟨i + 1, pre ++ [bb], t2, _, _, _, by go_num, by omega, ⟨by rw [List.length_append, HPL.out]; rfl⟩, ⟨by rw [HRT.out, List.append_assoc]; rfl⟩, ⟨by rw [HPV.out]; exact HT2.out⟩, ?h5, ?h6, ?h2, ?h3, ?h4⟩
       case h2 => exact ⟨by first | (with_reducible refine (one_far (g := G + 1 + 1) (one_far (g := G + 1) (one_setCell BI.out) g1 _) g2 _).trans ?_; first | rfl | (simp; done) | (simp [*]; done)) | (with_reducible refine (one_far (g := G + 1 + 1) (one_far (g := G + 1) BI.out g1 _) g2 _).trans ?_; first | rfl | (simp; done) | (simp [*]; done))⟩
       case h3 => exact ⟨by first | (with_reducible refine (one_far (g := G + 1 + 1) (one_setCell (one_far (g := G) BB.out g3 _)) g4 _).trans ?_; first | rfl | (simp; done) | (simp [*]; done)) | (with_reducible refine (one_far (g := G + 1 + 1) (one_setCell BB.out) g4 _).trans ?_; first | rfl | (simp; done) | (simp [*]; done))⟩
       case h4 => exact ⟨by first | (with_reducible refine (one_setCell (one_far (g := G + 1) (one_far (g := G) BF.out g5 _) g6 _)).trans ?_; first | rfl | (simp; done) | (simp [*]; done)) | (with_reducible refine (one_setCell (one_far (g := G + 1) BF.out g6 _)).trans ?_; first | rfl | (simp; done) | (simp [*]; done))⟩
       case h5 => exact ⟨by first | (with_reducible exact Kd.za4 (p := ⟨G + 1 + 1, 0, none⟩) (Kd.za4 (p := ⟨G + 1, 0, none⟩) (Kd.za4 (p := ⟨G, 0, none⟩) HO.out o0 _) o1 _) o2 _) | (with_reducible exact Kd.za4 (p := ⟨G + 1 + 1, 0, none⟩) (Kd.za4 (p := ⟨G + 1, 0, none⟩) HO.out o1 _) o2 _)⟩
       case h6 => exact ⟨by first | (with_reducible exact zas (g := G + 1 + 1) (zas (g := G + 1) (zas (g := G) HB.out b0) b1) b2) | (with_reducible exact zas (g := G + 1 + 1) (zas (g := G + 1) HB.out b1) b2)⟩
      case measure => simp [intOf]; omega
  obtain rfl : i = l0.length := by omega
  have hE := HE.out
  rw [List.drop_eq_nil_of_le (by omega)] at hE
  unfold ccL at hE
  have ht := Option.some.inj hE
  subst ht
  have hO := HO.out
  rw [Nat.sub_self, List.replicate_zero, List.append_nil] at hO
  have hrt := HRT.out
  rw [List.append_nil] at hrt
  rw [← hrt] at hO
  have HO2 := zab.mk hO
  have hL := HL.out
  have q1 : decide (l0.length < l0.length) = false := decide_eq_false (by omega)
  have q2 : decide ((l0.length : Int) < (l0.length : Int)) = false := decide_eq_false (by omega)
  clear hE HE hO hrt hlt hi HO
  go_wp2
  go_ret
  exact ⟨_, rfl, Kd.za2 HO2.out (fun _ _ => trivial), by repeat (first | (with_reducible first | exact HB.out | apply zac | apply zaa | apply zad) | exact HB.out)⟩
end Go.Proofs.YtbppeepihlajoaaDoor.P
