/- Written by a program of this session: plain Lean functions for Go functions, and for each the proof that the call comes to what the function says. -/
import Derived.Test.YtfafjbolmeimmaaDoorF0
import Derived.Test.YtfafjbolmeimmaaDoorXL
namespace Go.Proofs.YtfafjbolmeimmaaDoor.P
open Go.RowKit Go.Proofs.YtfafjbolmeimmaaDoorW.PrintWords Go.Proofs.YtfafjbolmeimmaaDoorW.PrintLast Go.Proofs.YtfafjbolmeimmaaDoorW.PrintMore
attribute [local go_sem] max2_int min2_int max_two min_two max_three min_three max_four min_four
set_option linter.unusedVariables false
set_option linter.unusedSimpArgs false
def zbE.l0 : Nat → ByteArray → List (S78) → Int → Option ((List (S78)))
 | 0, _, _, _ => none
 | k + 1, x0, x3, x4 => if x4 < (x0.size : Int) then (if 0 ≤ x4 then (if x4 ≤ (x0.size : Int) then ((utf8_DecodeRuneInString.f (x0.extract (x4 : Int).toNat x0.size)).bind fun bt538 => (if bt538.1 = 65533 then (if x3.length < 4398046511104 then (zbE.l0 k x0 (x3 ++ [(⟨wrap64 (bt538.1), x4, wrap64 (x4 + bt538.2), (bt538.2 == 1)⟩ : S78)]) (wrap64 (x4 + bt538.2))) else (none)) else (if x3.length < 4398046511104 then (zbE.l0 k x0 (x3 ++ [(⟨wrap64 (bt538.1), x4, wrap64 (x4 + bt538.2), false⟩ : S78)]) (wrap64 (x4 + bt538.2))) else (none)))) else (none)) else (none)) else (some x3)
def zbE.f (k : Nat) (a0 : ByteArray) : Option ((List (S78))) := zbE.l0 k a0 ([] : List (S78)) 0
set_option maxHeartbeats 8000000 in
set_option maxRecDepth 100000 in
theorem zbE.calls (k : Nat) (a0 : ByteArray) (r : List (S78)) (w : World) (hG : GT w) (h : zbE.f k a0 = some r) :
  Calls Tryd.prog 44 #[.string a0] w fun e w' => ∃ v0_ : Value, e = .returned (v0_) ∧ Kd.R k78 78 w' w.heap.size (fun _ => True) v0_ r ∧ Below w.heap.size w w' := by
 have hu78 := Tryd.underlying78
 have HG := zab.mk hG; clear hG
 have HB := zab.mk (Below.refl w.heap.size w)
 have H : (zbE.l0 k a0 ([] : List (S78)) 0) = some r := h
 clear h; have H' := zab.mk H; clear H
 go_enter Tryd.func44, Tryd.ntmps44
 go_wp2
 go_loopg [3, 4] k (fun kq v3 v4 w' => ∃ (x3_1 : List (S78)) (x4_1 : Int), v4 = .int .i64 x4_1 ∧ zab (zbE.l0 kq a0 x3_1 x4_1 = some r) ∧ zab (kq ≤ k) ∧ zab (Kd.R k78 78 w' w.heap.size (fun _ => True) v3 x3_1) ∧ zab (Below w.heap.size w w'))
 case atStart => exact ⟨(([] : List (S78))), (0), (by first | rfl | (simp; done) | (simp [*]; done)), H', ⟨Nat.le_refl _⟩, ⟨by first | exact Kd.R_nil _ _ _ _ _ | exact Kd.N_nil _ _ _ _ _ | exact Kd.V_nil _ _ _ _ _ | exact Kd.Q_nil _ _ _ _ _ | exact Kd.S_nil _ _ _ _ _⟩, ⟨by repeat (first | (with_reducible first | exact HB.out | apply zad | apply zaa | apply zac) | exact HB.out)⟩⟩
 case round =>
  clear H'
  obtain ⟨x3_1, x4_1, rfl, HA, HK1, HO_3, HB⟩ := hrel
  cases gk with
  | zero => exact absurd HA.out (by simp [zbE.l0])
  | succ k1 =>
   have H := HA.out; clear HA
   simp only [zbE.l0] at H
   by_cases c2 : x4_1 < (a0.size : Int)
   ·rw [if_pos c2] at H
    have c2b0 : decide (x4_1 < (a0.size : Int)) = true := decide_eq_true c2
    clear c2
    by_cases c3 : 0 ≤ x4_1
    ·rw [if_pos c3] at H
     have c3b0 := eq_true c3
     have c3b1 : decide (0 ≤ x4_1) = true := decide_eq_true c3
     clear c3
     by_cases c4 : x4_1 ≤ (a0.size : Int)
     ·rw [if_pos c4] at H
      have c4b0 := eq_true c4
      have c4b1 : decide (x4_1 ≤ (a0.size : Int)) = true := decide_eq_true c4
      clear c4; replace H := Option.bind_eq_some_iff.mp H
      obtain ⟨⟨t538, t539⟩, A50, H⟩ := H
      replace H : (if t538 = 65533 then (if x3_1.length < 4398046511104 then (zbE.l0 k1 a0 (x3_1 ++ [(⟨wrap64 (t538), x4_1, wrap64 (x4_1 + t539), (t539 == 1)⟩ : S78)]) (wrap64 (x4_1 + t539))) else (none)) else (if x3_1.length < 4398046511104 then (zbE.l0 k1 a0 (x3_1 ++ [(⟨wrap64 (t538), x4_1, wrap64 (x4_1 + t539), false⟩ : S78)]) (wrap64 (x4_1 + t539))) else (none))) = some r := H
      have A5 := zab.mk A50; clear A50
      by_cases c6 : t538 = 65533
      ·rw [if_pos c6] at H
       have c6b0 : (t538 == 65533) = true := beq_iff_eq.mpr c6
       have c6b1 : (t538 != 65533) = false := bne_eq_false_iff_eq.mpr c6
       clear c6
       by_cases c7 : x3_1.length < 4398046511104
       ·rw [if_pos c7] at H; have LMc7 := zab.mk c7; clear c7
        obtain ⟨y540, hy540⟩ : ∃ y_ : List (S78), y_ = (x3_1 ++ [(⟨wrap64 (t538), x4_1, wrap64 (x4_1 + t539), (t539 == 1)⟩ : S78)]) := ⟨_, rfl⟩
        replace H : (zbE.l0 k1 a0 y540 (wrap64 (x4_1 + t539))) = some r := by first | (rw [hy540]; with_reducible exact H) | (have H2_ := (Option.bind_some _ _).symm.trans H; rw [hy540]; with_reducible exact H2_) | (have H2_ := (Option.bind_some _ _).symm.trans H; with_reducible exact H2_) | with_reducible exact H | (rw [hy540]; exact H) | exact H
        have Ny540 := zab.mk hy540; clear hy540; have H' := zab.mk H; clear H
        go_wp2_with (first | ((with_reducible refine zan (f := 60) rfl ?_); refine zaN (some 16) rfl rfl Tryd.func60 (by kernel_rfl) rfl #[.string (a0.extract (x4_1 : Int).toNat a0.size)] rfl (by (try simp only [List.map_toArray, List.map_cons, List.map_nil]); first | done | rfl | (simp only [List.length_drop, List.length_take]; rfl)) ?_; (with_reducible refine (utf8_DecodeRuneInString.calls (a0.extract (x4_1 : Int).toNat a0.size) t538 t539 _ ?side1 A5.out).mono ?_); (case side1 => exact GT_below HG.out (by repeat (first | (with_reducible first | exact HB.out | apply zad | apply zaa | apply zac) | exact HB.out))); rintro e w8 ⟨rfl, hb⟩; refine ⟨_, rfl, ?_⟩; have n0_ := zab.mk (Kd.zbi (by (with_reducible repeat (first | apply Kd.R_alloc | apply Kd.zat | apply Kd.zaw)); exact HO_3.out) hb); have n1_ := zab.mk (zau (by repeat (first | (with_reducible first | exact HB.out | apply zad | apply zaa | apply zac) | exact HB.out)) hb); clear HO_3 HB; have HO_3 := n0_; have HB := n1_; clear n0_ n1_; (try clear hb); (try clear hb2); (try clear hk); (try clear hi)) | ((with_reducible refine gate_builtin (b := .append) (xs := #[.tmp 25, .tmp 34]) rfl ?_); at_builtin; refine Kd.R_append k78 (w0 := w) w.heap.size rfl (.tmp 25) (.tmp 34) 79 78 (.agg #[(.int .i64 0), (.int .i64 0), (.int .i64 0), (.bool false)]) 32 rfl Tryd.underlying79 info78 rfl (by decide) (by omega) u3 x3_1 (⟨wrap64 (t538), x4_1, wrap64 (x4_1 + t539), (t539 == 1)⟩ : S78) [.int .i64 (wrap64 (t538)), .int .i64 x4_1, .int .i64 (wrap64 (x4_1 + t539)), .bool (t539 == 1)] (fun _ => True) (fun _ => False) rfl rfl ?aP (fun _ hk => hk.elim) ?aF ?aO ?aB ?aS ?aL ?_; (case aP => exact k78_mkM _ _ _ (⟨wrap64 (t538), x4_1, wrap64 (x4_1 + t539), (t539 == 1)⟩ : S78)); (case aB => exact (by repeat (first | (with_reducible first | exact HB.out | apply zad | apply zaa | apply zac) | exact HB.out))); (case aF => exact (fun _ _ => trivial)); (case aO => exact (by (with_reducible repeat (first | apply Kd.R_alloc | apply Kd.zat | apply Kd.zaw)); exact HO_3.out)); (case aS => exact (zav (by repeat (first | (with_reducible first | exact HB.out | apply zad | apply zaa | apply zac) | exact HB.out)))); (case aL => have := LMc7.out; omega); intro v541 w9 ho hb hg hat; rw [← Ny540.out] at ho; have n0_ := zab.mk (hb); have n1_ := zab.mk (ho); clear HB HO_3; have HB := n0_; have HO542 := n1_; clear n0_ n1_ ho hb hg hat))
        go_roundg k1
        case measure => have := HK1.out; omega
        case rel => exact ⟨(y540), (wrap64 (x4_1 + t539)), (by first | rfl | (simp; done) | (simp [*]; done)), H', ⟨by have := HK1.out; omega⟩, ⟨by (with_reducible repeat (first | apply Kd.R_alloc | apply Kd.zat | apply Kd.zaw)); exact HO542.out⟩, ⟨by repeat (first | (with_reducible first | exact HB.out | apply zad | apply zaa | apply zac) | exact HB.out)⟩⟩
       rw [if_neg c7] at H
       exact absurd H (by simp)
      rw [if_neg c6] at H
      have c6b0 : (t538 == 65533) = false := beq_eq_false_iff_ne.mpr c6
      have c6b1 : (t538 != 65533) = true := bne_iff_ne.mpr c6
      by_cases c10 : x3_1.length < 4398046511104
      ·rw [if_pos c10] at H; have LMc10 := zab.mk c10; clear c10
       obtain ⟨y543, hy543⟩ : ∃ y_ : List (S78), y_ = (x3_1 ++ [(⟨wrap64 (t538), x4_1, wrap64 (x4_1 + t539), false⟩ : S78)]) := ⟨_, rfl⟩
       replace H : (zbE.l0 k1 a0 y543 (wrap64 (x4_1 + t539))) = some r := by first | (rw [hy543]; with_reducible exact H) | (have H2_ := (Option.bind_some _ _).symm.trans H; rw [hy543]; with_reducible exact H2_) | (have H2_ := (Option.bind_some _ _).symm.trans H; with_reducible exact H2_) | with_reducible exact H | (rw [hy543]; exact H) | exact H
       have Ny543 := zab.mk hy543; clear hy543; have H' := zab.mk H; clear H
       go_wp2_with (first | ((with_reducible refine zan (f := 60) rfl ?_); refine zaN (some 16) rfl rfl Tryd.func60 (by kernel_rfl) rfl #[.string (a0.extract (x4_1 : Int).toNat a0.size)] rfl (by (try simp only [List.map_toArray, List.map_cons, List.map_nil]); first | done | rfl | (simp only [List.length_drop, List.length_take]; rfl)) ?_; (with_reducible refine (utf8_DecodeRuneInString.calls (a0.extract (x4_1 : Int).toNat a0.size) t538 t539 _ ?side1 A5.out).mono ?_); (case side1 => exact GT_below HG.out (by repeat (first | (with_reducible first | exact HB.out | apply zad | apply zaa | apply zac) | exact HB.out))); rintro e w11 ⟨rfl, hb⟩; refine ⟨_, rfl, ?_⟩; have n0_ := zab.mk (Kd.zbi (by (with_reducible repeat (first | apply Kd.R_alloc | apply Kd.zat | apply Kd.zaw)); exact HO_3.out) hb); have n1_ := zab.mk (zau (by repeat (first | (with_reducible first | exact HB.out | apply zad | apply zaa | apply zac) | exact HB.out)) hb); clear HO_3 HB; have HO_3 := n0_; have HB := n1_; clear n0_ n1_; (try clear hb); (try clear hb2); (try clear hk); (try clear hi)) | ((with_reducible refine gate_builtin (b := .append) (xs := #[.tmp 25, .tmp 34]) rfl ?_); at_builtin; refine Kd.R_append k78 (w0 := w) w.heap.size rfl (.tmp 25) (.tmp 34) 79 78 (.agg #[(.int .i64 0), (.int .i64 0), (.int .i64 0), (.bool false)]) 32 rfl Tryd.underlying79 info78 rfl (by decide) (by omega) u3 x3_1 (⟨wrap64 (t538), x4_1, wrap64 (x4_1 + t539), false⟩ : S78) [.int .i64 (wrap64 (t538)), .int .i64 x4_1, .int .i64 (wrap64 (x4_1 + t539)), .bool false] (fun _ => True) (fun _ => False) rfl rfl ?aP (fun _ hk => hk.elim) ?aF ?aO ?aB ?aS ?aL ?_; (case aP => exact k78_mkM _ _ _ (⟨wrap64 (t538), x4_1, wrap64 (x4_1 + t539), false⟩ : S78)); (case aB => exact (by repeat (first | (with_reducible first | exact HB.out | apply zad | apply zaa | apply zac) | exact HB.out))); (case aF => exact (fun _ _ => trivial)); (case aO => exact (by (with_reducible repeat (first | apply Kd.R_alloc | apply Kd.zat | apply Kd.zaw)); exact HO_3.out)); (case aS => exact (zav (by repeat (first | (with_reducible first | exact HB.out | apply zad | apply zaa | apply zac) | exact HB.out)))); (case aL => have := LMc10.out; omega); intro v544 w12 ho hb hg hat; rw [← Ny543.out] at ho; have n0_ := zab.mk (hb); have n1_ := zab.mk (ho); clear HB HO_3; have HB := n0_; have HO545 := n1_; clear n0_ n1_ ho hb hg hat))
       go_roundg k1
       case measure => have := HK1.out; omega
       case rel => exact ⟨(y543), (wrap64 (x4_1 + t539)), (by first | rfl | (simp; done) | (simp [*]; done)), H', ⟨by have := HK1.out; omega⟩, ⟨by (with_reducible repeat (first | apply Kd.R_alloc | apply Kd.zat | apply Kd.zaw)); exact HO545.out⟩, ⟨by repeat (first | (with_reducible first | exact HB.out | apply zad | apply zaa | apply zac) | exact HB.out)⟩⟩
      rw [if_neg c10] at H
      exact absurd H (by simp)
     rw [if_neg c4] at H
     exact absurd H (by simp)
    rw [if_neg c3] at H
    exact absurd H (by simp)
   rw [if_neg c2] at H
   have c2b0 : decide (x4_1 < (a0.size : Int)) = false := decide_eq_false c2
   clear c2; obtain rfl := Option.some.inj H
   go_wp2
   go_ret
   exact ⟨_, by first | rfl | (simp [zar, zas] <;> rfl) | (simp [*, zar, zas] <;> rfl), by (with_reducible repeat (first | apply Kd.R_alloc | apply Kd.zat | apply Kd.zaw)); exact HO_3.out, by repeat (first | (with_reducible first | exact HB.out | apply zad | apply zaa | apply zac) | exact HB.out)⟩
def impl_isPoint.f (a0 : Int) : Option (Bool) := if a0 ≥ 0 then (if a0 ≤ 1114111 then (if a0 < 55296 then (some true) else (some (decide (a0 > 57343)))) else (some false)) else (some false)
set_option maxHeartbeats 8000000 in
set_option maxRecDepth 100000 in
theorem impl_isPoint.calls (a0 : Int) (r : Bool) (w : World) (h : impl_isPoint.f a0 = some r) :
  Calls Tryd.prog 46 #[.int .i64 a0] w fun e w' => e = .returned (.bool r) ∧ zaK w w' := by
 have H : (if a0 ≥ 0 then (if a0 ≤ 1114111 then (if a0 < 55296 then (some true) else (some (decide (a0 > 57343)))) else (some false)) else (some false)) = some r := h
 clear h
 by_cases c2 : a0 ≥ 0
 ·rw [if_pos c2] at H
  have c2b0 : decide (0 ≤ a0) = true := decide_eq_true c2
  clear c2
  by_cases c3 : a0 ≤ 1114111
  ·rw [if_pos c3] at H
   have c3b0 : decide (a0 ≤ 1114111) = true := decide_eq_true c3
   clear c3
   by_cases c4 : a0 < 55296
   ·rw [if_pos c4] at H
    have c4b0 : decide (a0 < 55296) = true := decide_eq_true c4
    clear c4; obtain rfl := Option.some.inj H
    go_enter Tryd.func46, Tryd.ntmps46
    go_wp2
    go_ret
    exact ⟨by first | rfl | (simp; done) | (simp [*]; done), by repeat (first | exact zaK.refl _ | apply zaK.step)⟩
   rw [if_neg c4] at H
   have c4b0 : decide (a0 < 55296) = false := decide_eq_false c4
   clear c4; obtain rfl := Option.some.inj H
   go_enter Tryd.func46, Tryd.ntmps46
   go_wp2
   go_ret
   exact ⟨by first | rfl | (simp; done) | (simp [*]; done), by repeat (first | exact zaK.refl _ | apply zaK.step)⟩
  rw [if_neg c3] at H
  have c3b0 : decide (a0 ≤ 1114111) = false := decide_eq_false c3
  clear c3; obtain rfl := Option.some.inj H
  go_enter Tryd.func46, Tryd.ntmps46
  go_wp2
  go_ret
  exact ⟨by first | rfl | (simp; done) | (simp [*]; done), by repeat (first | exact zaK.refl _ | apply zaK.step)⟩
 rw [if_neg c2] at H
 have c2b0 : decide (0 ≤ a0) = false := decide_eq_false c2
 clear c2; obtain rfl := Option.some.inj H
 go_enter Tryd.func46, Tryd.ntmps46
 go_wp2
 go_ret
 exact ⟨by first | rfl | (simp; done) | (simp [*]; done), by repeat (first | exact zaK.refl _ | apply zaK.step)⟩
end Go.Proofs.YtfafjbolmeimmaaDoor.P
