/- impl's encodeLabel comes to what a plain Lean function says. -/
import Derived.Test.YtbppeepihlajoaaDoorB9
import Derived.Test.YtbppeepihlajoaaDoorB11
import Derived.Test.YtbppeepihlajoaaDoorXBias
namespace Go.Proofs.YtbppeepihlajoaaDoor.P
open Go.RowKit Go.Proofs.YtbppeepihlajoaaDoorW.PrintWords Go.Proofs.YtbppeepihlajoaaDoorW.PrintLast Go.Proofs.YtbppeepihlajoaaDoorW.PrintMore
attribute [local go_sem] max2_int min2_int max_two min_two
set_option linter.unusedVariables false
set_option linter.unusedSimpArgs false
def encLow : List Int → List Int → List Int
 | [], y => y
 | p :: r, y => encLow r (if p < 128 then y ++ [p % 256] else y)
def encMin (n : Int) : List Int → Int → Int
 | [], m => m
 | p :: r, m => encMin n r (if n ≤ p then mn m p else m)
def encDig (b : Int) : Nat → List Int → Int → Int → Option (List Int)
 | 0, _, _, _ => none
 | f + 1, y, q, kk =>
  if y.length < 140737488355328 then
  (if q < mn (mx (wrap64 (kk - b)) 1) 26 then (if 0 ≤ q ∧ q < 36 then some (y ++ [bt (⟨#[97, 98, 99, 100, 101, 102, 103, 104, 105, 106, 107, 108, 109, 110, 111, 112, 113, 114, 115, 116, 117, 118, 119, 120, 121, 122, 48, 49, 50, 51, 52, 53, 54, 55, 56, 57]⟩ : ByteArray) q]) else none)
   else if wrap64 (36 - mn (mx (wrap64 (kk - b)) 1) 26) = 0 then none
   else if 0 ≤ wrap64 (mn (mx (wrap64 (kk - b)) 1) 26 + Int.tmod (wrap64 (q - mn (mx (wrap64 (kk - b)) 1) 26)) (wrap64 (36 - mn (mx (wrap64 (kk - b)) 1) 26))) ∧ wrap64 (mn (mx (wrap64 (kk - b)) 1) 26 + Int.tmod (wrap64 (q - mn (mx (wrap64 (kk - b)) 1) 26)) (wrap64 (36 - mn (mx (wrap64 (kk - b)) 1) 26))) < 36 then
    encDig b f (y ++ [bt (⟨#[97, 98, 99, 100, 101, 102, 103, 104, 105, 106, 107, 108, 109, 110, 111, 112, 113, 114, 115, 116, 117, 118, 119, 120, 121, 122, 48, 49, 50, 51, 52, 53, 54, 55, 56, 57]⟩ : ByteArray) (wrap64 (mn (mx (wrap64 (kk - b)) 1) 26 + Int.tmod (wrap64 (q - mn (mx (wrap64 (kk - b)) 1) 26)) (wrap64 (36 - mn (mx (wrap64 (kk - b)) 1) 26))))]) (wrap64 (Int.tdiv (wrap64 (q - mn (mx (wrap64 (kk - b)) 1) 26)) (wrap64 (36 - mn (mx (wrap64 (kk - b)) 1) 26)))) (wrap64 (kk + 36))
   else none)
  else none
def encIn (k : Nat) (basic n : Int) : List Int → List Int → Int → Int → Int → Option (List Int × Int × Int × Int)
 | [], y, d, h, b => some (y, d, h, b)
 | c :: r, y, d, h, b =>
  if c < n then encIn k basic n r y (wrap64 (d + 1)) h b
  else if c = n then (encDig b k y d 36).bind fun y' => (impl_bias_adapt.f k b d (wrap64 (h + 1)) (h == basic)).bind fun b' => encIn k basic n r y' 0 (wrap64 (h + 1)) b'
  else encIn k basic n r y d h b
def encOut (basic : Int) (l : List Int) : Nat → List Int → Int → Int → Int → Int → Option (List Int)
 | 0, _, _, _, _, _ => none
 | f + 1, y, h, n, d, b =>
  if h < (l.length : Int) then (encIn f basic (encMin n l 1114112) l y (wrap64 (d + wrap64 (wrap64 (encMin n l 1114112 - n) * wrap64 (h + 1)))) h b).bind fun z => encOut basic l f z.1 z.2.2.1 (wrap64 (encMin n l 1114112 + 1)) (wrap64 (z.2.1 + 1)) z.2.2.2
  else some y
def zaX.f (k : Nat) (l : List Int) : Option ByteArray :=
 if l.length < 140737488355328 - 1 then
  (encOut (encLow l []).length l k (if 0 < (encLow l []).length then encLow l [] ++ [45] else encLow l []) (encLow l []).length 128 0 72).bind fun y => some (strOfNums y)
 else none
theorem encLow_len : ∀ (l y : List Int), (encLow l y).length ≤ y.length + l.length
 | [], y => by simp [encLow]
 | p :: r, y => by
  unfold encLow
  refine Nat.le_trans (encLow_len r _) ?_
  by_cases h : p < 128
  ·rw [if_pos h]; simp; omega
  rw [if_neg h]; simp
set_option maxHeartbeats 4000000 in
set_option maxRecDepth 100000 in
theorem zaX.calls (k : Nat) (A0 : Option Addr) (c0 : Nat) (l0 : List Int) (r : ByteArray) (w : World) (hr0 : Kd.C (Kd.int .i64) w A0 l0.length l0) (hc0 : l0.length ≤ c0) (h : zaX.f k l0 = some r) :
  Calls Tryd.prog 51 #[.slice A0 l0.length c0] w fun e w' => e = .returned (.string r) ∧ Below w.heap.size w w' := by
 have HR0 := zac.mk hr0; have HC0 := zac.mk hc0; clear hr0 hc0
 have HB := zac.mk (Below.refl w.heap.size w)
 unfold zaX.f at h
 by_cases hlen : l0.length < 140737488355328 - 1
 case neg => rw [if_neg hlen] at h; cases h
 rw [if_pos hlen] at h
 obtain ⟨yf, hyf, hrf⟩ := Option.bind_eq_some_iff.mp h
 obtain rfl := Option.some.inj hrf
 clear hrf h; have HL := zac.mk hlen
 obtain ⟨yE, hyE⟩ : ∃ y, encLow l0 [] = y := ⟨_, rfl⟩
 rw [hyE] at hyf
 have hyEl : yE.length ≤ l0.length := by have := encLow_len l0 []; rw [hyE] at this; simpa using this
 have HYE := zac.mk hyE; have HYL := zac.mk hyEl; have H := zac.mk hyf; clear hyf hlen hyE hyEl
 go_enter Tryd.func51, Tryd.ntmps51
 go_wp2
 go_loopw [3, 21] (fun v3 v21 w' => ∃ (i : Nat) (x3 : List Int), v21 = .int .i64 i ∧ i ≤ l0.length ∧ zac (x3.length ≤ i) ∧ zac (encLow (l0.drop i) x3 = yE) ∧ zac (Kd.R (Kd.int .u8) 5 w' w.heap.size (fun _ => True) v3 x3) ∧ zac (Below w.heap.size w w')) (fun _ v _ => l0.length - (intOf v).toNat)
 case atStart => exact ⟨0, [], rfl, by omega, ⟨by simp⟩, ⟨by rw [List.drop_zero]; exact HYE.out⟩, ⟨Kd.R_nil _ _ _ _ _⟩, ⟨by repeat (first | (with_reducible first | exact HB.out | apply zae | apply zaa | apply zad) | exact HB.out)⟩⟩
 case round =>
  obtain ⟨i, x3, rfl, hi, HX, HE, HO, HB⟩ := hrel
  by_cases hlt : i < l0.length
  ·obtain ⟨ad, rfl, hx⟩ := Kd.at_int HR0.out i (by omega) (by omega)
   have hL := HL.out
   replace hx := (HB.out.cell (World.block_lt_of_cell? w _ hx)).trans hx
   have es : rd l0 (i : Int) = l0[i] := by simp [rd, rdOf, hlt]
   have HE2 := HE.out
   rw [List.drop_eq_getElem_cons hlt] at HE2
   unfold encLow at HE2
   rw [es, Int.toNat_natCast] at hx
   generalize l0[i] = p at *
   clear HE es
   by_cases hp : p < 128
   ·rw [if_pos hp] at HE2
    have HE := zac.mk HE2
    have LM := zac.mk (show x3.length < 140737488355328 by have := HX.out; have := HL.out; omega)
    clear HE2
    go_wp2_with (first | ((with_reducible refine gate_builtin (b := .append) (xs := #[.tmp 27, .tmp 30]) rfl ?_); at_builtin; refine Kd.R_append (Kd.int .u8) (w0 := w) w.heap.size rfl (.tmp 27) (.tmp 30) 22 5 (.int .u8 0) 1 rfl Tryd.underlying22 info5 rfl (by decide) (by omega) (u3) x3 (p % 256) [.int .u8 (p % 256)] (fun _ => True) (fun _ => False) rfl rfl ?aP (fun _ hk => hk.elim) ?aF ?aO ?aB ?aS ?aL ?_; (case aP => exact rfl); (case aB => exact (by repeat (first | (with_reducible first | exact HB.out | apply zae | apply zaa | apply zad) | exact HB.out))); (case aF => exact (fun _ _ => trivial)); (case aO => exact (by (with_reducible repeat (first | apply Kd.zav | apply Kd.zau | apply Kd.R_drew)); exact HO.out)); (case aS => exact (zaJ (by repeat (first | (with_reducible first | exact HB.out | apply zae | apply zaa | apply zad) | exact HB.out)))); (case aL => have := LM.out; omega); intro v_ w_ ho hb hg hat; have n0_ := zac.mk (hb); have n1_ := zac.mk (ho); clear HB HO; have HB := n0_; have HO := n1_; clear n0_ n1_ ho hb hg hat))
    go_roundw
    case rel => exact ⟨i + 1, x3 ++ [p % 256], by go_num, by omega, ⟨by have := HX.out; simp; omega⟩, HE, ⟨by (with_reducible repeat (first | apply Kd.zav | apply Kd.zau | apply Kd.R_drew)); exact HO.out⟩, ⟨by repeat (first | (with_reducible first | exact HB.out | apply zae | apply zaa | apply zad) | exact HB.out)⟩⟩
    case measure => simp [intOf]; omega
   rw [if_neg hp] at HE2
   have HE := zac.mk HE2; clear HE2
   go_wp2
   go_roundw
   case rel => exact ⟨i + 1, x3, by go_num, by omega, ⟨by have := HX.out; omega⟩, HE, ⟨by (with_reducible repeat (first | apply Kd.zav | apply Kd.zau | apply Kd.R_drew)); exact HO.out⟩, ⟨by repeat (first | (with_reducible first | exact HB.out | apply zae | apply zaa | apply zad) | exact HB.out)⟩⟩
   case measure => simp [intOf]; omega
  have hE := HE.out
  rw [List.drop_eq_nil_of_le (by omega)] at hE
  unfold encLow at hE
  subst hE; clear HE HX
  have q1 : decide (i < l0.length) = false := decide_eq_false (by omega)
  have q2 : decide ((i : Int) < (l0.length : Int)) = false := decide_eq_false (by omega)
  have LM := zac.mk (show x3.length < 140737488355328 by have := HYL.out; have := HL.out; omega)
  obtain ⟨Ao, co, eo⟩ := Kd.R_slice HO.out
  subst eo
  go_upto_if 37 with (fail)
  go_cut [3] (fun v3 wc => zac (Kd.R (Kd.int .u8) 5 wc w.heap.size (fun _ => True) v3 (if 0 < x3.length then x3 ++ [45] else x3)) ∧ zac (Below w.heap.size w wc))
  case first =>
   by_cases c11 : 0 < x3.length
   ·have c11b0 : decide (0 < (x3.length : Int)) = true := decide_eq_true (by omega)
    have c11b1 : decide (0 < x3.length) = true := decide_eq_true (by omega)
    have e1 : (if 0 < x3.length then x3 ++ [45] else x3) = x3 ++ [45] := if_pos c11
    have E1 := zac.mk e1; clear c11 e1
    (first | rw [c11b0] | rw [c11b1] | skip)
    go_wp2_with (first | ((with_reducible refine gate_builtin (b := .append) (xs := #[.tmp 38, .tmp 39]) rfl ?_); at_builtin; refine Kd.R_append (Kd.int .u8) (w0 := w) w.heap.size rfl (.tmp 38) (.tmp 39) 22 5 (.int .u8 0) 1 rfl Tryd.underlying22 info5 rfl (by decide) (by omega) (.slice Ao x3.length co) x3 (45) [.int .u8 (45)] (fun _ => True) (fun _ => False) rfl rfl ?aP (fun _ hk => hk.elim) ?aF ?aO ?aB ?aS ?aL ?_; (case aP => exact rfl); (case aB => exact (by repeat (first | (with_reducible first | exact HB.out | apply zae | apply zaa | apply zad) | exact HB.out))); (case aF => exact (fun _ _ => trivial)); (case aO => exact (by (with_reducible repeat (first | apply Kd.zav | apply Kd.zau | apply Kd.R_drew)); exact HO.out)); (case aS => exact (zaJ (by repeat (first | (with_reducible first | exact HB.out | apply zae | apply zaa | apply zad) | exact HB.out)))); (case aL => have := LM.out; omega); intro v_ w_ ho hb hg hat; have n0_ := zac.mk (hb); have n1_ := zac.mk (ho); clear HB HO; have HB := n0_; have HO := n1_; clear n0_ n1_ ho hb hg hat))
    go_meet
    case rel => rw [E1.out]; exact ⟨⟨by (with_reducible repeat (first | apply Kd.zav | apply Kd.zau | apply Kd.R_drew)); exact HO.out⟩, ⟨by repeat (first | (with_reducible first | exact HB.out | apply zae | apply zaa | apply zad) | exact HB.out)⟩⟩
   have c11b0 : decide (0 < (x3.length : Int)) = false := decide_eq_false (by omega)
   have c11b1 : decide (0 < x3.length) = false := decide_eq_false (by omega)
   have e1 : (if 0 < x3.length then x3 ++ [45] else x3) = x3 := if_neg c11
   have E1 := zac.mk e1; clear c11 e1
   (first | rw [c11b0] | rw [c11b1] | skip)
   go_wp2
   go_meet
   case rel => rw [E1.out]; exact ⟨⟨by (with_reducible repeat (first | apply Kd.zav | apply Kd.zau | apply Kd.R_drew)); exact HO.out⟩, ⟨by repeat (first | (with_reducible first | exact HB.out | apply zae | apply zaa | apply zad) | exact HB.out)⟩⟩
  case rest =>
   obtain ⟨HO, HB⟩ := hcut
   generalize (if 0 < x3.length then x3 ++ [45] else x3) = y0 at *
   go_wp2
   go_loopg [3, 7, 8, 9] k (fun kq v3 v7 v8 v9 w' => ∃ (y : List Int) (h n d b : Int), v7 = .int .i64 h ∧ v8 = .int .i64 n ∧ v9 = .int .i64 d ∧ zac (encOut x3.length l0 kq y h n d b = some yf) ∧ zac (Kd.R (Kd.int .u8) 5 w' w.heap.size (fun _ => True) v3 y) ∧ zac (Below w.heap.size w w') ∧ zac (zaK w w' wc.heap.size b))
   case atStart => exact ⟨y0, x3.length, 128, 0, 72, rfl, rfl, rfl, H, ⟨by (with_reducible repeat (first | apply Kd.zav | apply Kd.zau | apply Kd.R_drew)); exact HO.out⟩, ⟨by repeat (first | (with_reducible first | exact HB.out | apply zae | apply zaa | apply zad) | exact HB.out)⟩, ⟨zaK.new w wc 72 HB.out⟩⟩
   case round =>
    clear H q1 q2 hlt hi
    obtain ⟨y, h, n, d, b, rfl, rfl, rfl, HA, HO, HB, HS⟩ := hrel
    obtain ⟨W1, hW1⟩ : ∃ W, W = wr := ⟨_, rfl⟩
    subst hW1
    cases gk with
    | zero => exact absurd HA.out (by simp [encOut])
    | succ f =>
     have H := HA.out; clear HA
     unfold encOut at H
     by_cases hh : h < (l0.length : Int)
     ·rw [if_pos hh] at H
      have hh1 : decide (h < (l0.length : Int)) = true := decide_eq_true hh
      obtain ⟨z, hz, hrest⟩ := Option.bind_eq_some_iff.mp H
      obtain ⟨M, hM⟩ : ∃ M, encMin n l0 1114112 = M := ⟨_, rfl⟩
      rw [hM] at hz hrest
      have HZ := zac.mk hz; have HRS := zac.mk hrest; have HM := zac.mk hM; clear H hz hrest hM hh
      go_wp2
      go_loop [11, 49] (fun v11 v49 => ∃ (i : Nat) (m : Int), v11 = .int .i64 m ∧ v49 = .int .i64 i ∧ i ≤ l0.length ∧ zac (encMin n (l0.drop i) m = M)) (fun _ v => l0.length - (intOf v).toNat)
      case atStart => exact ⟨0, 1114112, rfl, rfl, by omega, ⟨by rw [List.drop_zero]; exact HM.out⟩⟩
      case round =>
       obtain ⟨i, m, rfl, rfl, hi, HE⟩ := hrel
       by_cases hlt : i < l0.length
       ·obtain ⟨ad, rfl, hx⟩ := Kd.at_int HR0.out i (by omega) (by omega)
        have hL := HL.out
        replace hx := (HB.out.cell (World.block_lt_of_cell? w _ hx)).trans hx
        have es : rd l0 (i : Int) = l0[i] := by simp [rd, rdOf, hlt]
        have HE2 := HE.out
        rw [List.drop_eq_getElem_cons hlt] at HE2
        unfold encMin at HE2
        rw [es, Int.toNat_natCast] at hx
        generalize l0[i] = p at *
        clear HE es
        by_cases hp : n ≤ p
        ·rw [if_pos hp] at HE2
         have HE := zac.mk HE2; clear HE2
         have hmn : (if p < m then p else m) = mn m p := rfl
         generalize mn m p = m1 at *
         go_wp2
         go_round
         case rel => exact ⟨i + 1, m1, by simp [hmn], by go_num, by omega, HE⟩
         case measure => simp [intOf]; omega
        rw [if_neg hp] at HE2
        have HE := zac.mk HE2; clear HE2
        have hp2 : p < n := by omega
        clear hp
        go_wp2
        go_round
        case rel => exact ⟨i + 1, m, rfl, by go_num, by omega, HE⟩
        case measure => simp [intOf]; omega
       have hE := HE.out
       rw [List.drop_eq_nil_of_le (by omega)] at hE
       unfold encMin at hE
       subst hE; clear HE
       have q1 : decide (i < l0.length) = false := decide_eq_false (by omega)
       have q2 : decide ((i : Int) < (l0.length : Int)) = false := decide_eq_false (by omega)
       go_wp2
       clear hlt q1 q2
       go_loopw [3, 7, 9, 71] (fun v3 v7 v9 v71 w' => ∃ (i : Nat) (y : List Int) (h d b : Int), v7 = .int .i64 h ∧ v9 = .int .i64 d ∧ v71 = .int .i64 i ∧ i ≤ l0.length ∧ zac (encIn f x3.length m (l0.drop i) y d h b = some z) ∧ zac (Kd.R (Kd.int .u8) 5 w' w.heap.size (fun _ => True) v3 y) ∧ zac (Below w.heap.size w w') ∧ zac (zaK w w' wc.heap.size b)) (fun _ _ _ v _ => l0.length - (intOf v).toNat)
       case atStart => exact ⟨0, y, h, _, b, rfl, rfl, rfl, by omega, ⟨by rw [List.drop_zero]; exact HZ.out⟩, ⟨by (with_reducible repeat (first | apply Kd.zav | apply Kd.zau | apply Kd.R_drew)); exact HO.out⟩, ⟨by repeat (first | (with_reducible first | exact HB.out | apply zae | apply zaa | apply zad) | exact HB.out)⟩, ⟨by repeat (first | (with_reducible first | exact HS.out | apply zaK.alloc | apply zaK.drewN | apply zaK.drew) | exact HS.out)⟩⟩
       case round =>
        obtain ⟨i, y, h, d, b, rfl, rfl, rfl, hi, HE, HO, HB, HS⟩ := hrel
        obtain ⟨W2, hW2⟩ : ∃ W, W = wr := ⟨_, rfl⟩
        subst hW2
        by_cases hlt : i < l0.length
        ·obtain ⟨ad, rfl, hx⟩ := Kd.at_int HR0.out i (by omega) (by omega)
         have hL := HL.out
         replace hx := (HB.out.cell (World.block_lt_of_cell? w _ hx)).trans hx
         have es : rd l0 (i : Int) = l0[i] := by simp [rd, rdOf, hlt]
         have HE2 := HE.out
         rw [List.drop_eq_getElem_cons hlt] at HE2
         unfold encIn at HE2
         rw [es, Int.toNat_natCast] at hx
         generalize l0[i] = p at *
         clear HE es
         by_cases hp : p < m
         ·rw [if_pos hp] at HE2
          have HE := zac.mk HE2; clear HE2
          have p1 : (p != m) = true := bne_iff_ne.mpr (by omega)
          go_wp2
          go_roundw
          case rel => exact ⟨i + 1, y, h, _, b, rfl, rfl, by go_num, by omega, HE, ⟨by (with_reducible repeat (first | apply Kd.zav | apply Kd.zau | apply Kd.R_drew)); exact HO.out⟩, ⟨by repeat (first | (with_reducible first | exact HB.out | apply zae | apply zaa | apply zad) | exact HB.out)⟩, ⟨by repeat (first | (with_reducible first | exact HS.out | apply zaK.alloc | apply zaK.drewN | apply zaK.drew) | exact HS.out)⟩⟩
          case measure => simp [intOf]; omega
         rw [if_neg hp] at HE2
         by_cases hq : p = m
         ·rw [if_pos hq] at HE2
          subst hq
          obtain ⟨y2, hy2, HE3⟩ := Option.bind_eq_some_iff.mp HE2
          obtain ⟨b2, hb2, HE4⟩ := Option.bind_eq_some_iff.mp HE3
          have HY := zac.mk hy2; have HA2 := zac.mk hb2; have HE := zac.mk HE4; clear HE2 HE3 HE4 hy2 hb2
          have p1 : (p != p) = false := bne_eq_false_iff_eq.mpr rfl
          go_wp2
          go_loopg [3, 16, 17] f (fun kq v3 v16 v17 w' => ∃ (y : List Int) (q kk : Int), v16 = .int .i64 q ∧ v17 = .int .i64 kk ∧ zac (encDig b kq y q kk = some y2) ∧ zac (Kd.R (Kd.int .u8) 5 w' w.heap.size (fun _ => True) v3 y) ∧ zac (Below w.heap.size w w') ∧ zac (zaK w w' wc.heap.size b))
          case atStart => exact ⟨y, d, 36, rfl, rfl, HY, ⟨by (with_reducible repeat (first | apply Kd.zav | apply Kd.zau | apply Kd.R_drew)); exact HO.out⟩, ⟨by repeat (first | (with_reducible first | exact HB.out | apply zae | apply zaa | apply zad) | exact HB.out)⟩, ⟨by repeat (first | (with_reducible first | exact HS.out | apply zaK.alloc | apply zaK.drewN | apply zaK.drew) | exact HS.out)⟩⟩
          case round =>
           clear HO HB HS HY p1
           obtain ⟨y, q, kk, rfl, rfl, HD, HO, HB, HS⟩ := hrel
           obtain ⟨W3, hW3⟩ : ∃ W, W = wr := ⟨_, rfl⟩
           subst hW3
           cases gk with
           | zero => exact absurd HD.out (by simp [encDig])
           | succ f2 =>
            have HD2 := HD.out
            clear HD
            unfold encDig at HD2
            by_cases hly : y.length < 140737488355328
            case neg => rw [if_neg hly] at HD2; cases HD2
            rw [if_pos hly] at HD2
            have LM := zac.mk hly
            obtain ⟨t, ht⟩ : ∃ t, mn (mx (wrap64 (kk - b)) 1) 26 = t := ⟨_, rfl⟩
            rw [ht] at HD2
            have HD := zac.mk HD2; have HT := zac.mk ht; clear HD2 hly ht
            go_wp2_with (fail)
            refine (impl_bias_t.calls wc.heap.size b kk t b w W3 HS.out HB.out (by unfold impl_bias_t.f; rw [HT.out])).mono ?_
            rintro e w1 ⟨rfl, hI, hB1, hK⟩
            have HO2 := zac.mk (Kd.R_mono (Kd.R_keep (zaK.apart HS.out HO.out (by decide)) hK (fun k h => h.2)) (fun _ _ => trivial))
            clear HO HB HS hK
            have HO : zac (Kd.R (Kd.int .u8) 5 w1 w.heap.size (fun _ => True) u3 y) := HO2
            have HB := zac.mk hB1; have HS := zac.mk hI; clear HO2 hB1 hI HT
            have HD2 := HD.out
            clear HD
            by_cases hqt : q < t
            ·rw [if_pos hqt] at HD2
             by_cases hr : 0 ≤ q ∧ q < 36
             case neg => rw [if_neg hr] at HD2; cases HD2
             rw [if_pos hr] at HD2
             obtain rfl := Option.some.inj HD2
             clear HD2
             obtain ⟨p4, q4⟩ := hr
             have hx4 := bt_at (⟨#[97, 98, 99, 100, 101, 102, 103, 104, 105, 106, 107, 108, 109, 110, 111, 112, 113, 114, 115, 116, 117, 118, 119, 120, 121, 122, 48, 49, 50, 51, 52, 53, 54, 55, 56, 57]⟩ : ByteArray) q
             replace p4 := eq_true p4
             replace q4 := eq_true q4
             go_wp2_with (first | ((with_reducible refine gate_builtin (b := .append) (xs := #[.tmp 110, .tmp 113]) rfl ?_); at_builtin; refine Kd.R_append (Kd.int .u8) (w0 := w) w.heap.size rfl (.tmp 110) (.tmp 113) 22 5 (.int .u8 0) 1 rfl Tryd.underlying22 info5 rfl (by decide) (by omega) (u3) y (bt (⟨#[97, 98, 99, 100, 101, 102, 103, 104, 105, 106, 107, 108, 109, 110, 111, 112, 113, 114, 115, 116, 117, 118, 119, 120, 121, 122, 48, 49, 50, 51, 52, 53, 54, 55, 56, 57]⟩ : ByteArray) q) [.int .u8 (bt (⟨#[97, 98, 99, 100, 101, 102, 103, 104, 105, 106, 107, 108, 109, 110, 111, 112, 113, 114, 115, 116, 117, 118, 119, 120, 121, 122, 48, 49, 50, 51, 52, 53, 54, 55, 56, 57]⟩ : ByteArray) q)] (fun _ => True) (fun _ => False) rfl rfl ?aP (fun _ hk => hk.elim) ?aF ?aO ?aB ?aS ?aL ?_; (case aP => exact rfl); (case aB => exact (by repeat (first | (with_reducible first | exact HB.out | apply zae | apply zaa | apply zad) | exact HB.out))); (case aF => exact (fun _ _ => trivial)); (case aO => exact (by (with_reducible repeat (first | apply Kd.zav | apply Kd.zau | apply Kd.R_drew)); exact HO.out)); (case aS => exact (zaJ (by repeat (first | (with_reducible first | exact HB.out | apply zae | apply zaa | apply zad) | exact HB.out)))); (case aL => have := LM.out; omega); intro v_ w_ ho hb hg hat; have n0_ := zac.mk (hb); have n1_ := zac.mk (ho); have n2_ := zac.mk (zaK.grown (by repeat (first | (with_reducible first | exact HS.out | apply zaK.alloc | apply zaK.drewN | apply zaK.drew) | exact HS.out)) hg (zaK.own_ne HS.out HO.out (by decide))); clear HB HO; have HB := n0_; have HO := n1_; clear n0_ n1_ HS; have HS := n2_; clear n2_ ho hb hg hat))
             refine (impl_bias_adapt.calls f wc.heap.size b d (wrap64 (h + 1)) (h == x3.length) b2 w _ HS.out HB.out HA2.out).mono ?_
             rintro e w3 ⟨rfl, hI, hB1, hK⟩
             have HO2 := zac.mk (Kd.R_mono (Kd.R_keep (zaK.apart HS.out HO.out (by decide)) hK (fun k h => h.2)) (fun _ _ => trivial))
             clear HO HB HS hK
             have HO := HO2
             have HB := zac.mk hB1; have HS := zac.mk hI; clear HO2 hB1 hI p4 q4 hx4
             have hL := HL.out
             go_wp2
             go_roundw
             case rel => exact ⟨i + 1, _, _, _, b2, rfl, rfl, by go_num, by omega, HE, ⟨by (with_reducible repeat (first | apply Kd.zav | apply Kd.zau | apply Kd.R_drew)); exact HO.out⟩, ⟨by repeat (first | (with_reducible first | exact HB.out | apply zae | apply zaa | apply zad) | exact HB.out)⟩, ⟨by repeat (first | (with_reducible first | exact HS.out | apply zaK.alloc | apply zaK.drewN | apply zaK.drew) | exact HS.out)⟩⟩
             case measure => simp [intOf]; omega
            rw [if_neg hqt] at HD2
            by_cases hz0 : wrap64 (36 - t) = 0
            ·rw [if_pos hz0] at HD2; cases HD2
            rw [if_neg hz0] at HD2
            have c10b0 : ((wrap64 (36 - t)) == 0) = false := beq_eq_false_iff_ne.mpr hz0
            have c10b1 : ((wrap64 (36 - t)) != 0) = true := bne_iff_ne.mpr hz0
            by_cases hr : 0 ≤ wrap64 (t + Int.tmod (wrap64 (q - t)) (wrap64 (36 - t))) ∧ wrap64 (t + Int.tmod (wrap64 (q - t)) (wrap64 (36 - t))) < 36
            case neg => rw [if_neg hr] at HD2; cases HD2
            rw [if_pos hr] at HD2
            have HD := zac.mk HD2; clear HD2
            obtain ⟨p4, q4⟩ := hr
            have hx4 := bt_at (⟨#[97, 98, 99, 100, 101, 102, 103, 104, 105, 106, 107, 108, 109, 110, 111, 112, 113, 114, 115, 116, 117, 118, 119, 120, 121, 122, 48, 49, 50, 51, 52, 53, 54, 55, 56, 57]⟩ : ByteArray) (wrap64 (t + Int.tmod (wrap64 (q - t)) (wrap64 (36 - t))))
            replace p4 := eq_true p4
            replace q4 := eq_true q4
            go_wp2_with (first | ((with_reducible refine gate_builtin (b := .append) (xs := #[.tmp 92, .tmp 102]) rfl ?_); at_builtin; refine Kd.R_append (Kd.int .u8) (w0 := w) w.heap.size rfl (.tmp 92) (.tmp 102) 22 5 (.int .u8 0) 1 rfl Tryd.underlying22 info5 rfl (by decide) (by omega) (u3) y (bt (⟨#[97, 98, 99, 100, 101, 102, 103, 104, 105, 106, 107, 108, 109, 110, 111, 112, 113, 114, 115, 116, 117, 118, 119, 120, 121, 122, 48, 49, 50, 51, 52, 53, 54, 55, 56, 57]⟩ : ByteArray) (wrap64 (t + Int.tmod (wrap64 (q - t)) (wrap64 (36 - t))))) [.int .u8 (bt (⟨#[97, 98, 99, 100, 101, 102, 103, 104, 105, 106, 107, 108, 109, 110, 111, 112, 113, 114, 115, 116, 117, 118, 119, 120, 121, 122, 48, 49, 50, 51, 52, 53, 54, 55, 56, 57]⟩ : ByteArray) (wrap64 (t + Int.tmod (wrap64 (q - t)) (wrap64 (36 - t)))))] (fun _ => True) (fun _ => False) rfl rfl ?aP (fun _ hk => hk.elim) ?aF ?aO ?aB ?aS ?aL ?_; (case aP => exact rfl); (case aB => exact (by repeat (first | (with_reducible first | exact HB.out | apply zae | apply zaa | apply zad) | exact HB.out))); (case aF => exact (fun _ _ => trivial)); (case aO => exact (by (with_reducible repeat (first | apply Kd.zav | apply Kd.zau | apply Kd.R_drew)); exact HO.out)); (case aS => exact (zaJ (by repeat (first | (with_reducible first | exact HB.out | apply zae | apply zaa | apply zad) | exact HB.out)))); (case aL => have := LM.out; omega); intro v_ w_ ho hb hg hat; have n0_ := zac.mk (hb); have n1_ := zac.mk (ho); have n2_ := zac.mk (zaK.grown (by repeat (first | (with_reducible first | exact HS.out | apply zaK.alloc | apply zaK.drewN | apply zaK.drew) | exact HS.out)) hg (zaK.own_ne HS.out HO.out (by decide))); clear HB HO; have HB := n0_; have HO := n1_; clear n0_ n1_ HS; have HS := n2_; clear n2_ ho hb hg hat))
            clear p4 q4 hx4
            go_roundg f2
            case measure => omega
            case rel => exact ⟨_, _, _, rfl, rfl, HD, ⟨by (with_reducible repeat (first | apply Kd.zav | apply Kd.zau | apply Kd.R_drew)); exact HO.out⟩, ⟨by repeat (first | (with_reducible first | exact HB.out | apply zae | apply zaa | apply zad) | exact HB.out)⟩, ⟨by repeat (first | (with_reducible first | exact HS.out | apply zaK.alloc | apply zaK.drewN | apply zaK.drew) | exact HS.out)⟩⟩
         rw [if_neg hq] at HE2
         have HE := zac.mk HE2; clear HE2
         have p1 : (p != m) = true := bne_iff_ne.mpr hq
         have hp2 : m ≤ p := by omega
         clear hp hq
         go_wp2
         go_roundw
         case rel => exact ⟨i + 1, y, h, d, b, rfl, rfl, by go_num, by omega, HE, ⟨by (with_reducible repeat (first | apply Kd.zav | apply Kd.zau | apply Kd.R_drew)); exact HO.out⟩, ⟨by repeat (first | (with_reducible first | exact HB.out | apply zae | apply zaa | apply zad) | exact HB.out)⟩, ⟨by repeat (first | (with_reducible first | exact HS.out | apply zaK.alloc | apply zaK.drewN | apply zaK.drew) | exact HS.out)⟩⟩
         case measure => simp [intOf]; omega
        have hE := HE.out
        rw [List.drop_eq_nil_of_le (by omega)] at hE
        unfold encIn at hE
        obtain rfl := Option.some.inj hE
        clear HE hE
        have q1 : decide (i < l0.length) = false := decide_eq_false (by omega)
        have q2 : decide ((i : Int) < (l0.length : Int)) = false := decide_eq_false (by omega)
        clear hlt
        go_wp2
        go_roundg f
        case measure => omega
        case rel => exact ⟨y, h, _, _, b, rfl, rfl, rfl, HRS, ⟨by (with_reducible repeat (first | apply Kd.zav | apply Kd.zau | apply Kd.R_drew)); exact HO.out⟩, ⟨by repeat (first | (with_reducible first | exact HB.out | apply zae | apply zaa | apply zad) | exact HB.out)⟩, ⟨by repeat (first | (with_reducible first | exact HS.out | apply zaK.alloc | apply zaK.drewN | apply zaK.drew) | exact HS.out)⟩⟩
     rw [if_neg hh] at H; obtain rfl := Option.some.inj H
     have hh1 : decide (h < (l0.length : Int)) = false := decide_eq_false hh
     clear hh H
     have hcv := own_string (P := Tryd.prog) Tryd.underlying22 Tryd.underlying5 Tryd.underlying9 (Kd.own_of_R HO.out)
     go_wp2
     go_ret
     exact ⟨rfl, by repeat (first | (with_reducible first | exact HB.out | apply zae | apply zaa | apply zad) | exact HB.out)⟩
end Go.Proofs.YtbppeepihlajoaaDoor.P
