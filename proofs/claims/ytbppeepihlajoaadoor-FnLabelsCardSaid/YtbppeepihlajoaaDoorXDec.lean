/- impl's decodeLabel comes to what a plain Lean function says. -/
import Derived.Test.YtbppeepihlajoaaDoorB9
import Derived.Test.YtbppeepihlajoaaDoorB16
import Derived.Test.YtbppeepihlajoaaDoorXWr
import Derived.Test.YtbppeepihlajoaaDoorB12
import Derived.Test.YtbppeepihlajoaaDoorXBias
import Derived.Test.YtbppeepihlajoaaDoorXIns
import Derived.Test.YtbppeepihlajoaaDoorXL
import Derived.Lib.ConvBytes
namespace Go.Proofs.YtbppeepihlajoaaDoor.P
open Go.RowKit Go.Proofs.YtbppeepihlajoaaDoorW.PrintWords Go.Proofs.YtbppeepihlajoaaDoorW.PrintLast Go.Proofs.YtbppeepihlajoaaDoorW.PrintMore
attribute [local go_sem] max2_int min2_int max_two min_two
set_option linter.unusedVariables false
set_option linter.unusedSimpArgs false
def numsOf (s : ByteArray) : List Int := s.data.toList.map fun b => (b.toNat : Int)
theorem numsOf_len (s : ByteArray) : (numsOf s).length = s.size := by simp [numsOf]
theorem numsOf_get (s : ByteArray) (j : Nat) (h : j < (numsOf s).length) : (numsOf s)[j] = ((s.data.toList.getD j 0).toNat : Int) := by
 have h2 : j < s.data.toList.length := by simpa [numsOf] using h
 simp only [numsOf, List.getElem_map]
 rw [List.getD_eq_getElem?_getD, List.getElem?_eq_getElem h2]; rfl
theorem str_ne {r : ByteArray} (h : ¬ r.size = 0) : r.toList.isEmpty = false := by
 cases hl : r.toList with
 | nil => exact absurd (by have := congrArg List.length hl; rw [Lib.toList_data] at this; simpa using this) h
 | cons a t => rfl
theorem str_eq {r : ByteArray} (h : r.size = 0) : r.toList.isEmpty = true := by
 cases hl : r.toList with
 | nil => rfl
 | cons a t => have := congrArg List.length hl; rw [Lib.toList_data] at this; simp at this; omega
def decHead (a0 : ByteArray) : List Int × ByteArray :=
 if Lib.lastIndexByte a0 45 < 0 then ([], a0) else (numsOf (a0.extract 0 (Lib.lastIndexByte a0 45).toNat), a0.extract ((Lib.lastIndexByte a0 45).toNat + 1) a0.size)
def decIn (b : Int) : Nat → ByteArray → Int → Int → Int → Option (Option (ByteArray × Int))
 | 0, _, _, _, _ => none
 | f + 1, r, at_, w, kk =>
  if r.size = 0 then some none
  else if Lib.indexByte (⟨(97 :: 98 :: 99 :: 100 :: 101 :: 102 :: 103 :: 104 :: 105 :: 106 :: 107 :: 108 :: 109 :: 110 :: 111 :: 112 :: 113 :: 114 :: 115 :: 116 :: 117 :: 118 :: 119 :: 120 :: 121 :: 122 :: 48 :: 49 :: 50 :: 51 :: 52 :: 53 :: 54 :: 55 :: 56 :: 57 :: ([] : List UInt8)).toArray⟩ : ByteArray).data.toList (bt r 0).toNat.toUInt8 < 0 then some none
  else if wrap64 (at_ + wrap64 (Lib.indexByte (⟨(97 :: 98 :: 99 :: 100 :: 101 :: 102 :: 103 :: 104 :: 105 :: 106 :: 107 :: 108 :: 109 :: 110 :: 111 :: 112 :: 113 :: 114 :: 115 :: 116 :: 117 :: 118 :: 119 :: 120 :: 121 :: 122 :: 48 :: 49 :: 50 :: 51 :: 52 :: 53 :: 54 :: 55 :: 56 :: 57 :: ([] : List UInt8)).toArray⟩ : ByteArray).data.toList (bt r 0).toNat.toUInt8 * w)) > 1099511627776 then some none
  else if Lib.indexByte (⟨(97 :: 98 :: 99 :: 100 :: 101 :: 102 :: 103 :: 104 :: 105 :: 106 :: 107 :: 108 :: 109 :: 110 :: 111 :: 112 :: 113 :: 114 :: 115 :: 116 :: 117 :: 118 :: 119 :: 120 :: 121 :: 122 :: 48 :: 49 :: 50 :: 51 :: 52 :: 53 :: 54 :: 55 :: 56 :: 57 :: ([] : List UInt8)).toArray⟩ : ByteArray).data.toList (bt r 0).toNat.toUInt8 < mn (mx (wrap64 (kk - b)) 1) 26 then some (some (r.extract 1 r.size, wrap64 (at_ + wrap64 (Lib.indexByte (⟨(97 :: 98 :: 99 :: 100 :: 101 :: 102 :: 103 :: 104 :: 105 :: 106 :: 107 :: 108 :: 109 :: 110 :: 111 :: 112 :: 113 :: 114 :: 115 :: 116 :: 117 :: 118 :: 119 :: 120 :: 121 :: 122 :: 48 :: 49 :: 50 :: 51 :: 52 :: 53 :: 54 :: 55 :: 56 :: 57 :: ([] : List UInt8)).toArray⟩ : ByteArray).data.toList (bt r 0).toNat.toUInt8 * w))))
  else if wrap64 (w * wrap64 (36 - mn (mx (wrap64 (kk - b)) 1) 26)) > 1099511627776 then some none
  else decIn b f (r.extract 1 r.size) (wrap64 (at_ + wrap64 (Lib.indexByte (⟨(97 :: 98 :: 99 :: 100 :: 101 :: 102 :: 103 :: 104 :: 105 :: 106 :: 107 :: 108 :: 109 :: 110 :: 111 :: 112 :: 113 :: 114 :: 115 :: 116 :: 117 :: 118 :: 119 :: 120 :: 121 :: 122 :: 48 :: 49 :: 50 :: 51 :: 52 :: 53 :: 54 :: 55 :: 56 :: 57 :: ([] : List UInt8)).toArray⟩ : ByteArray).data.toList (bt r 0).toNat.toUInt8 * w))) (wrap64 (w * wrap64 (36 - mn (mx (wrap64 (kk - b)) 1) 26))) (wrap64 (kk + 36))
def decOut (a0 : ByteArray) : Nat → ByteArray → List Int → Int → Int → Int → Bool → Option (ByteArray × Bool)
 | 0, _, _, _, _, _, _ => none
 | f + 1, r, l, n, at_, b, first =>
  if l.length < 1000000000 then
  (if r.size = 0 then (impl_write.f f l).bind fun t => (zar.f f t).bind fun e => some (t, e.toList == a0.toList)
  else (decIn b f r at_ 1 36).bind fun z => match z with
   | none => some (⟨#[]⟩, false)
   | some (r', at') =>
    (impl_bias_adapt.f f b (wrap64 (at' - at_)) ((l.length : Int) + 1) first).bind fun b' =>
    (impl_isPoint.f (wrap64 (n + wrap64 (Int.tdiv at' ((l.length : Int) + 1))))).bind fun ok =>
    if ok = false then some (⟨#[]⟩, false) else if (l.length : Int) ≥ 1000 then some (⟨#[]⟩, false)
    else if 0 ≤ Int.tmod at' ((l.length : Int) + 1) then
     decOut a0 f r' (insAt l (Int.tmod at' ((l.length : Int) + 1)).toNat (wrap64 (n + wrap64 (Int.tdiv at' ((l.length : Int) + 1))))) (wrap64 (n + wrap64 (Int.tdiv at' ((l.length : Int) + 1)))) (Int.tmod at' ((l.length : Int) + 1) + 1) b' false
    else none)
  else none
def impl_decodeLabel.f (k : Nat) (a0 : ByteArray) : Option (ByteArray × Bool) :=
 if a0.size < 1000000000 then decOut a0 k (decHead a0).2 (decHead a0).1 128 0 72 true else none
theorem own_lt {w : World} {base e n : Nat} {v : Value} {xs : List Value} (h : w.ownsRow base e 1 v n xs) (k : Nat) (hk : v.ownBlock = some k) : k < w.heap.size := by
 rcases h.2 with ⟨rfl, _⟩ | ⟨g, cap, cur, rfl, _, hb, _⟩
 ·cases hk
 obtain rfl := Option.some.inj hk
 exact blk_lt hb
theorem below_bytes (w : World) (e : TypeId) (s : ByteArray) : Below w.heap.size w (Lib.bytesWorld w e s) :=
 ⟨rfl, rfl, rfl, by rw [Lib.bytesWorld_size]; omega, fun k hk => Lib.bytesWorld_at_old w e s k hk⟩
set_option maxHeartbeats 4000000 in
set_option maxRecDepth 100000 in
theorem impl_decodeLabel.calls (k : Nat) (a0 : ByteArray) (r1 : ByteArray) (r2 : Bool) (w : World) (hG : GT w) (h : impl_decodeLabel.f k a0 = some (r1, r2)) :
  Calls Tryd.prog 56 #[.string a0] w fun e w' => e = .returned (.tuple #[.string r1, .bool r2]) ∧ Below w.heap.size w w' := by
 have HG := zac.mk hG; clear hG
 have HB := zac.mk (Below.refl w.heap.size w)
 unfold impl_decodeLabel.f at h
 by_cases hsz : a0.size < 1000000000
 case neg => rw [if_neg hsz] at h; cases h
 rw [if_pos hsz] at h
 have H := zac.mk h; have HZ := zac.mk hsz; clear h
 obtain ⟨li, hli⟩ : ∃ li, Lib.lastIndexByte a0 45 = li := ⟨_, rfl⟩
 have hsp := Lib.lastIndexByte_spec a0 45
 rw [hli] at hsp
 have HLI := zac.mk hli; clear hli
 go_enter Tryd.func56, Tryd.ntmps56
 go_wp2_with (fail)
 refine (strings_LastIndexByte.calls a0 45 li _ (by unfold strings_LastIndexByte.f; rw [if_pos (by omega), HLI.out])).mono ?_
 rintro e w1 ⟨rfl, ⟨m1, rfl⟩⟩
 go_upto_if 23 with (fail)
 go_cut [4, 5] (fun v4 v5 wc => v5 = .string (decHead a0).2 ∧ zac (Kd.R (Kd.int .i64) 2 wc w.heap.size (fun _ => True) v4 (decHead a0).1) ∧ zac (Below w.heap.size w wc))
 case first =>
  clear H
  rcases hsp with ⟨hl, _⟩ | ⟨ni, hni, hl, _, _⟩
  ·have hd : decHead a0 = ([], a0) := by unfold decHead; rw [HLI.out, if_pos (by omega)]
   have HD := zac.mk hd; clear hd; subst hl
   go_wp2
   go_meet
   case rel => rw [HD.out]; exact ⟨rfl, ⟨Kd.R_nil _ _ _ _ _⟩, ⟨by repeat (first | (with_reducible first | exact HB.out | apply zae | apply zaa | apply zad) | exact HB.out)⟩⟩
  have hd : decHead a0 = (numsOf (a0.extract 0 ni), a0.extract (ni + 1) a0.size) := by
   unfold decHead
   rw [HLI.out, hl, if_neg (by omega)]
   rfl
  have HD := zac.mk hd; clear hd; subst hl
  have e0 : decide ((0 : Int) ≤ (ni : Int)) = true := decide_eq_true (by omega)
  rw [e0]
  clear e0; have HN := zac.mk hni
  have kc := fun (W : World) (s : ByteArray) => Lib.run_convert_string_bytes (P := Tryd.prog) W 9 22 5 s Tryd.underlying9 Tryd.underlying22 Tryd.underlying5
  have hmn : min ni a0.size = ni := by omega
  have hes : (a0.extract 0 ni).size = ni := by simp [ByteArray.size_extract]; omega
  go_wp2
  obtain ⟨S, hS⟩ : ∃ S, a0.extract 0 ni = S := ⟨_, rfl⟩
  rw [hS] at hes HD ⊢
  have hB1 : Below w.heap.size w (Lib.bytesWorld (w.drewN m1) 5 S) := zaw (zaa (Below.refl _ _) m1) (below_bytes (w.drewN m1) 5 S)
  have hcl : ∀ j, j < ni → (Lib.bytesWorld (w.drewN m1) 5 S).cell? ⟨w.heap.size, j, none⟩ = some (.int .u8 ((S.data.toList.getD j 0).toNat : Int)) := fun j hj => Lib.bytesWorld_cell (w.drewN m1) 5 S j (by omega)
  have HES := zac.mk hes; have HMN := zac.mk hmn
  generalize Lib.bytesWorld (w.drewN m1) 5 S = W1 at *
  have HB1 := zac.mk hB1; have HCL := zac.mk hcl; clear hB1 hcl kc hS hes hmn hni
  go_loopw [4, 29] (fun v4 v29 w' => ∃ (i : Nat) (y : List Int), v29 = .int .i64 i ∧ i ≤ ni ∧ zac (y = (numsOf S).take i) ∧ zac (Kd.R (Kd.int .i64) 2 w' W1.heap.size (fun _ => True) v4 y) ∧ zac (Below W1.heap.size W1 w')) (fun _ v _ => ni - (intOf v).toNat)
  case atStart => exact ⟨0, [], rfl, by omega, ⟨by simp⟩, ⟨Kd.R_nil _ _ _ _ _⟩, ⟨Below.refl _ _⟩⟩
  case round =>
   clear HB
   obtain ⟨i, y, rfl, hi, HY, HO, HB⟩ := hrel
   by_cases hlt : i < ni
   ·have hx := HCL.out i hlt
    replace hx := (HB.out.cell (World.block_lt_of_cell? W1 _ hx)).trans hx
    have hnl : i < (numsOf S).length := by rw [numsOf_len, HES.out]; exact hlt
    have e1 := List.take_succ_eq_append_getElem hnl
    rw [numsOf_get S i hnl, ← HY.out] at e1
    have hp : 0 ≤ ((S.data.toList.getD i 0).toNat : Int) ∧ ((S.data.toList.getD i 0).toNat : Int) ≤ 255 := by have := (S.data.toList.getD i 0).toNat_lt; omega
    generalize ((S.data.toList.getD i 0).toNat : Int) = p at *
    obtain ⟨hp0, hp1⟩ := hp
    have HE := zac.mk e1
    have hz := HZ.out
    have hn := HN.out
    have LM := zac.mk (show y.length < 1000000000 by rw [HY.out]; have := List.length_take_le i (numsOf S); omega)
    clear e1 hnl
    go_wp2_with (first | ((with_reducible refine gate_builtin (b := .append) (xs := #[.tmp 33, .tmp 36]) rfl ?_); at_builtin; refine Kd.R_append (Kd.int .i64) (w0 := W1) W1.heap.size rfl (.tmp 33) (.tmp 36) 67 2 (.int .i64 0) 8 rfl Tryd.underlying67 info2 rfl (by decide) (by omega) (u4) y (p) [.int .i64 p] (fun _ => True) (fun _ => False) rfl rfl ?aP (fun _ hk => hk.elim) ?aF ?aO ?aB ?aS ?aL ?_; (case aP => exact rfl); (case aB => exact (by repeat (first | (with_reducible first | exact HB.out | apply zae | apply zaa | apply zad) | exact HB.out))); (case aF => exact (fun _ _ => trivial)); (case aO => exact (by (with_reducible repeat (first | apply Kd.zav | apply Kd.zau | apply Kd.R_drew)); exact HO.out)); (case aS => exact (zaJ (by repeat (first | (with_reducible first | exact HB.out | apply zae | apply zaa | apply zad) | exact HB.out)))); (case aL => have := LM.out; omega); intro v_ w_ ho hb hg hat; have n0_ := zac.mk (hb); have n1_ := zac.mk (ho); clear HB HO; have HB := n0_; have HO := n1_; clear n0_ n1_ ho hb hg hat))
    go_roundw
    case rel => exact ⟨i + 1, y ++ [p], by go_num, by omega, ⟨HE.out.symm⟩, ⟨by (with_reducible repeat (first | apply Kd.zav | apply Kd.zau | apply Kd.R_drew)); exact HO.out⟩, ⟨by repeat (first | (with_reducible first | exact HB.out | apply zae | apply zaa | apply zad) | exact HB.out)⟩⟩
    case measure => simp [intOf]; omega
   obtain rfl : i = ni := by omega
   have e1 := HY.out
   rw [List.take_of_length_le (by rw [numsOf_len, HES.out]; exact Nat.le_refl _)] at e1
   subst e1
   have hz := HZ.out
   have hn := HN.out
   have hmn := HMN.out
   have q1 : decide (i < i) = false := decide_eq_false (by omega)
   have q2 : decide ((i : Int) < (i : Int)) = false := decide_eq_false (by omega)
   clear HY hlt hi
   go_wp2
   go_meet
   case rel => rw [HD.out]; exact ⟨rfl, ⟨Kd.R_lower (by (with_reducible repeat (first | apply Kd.zav | apply Kd.zau | apply Kd.R_drew)); exact HO.out) HB1.out.size⟩, ⟨zaw HB1.out (by repeat (first | (with_reducible first | exact HB.out | apply zae | apply zaa | apply zad) | exact HB.out))⟩⟩
 case rest =>
  obtain ⟨rfl, HO, HB⟩ := hcut
  generalize (decHead a0).1 = l0 at *
  generalize (decHead a0).2 = r0 at *
  clear hsp HLI
  go_wp2
  go_loopg [4, 5, 9, 10, 12] k (fun kq v4 v5 v9 v10 v12 w' => ∃ (l : List Int) (r : ByteArray) (n at_ b : Int) (first : Bool), v5 = .string r ∧ v9 = .int .i64 n ∧ v10 = .int .i64 at_ ∧ v12 = .bool first ∧ zac (decOut a0 kq r l n at_ b first = some (r1, r2)) ∧ zac (Kd.R (Kd.int .i64) 2 w' w.heap.size (fun _ => True) v4 l) ∧ zac (Below w.heap.size w w') ∧ zac (zaK w w' wc.heap.size b))
  case atStart => exact ⟨l0, r0, 128, 0, 72, true, rfl, rfl, rfl, rfl, H, ⟨by (with_reducible repeat (first | apply Kd.zav | apply Kd.zau | apply Kd.R_drew)); exact HO.out⟩, ⟨by repeat (first | (with_reducible first | exact HB.out | apply zae | apply zaa | apply zad) | exact HB.out)⟩, ⟨zaK.new w wc 72 HB.out⟩⟩
  case round =>
   clear H HO HB
   obtain ⟨l, r, n, at_, b, first, rfl, rfl, rfl, rfl, HA, HO, HB, HS⟩ := hrel
   obtain ⟨W1, hW1⟩ : ∃ W, W = wr := ⟨_, rfl⟩
   subst hW1
   cases gk with
   | zero => exact absurd HA.out (by simp [decOut])
   | succ f =>
    have H := HA.out; clear HA
    unfold decOut at H
    by_cases hll : l.length < 1000000000
    case neg => rw [if_neg hll] at H; cases H
    rw [if_pos hll] at H; have HLL := zac.mk hll; clear hll
    by_cases hr : r.size = 0
    ·rw [if_pos hr] at H
     obtain ⟨t, ht, H2⟩ := Option.bind_eq_some_iff.mp H
     obtain ⟨e, he, H3⟩ := Option.bind_eq_some_iff.mp H2
     obtain ⟨rfl, rfl⟩ := Prod.mk.inj (Option.some.inj H3)
     have HT := zac.mk ht; have HE := zac.mk he
     obtain rfl : r = ⟨#[]⟩ := by
      cases r with
      | mk d =>
       have : d.size = 0 := hr
       rw [Array.eq_empty_of_size_eq_zero this]
     clear H H2 H3 ht he hr
     obtain ⟨Ao, co, eo⟩ := Kd.R_slice HO.out
     subst eo
     go_wp2_with (fail)
     refine (impl_write.calls f Ao co l t _ (Kd.zaY (by (with_reducible repeat (first | apply Kd.zav | apply Kd.zau | apply Kd.R_drew)); exact HO.out)).2.2 (Kd.zaY HO.out).2.1 HT.out).mono ?_
     rintro e2 w2 ⟨rfl, hb2⟩
     have n0_ := zac.mk (Kd.R_below (by (with_reducible repeat (first | apply Kd.zav | apply Kd.zau | apply Kd.R_drew)); exact HO.out) hb2)
     have n1_ := zac.mk (zaw (by repeat (first | (with_reducible first | exact HB.out | apply zae | apply zaa | apply zad) | exact HB.out)) hb2)
     clear HO HB HS hb2
     have HO := n0_
     have HB := n1_
     clear n0_ n1_
     go_wp2_with (fail)
     refine (impl_write.calls f Ao co l t _ (Kd.zaY (by (with_reducible repeat (first | apply Kd.zav | apply Kd.zau | apply Kd.R_drew)); exact HO.out)).2.2 (Kd.zaY HO.out).2.1 HT.out).mono ?_
     rintro e2 w3 ⟨rfl, hb2⟩
     have n1_ := zac.mk (zaw (by repeat (first | (with_reducible first | exact HB.out | apply zae | apply zaa | apply zad) | exact HB.out)) hb2)
     clear HO HB hb2
     have HB := n1_
     clear n1_
     go_wp2_with (fail)
     refine (zar.calls f t e _ (GT_below HG.out HB.out) HE.out).mono ?_
     rintro e2 w4 ⟨rfl, hb2⟩
     have n1_ := zac.mk (zaw (by repeat (first | (with_reducible first | exact HB.out | apply zae | apply zaa | apply zad) | exact HB.out)) hb2)
     clear HB hb2
     have HB := n1_
     clear n1_
     go_wp2
     go_ret2
     exact ⟨rfl, by repeat (first | (with_reducible first | exact HB.out | apply zae | apply zaa | apply zad) | exact HB.out)⟩
    rw [if_neg hr] at H
    obtain ⟨z, hz, HR⟩ := Option.bind_eq_some_iff.mp H
    have HI := zac.mk hz; have HN := zac.mk HR
    have hne1 : r.toList.isEmpty = false := str_ne hr
    have hne2 : (!r.toList.isEmpty) = true := by rw [hne1]; rfl
    clear H hz HR
    go_wp2
    clear hne1 hne2
    go_loopg [5, 10, 14, 15] f (fun kq v5 v10 v14 v15 w' => ∃ (r : ByteArray) (at2 w2 kk : Int), v5 = .string r ∧ v10 = .int .i64 at2 ∧ v14 = .int .i64 w2 ∧ v15 = .int .i64 kk ∧ zac (decIn b kq r at2 w2 kk = some z) ∧ zac (Kd.R (Kd.int .i64) 2 w' w.heap.size (fun _ => True) u4 l) ∧ zac (Below w.heap.size w w') ∧ zac (zaK w w' wc.heap.size b))
    case atStart => exact ⟨r, at_, 1, 36, rfl, rfl, rfl, rfl, HI, ⟨by (with_reducible repeat (first | apply Kd.zav | apply Kd.zau | apply Kd.R_drew)); exact HO.out⟩, ⟨by repeat (first | (with_reducible first | exact HB.out | apply zae | apply zaa | apply zad) | exact HB.out)⟩, ⟨by repeat (first | (with_reducible first | exact HS.out | apply zaK.alloc | apply zaK.drewN | apply zaK.drew) | exact HS.out)⟩⟩
    case round =>
     clear HI HO HB HS hr
     obtain ⟨q, at2, w2, kk, rfl, rfl, rfl, rfl, HA, HO, HB, HS⟩ := hrel
     obtain ⟨W2, hW2⟩ : ∃ W, W = wr := ⟨_, rfl⟩
     subst hW2
     cases gk with
     | zero => exact absurd HA.out (by simp [decIn])
     | succ f2 =>
      have H := HA.out; clear HA
      unfold decIn at H
      by_cases hq : q.size = 0
      ·rw [if_pos hq] at H; obtain rfl := Option.some.inj H
       obtain ⟨rfl, rfl⟩ := Prod.mk.inj (Option.some.inj HN.out)
       have hne1 : q.toList.isEmpty = true := str_eq hq
       have hne2 : (!q.toList.isEmpty) = false := by rw [hne1]; rfl
       clear H
       go_wp2
       go_ret2
       exact ⟨rfl, by repeat (first | (with_reducible first | exact HB.out | apply zae | apply zaa | apply zad) | exact HB.out)⟩
      rw [if_neg hq] at H
      have hne1 : q.toList.isEmpty = false := str_ne hq
      have hne2 : (!q.toList.isEmpty) = true := by rw [hne1]; rfl
      have hq1 : 0 < q.size := by omega
      have hq2 : 1 ≤ q.size := hq1
      have hx : ∀ h : 0 < q.size, ((q[0]'h).toNat : Int) = bt q 0 := fun h => bt_at q 0 h
      obtain ⟨d, hd⟩ : ∃ d, Lib.indexByte (⟨(97 :: 98 :: 99 :: 100 :: 101 :: 102 :: 103 :: 104 :: 105 :: 106 :: 107 :: 108 :: 109 :: 110 :: 111 :: 112 :: 113 :: 114 :: 115 :: 116 :: 117 :: 118 :: 119 :: 120 :: 121 :: 122 :: 48 :: 49 :: 50 :: 51 :: 52 :: 53 :: 54 :: 55 :: 56 :: 57 :: ([] : List UInt8)).toArray⟩ : ByteArray).data.toList (bt q 0).toNat.toUInt8 = d := ⟨_, rfl⟩
      rw [hd] at H
      have HD := zac.mk hd; have HH := zac.mk H; clear H hd
      have hIB : strings_IndexByte.f (⟨(97 :: 98 :: 99 :: 100 :: 101 :: 102 :: 103 :: 104 :: 105 :: 106 :: 107 :: 108 :: 109 :: 110 :: 111 :: 112 :: 113 :: 114 :: 115 :: 116 :: 117 :: 118 :: 119 :: 120 :: 121 :: 122 :: 48 :: 49 :: 50 :: 51 :: 52 :: 53 :: 54 :: 55 :: 56 :: 57 :: ([] : List UInt8)).toArray⟩ : ByteArray) (bt q 0) = some d := congrArg some HD.out
      have HIB := zac.mk hIB; clear hIB HD
      go_wp2_with (fail)
      (with_reducible refine (strings_IndexByte.calls (⟨(97 :: 98 :: 99 :: 100 :: 101 :: 102 :: 103 :: 104 :: 105 :: 106 :: 107 :: 108 :: 109 :: 110 :: 111 :: 112 :: 113 :: 114 :: 115 :: 116 :: 117 :: 118 :: 119 :: 120 :: 121 :: 122 :: 48 :: 49 :: 50 :: 51 :: 52 :: 53 :: 54 :: 55 :: 56 :: 57 :: ([] : List UInt8)).toArray⟩ : ByteArray) (bt q 0) d _ HIB.out).mono ?_)
      rintro e w4 ⟨rfl, ⟨m4, rfl⟩⟩
      have n0_ := zac.mk (Kd.zau HO.out m4)
      have n1_ := zac.mk (zaa HB.out m4)
      have n2_ := zac.mk (zaK.drewN HS.out m4)
      clear hx HO HB HS
      generalize W2.drewN m4 = W3 at *
      have HO := n0_
      have HB := n1_
      have HS := n2_
      clear n0_ n1_ n2_; have H := HH.out; clear HH
      by_cases hd0 : d < 0
      ·rw [if_pos hd0] at H; obtain rfl := Option.some.inj H
       obtain ⟨rfl, rfl⟩ := Prod.mk.inj (Option.some.inj HN.out)
       clear H
       go_wp2
       go_ret2
       exact ⟨rfl, by repeat (first | (with_reducible first | exact HB.out | apply zae | apply zaa | apply zad) | exact HB.out)⟩
      rw [if_neg hd0] at H
      have hd1 : 0 ≤ d := by omega
      obtain ⟨t, ht⟩ : ∃ t, mn (mx (wrap64 (kk - b)) 1) 26 = t := ⟨_, rfl⟩
      rw [ht] at H
      have HT := zac.mk ht; clear ht; have HH := zac.mk H; clear H
      go_wp2_with (fail)
      refine (impl_bias_t.calls wc.heap.size b kk t b w W3 HS.out HB.out (by unfold impl_bias_t.f; rw [HT.out])).mono ?_
      rintro e w1 ⟨rfl, hI, hB1, hK⟩
      have HO2 := zac.mk (Kd.R_mono (Kd.R_keep (zaK.apart HS.out HO.out (by decide)) hK (fun k h => h.2)) (fun _ _ => trivial))
      clear HO HB HS hK
      have HO : zac (Kd.R (Kd.int .i64) 2 w1 w.heap.size (fun _ => True) u4 l) := HO2
      have HB := zac.mk hB1; have HS := zac.mk hI; clear HO2 hB1 hI HT; have H := HH.out; clear HH
      obtain ⟨a2, ha2⟩ : ∃ a2, wrap64 (at2 + wrap64 (d * w2)) = a2 := ⟨_, rfl⟩
      rw [ha2] at H
      by_cases h4 : a2 > 1099511627776
      ·rw [if_pos h4] at H; obtain rfl := Option.some.inj H
       obtain ⟨rfl, rfl⟩ := Prod.mk.inj (Option.some.inj HN.out)
       clear H
       go_wp2
       go_ret2
       exact ⟨rfl, by repeat (first | (with_reducible first | exact HB.out | apply zae | apply zaa | apply zad) | exact HB.out)⟩
      rw [if_neg h4] at H
      have h4' : a2 ≤ 1099511627776 := by omega
      clear h4
      by_cases h5 : d < t
      ·rw [if_pos h5] at H; obtain rfl := Option.some.inj H
       have HN2 := HN.out
       clear H HN
       obtain ⟨b', hb', HN3⟩ := Option.bind_eq_some_iff.mp HN2
       have HAD := zac.mk hb'; have HN := zac.mk HN3; clear HN2 hb' HN3
       have hll := HLL.out
       obtain ⟨Ao, co, eo⟩ := Kd.R_slice HO.out
       subst eo
       go_wp2_with (fail)
       refine (impl_bias_adapt.calls f wc.heap.size b (wrap64 (a2 - at_)) ((l.length : Int) + 1) first b' w _ HS.out HB.out HAD.out).mono ?_
       rintro e w3 ⟨rfl, hI, hB1, hK⟩
       have HO2 := zac.mk (Kd.R_mono (Kd.R_keep (zaK.apart HS.out HO.out (by decide)) hK (fun k h => h.2)) (fun _ _ => trivial))
       clear HO HB HS hK
       have HO := HO2
       have HB := zac.mk hB1; have HS := zac.mk hI; clear HO2 hB1 hI HAD
       obtain ⟨n2, hn2⟩ : ∃ n2, wrap64 (n + wrap64 (Int.tdiv a2 ((l.length : Int) + 1))) = n2 := ⟨_, rfl⟩
       have H := HN.out
       rw [hn2] at H
       obtain ⟨ok, hok, H2⟩ := Option.bind_eq_some_iff.mp H
       have HOK := zac.mk hok; have HN := zac.mk H2; clear H hok H2
       have hz1 : ¬ ((l.length : Int) + 1 = 0) := by omega
       go_wp2_with (fail)
       refine (impl_isPoint.calls n2 ok _ HOK.out).mono ?_
       rintro e w6 ⟨rfl, ⟨m6, rfl⟩⟩
       cases ok with
       | false =>
        have H := HN.out; rw [if_pos rfl] at H
        obtain ⟨rfl, rfl⟩ := Prod.mk.inj (Option.some.inj H)
        clear H
        go_wp2
        go_ret2
        exact ⟨rfl, by repeat (first | (with_reducible first | exact HB.out | apply zae | apply zaa | apply zad) | exact HB.out)⟩
       | true =>
        have H := HN.out
        rw [if_neg (by simp)] at H
        by_cases h7 : (l.length : Int) ≥ 1000
        ·rw [if_pos h7] at H
         obtain ⟨rfl, rfl⟩ := Prod.mk.inj (Option.some.inj H)
         have h7a : decide ((1000 : Int) ≤ (l.length : Int)) = true := decide_eq_true (by omega)
         have h7b : decide (1000 ≤ l.length) = true := decide_eq_true (by omega)
         clear H
         go_wp2
         go_ret2
         exact ⟨rfl, by repeat (first | (with_reducible first | exact HB.out | apply zae | apply zaa | apply zad) | exact HB.out)⟩
        rw [if_neg h7] at H
        have h7a : decide ((1000 : Int) ≤ (l.length : Int)) = false := decide_eq_false (by omega)
        have h7b : decide (1000 ≤ l.length) = false := decide_eq_false (by omega)
        by_cases h8 : 0 ≤ Int.tmod a2 ((l.length : Int) + 1)
        case neg => rw [if_neg h8] at H; cases H
        rw [if_pos h8] at H
        have h9 : Int.tmod a2 ((l.length : Int) + 1) < (l.length : Int) + 1 := Int.tmod_lt_of_pos _ (by omega)
        obtain ⟨i, hi⟩ : ∃ i : Nat, Int.tmod a2 ((l.length : Int) + 1) = (i : Int) := ⟨(Int.tmod a2 ((l.length : Int) + 1)).toNat, by omega⟩
        rw [hi] at H h9
        rw [Int.toNat_natCast] at H
        have HN := zac.mk H
        have h10 : i ≤ l.length := by omega
        clear H h8 h7 h9
        go_wp2_with (fail)
        refine (insert_own w.heap.size i w3.heap.size (.slice Ao l.length co) l n2 _ (Kd.own_of_R (by (with_reducible repeat (first | apply Kd.zav | apply Kd.zau | apply Kd.R_drew)); exact HO.out)) (zaJ (by repeat (first | (with_reducible first | exact HB.out | apply zae | apply zaa | apply zad) | exact HB.out))) h10 (by omega) (by simpa using heap_alloc_new (w3.drewN m6) (.cells #[.int .i64 n2] 2)) (fun h => Nat.lt_irrefl _ (own_lt (Kd.own_of_R HO.out) _ h.symm))).mono ?_
        rintro e w7 ⟨v', rfl, hown, hg⟩
        have n0_ := zac.mk (Kd.R_of_own (h1 := fun _ => rfl) (ok := fun _ => True) hown (fun _ _ => trivial))
        have n1_ := zac.mk (show Below w.heap.size w w7 from Below.grown (by repeat (first | (with_reducible first | exact HB.out | apply zae | apply zaa | apply zad) | exact HB.out)) hg (zaJ (by repeat (first | (with_reducible first | exact HB.out | apply zae | apply zaa | apply zad) | exact HB.out))) (own_base (Kd.own_of_R HO.out)))
        have n2_ := zac.mk (zaK.grown (by repeat (first | (with_reducible first | exact HS.out | apply zaK.alloc | apply zaK.drewN | apply zaK.drew) | exact HS.out)) hg (zaK.own_ne HS.out HO.out (by decide)))
        clear HO HB HS hown hg
        have HO := n0_
        have HB := n1_
        have HS := n2_
        clear n0_ n1_ n2_
        go_wp2
        go_roundg f
        case measure => omega
        case rel => exact ⟨_, _, _, _, _, _, rfl, rfl, rfl, rfl, HN, ⟨by (with_reducible repeat (first | apply Kd.zav | apply Kd.zau | apply Kd.R_drew)); exact HO.out⟩, ⟨by repeat (first | (with_reducible first | exact HB.out | apply zae | apply zaa | apply zad) | exact HB.out)⟩, ⟨by repeat (first | (with_reducible first | exact HS.out | apply zaK.alloc | apply zaK.drewN | apply zaK.drew) | exact HS.out)⟩⟩
      rw [if_neg h5] at H
      have h5' : t ≤ d := by omega
      clear h5
      obtain ⟨w5, hw5⟩ : ∃ w5, wrap64 (w2 * wrap64 (36 - t)) = w5 := ⟨_, rfl⟩
      rw [hw5] at H
      by_cases h6 : w5 > 1099511627776
      ·rw [if_pos h6] at H; obtain rfl := Option.some.inj H
       obtain ⟨rfl, rfl⟩ := Prod.mk.inj (Option.some.inj HN.out)
       clear H
       go_wp2
       go_ret2
       exact ⟨rfl, by repeat (first | (with_reducible first | exact HB.out | apply zae | apply zaa | apply zad) | exact HB.out)⟩
      rw [if_neg h6] at H
      have h6' : w5 ≤ 1099511627776 := by omega
      clear h6; have HI := zac.mk H; clear H
      go_wp2
      subst hw5 ha2
      go_roundg f2
      case measure => omega
      case rel => exact ⟨_, _, _, _, rfl, rfl, rfl, rfl, HI, ⟨by (with_reducible repeat (first | apply Kd.zav | apply Kd.zau | apply Kd.R_drew)); exact HO.out⟩, ⟨by repeat (first | (with_reducible first | exact HB.out | apply zae | apply zaa | apply zad) | exact HB.out)⟩, ⟨by repeat (first | (with_reducible first | exact HS.out | apply zaK.alloc | apply zaK.drewN | apply zaK.drew) | exact HS.out)⟩⟩
end Go.Proofs.YtbppeepihlajoaaDoor.P
