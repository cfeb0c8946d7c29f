/- impl's reader of a number: the closure of readTest, walked. -/
import Derived.Test.YtfafjbolmeimmaaGreatDoorAb
import Derived.Test.YtfafjbolmeimmaaGreatDoorF4
import Derived.Test.YtfafjbolmeimmaaGreatDoorF12
import Derived.Test.YtfafjbolmeimmaaGreatDoorF3
import Derived.Lib.ConvBytes
import Derived.Lib.AppendIntMem
import Derived.Lib.ParseIntBTie
namespace Go.Proofs.YtfafjbolmeimmaaGreatDoor.P
open Go.RowKit Go.Proofs.YtfafjbolmeimmaaGreatDoorW.PrintWords Go.Proofs.YtfafjbolmeimmaaGreatDoorW.PrintLast Go.Proofs.YtfafjbolmeimmaaGreatDoorW.PrintMore
set_option linter.unusedVariables false
set_option linter.unusedSimpArgs false
def bs (l : List UInt8) : ByteArray := ⟨l.toArray⟩
theorem bs_self (s : ByteArray) : bs s.data.toList = s := rfl
theorem bs_data (l : List UInt8) : (bs l).data.toList = l := rfl
theorem bs_size (l : List UInt8) : (bs l).size = l.length := rfl
theorem ba_ext {s t : ByteArray} (h : s.data.toList = t.data.toList) : s = t := by
 rw [← bs_self s, ← bs_self t, h]
theorem bs_take (l : List UInt8) (j : Nat) : (bs l).extract 0 j = bs (l.take j) := ba_ext (by rw [Lib.extract_data, bs_data, bs_data]; simp)
theorem bs_drop (l : List UInt8) (j : Nat) : (bs l).extract j (bs l).size = bs (l.drop j) := ba_ext (by rw [Lib.extract_data, bs_data, bs_data, bs_size, List.take_of_length_le]; rw [List.length_drop]; omega)
theorem bs_bt (l : List UInt8) (j : Nat) (h : j < l.length) : bt (bs l) (j : Int) = (l[j].toNat : Int) := by
 unfold bt
 rw [Int.toNat_natCast, dif_pos (show j < (bs l).size from h)]
 rfl
theorem tw_len (l : List UInt8) : (l.takeWhile isDg).length ≤ l.length := (List.takeWhile_sublist _).length_le
theorem tw_take (l : List UInt8) : l.take (l.takeWhile isDg).length = l.takeWhile isDg := by
 induction l with
 | nil => rfl
 | cons c r ih =>
  rw [List.takeWhile_cons]
  split
  ·rw [List.length_cons, List.take_succ_cons, ih]
  rfl
theorem dw_drop (l : List UInt8) : l.drop (l.takeWhile isDg).length = l.dropWhile isDg := by
 induction l with
 | nil => rfl
 | cons c r ih =>
  rw [List.takeWhile_cons, List.dropWhile_cons]
  split
  ·rw [List.length_cons, List.drop_succ_cons, ih]
  rfl
theorem tw_at (l : List UInt8) (j : Nat) (h : j < l.length) (hj : j ≤ (l.takeWhile isDg).length) : isDg l[j] = decide (j < (l.takeWhile isDg).length) := by
 induction l generalizing j with
 | nil => simp at h
 | cons c r ih =>
  rw [List.takeWhile_cons] at hj ⊢
  cases j with
  | zero =>
   show isDg c = _
   split
   ·rename_i hc; rw [hc, List.length_cons, decide_eq_true yq9]
   rename_i hc; rw [List.length_nil, decide_eq_false yq9]; simpa using hc
  | succ j =>
   split at hj
   ·rename_i hc
    rw [if_pos hc, List.length_cons]
    rw [List.length_cons] at hj h
    have := ih j yq9 yq9
    show isDg r[j] = _
    rw [this, decide_eq_decide]
    omega
   rw [List.length_nil] at hj; omega
theorem tw_dg (l : List UInt8) : ∀ c ∈ l.takeWhile isDg, isDg c = true := by
 induction l with
 | nil => intro c hc; cases hc
 | cons b r ih =>
  intro c hc
  rw [List.takeWhile_cons] at hc
  split at hc
  ·rcases List.mem_cons.1 hc with rfl | h
   ·assumption
   exact ih c h
  cases hc
theorem drawn_below {w w' : World} (h : zas w w') : Below w.heap.size w w' := by
 obtain ⟨m, rfl⟩ := h
 exact zab (Below.refl _ _) m
theorem parse_ok (s : ByteArray) (hmax : s.size ≤ 9223372036854775806) (v : Int) (h : Lib.parseIntB 64 s.data.toList = .ok v) (w : World) :
  Calls Tryz.prog 131 #[.string s, .int .i64 10, .int .i64 64] w fun e w' => e = .returned (.tuple #[.int .i64 v, .nilIface]) ∧ Below w.heap.size w w' :=
 (Tryz.strconv_ParseInt_ok s hmax v h w).mono fun _ _ ⟨h1, h2⟩ => ⟨h1, by
  rcases h2 with rfl | ⟨t, rfl⟩
  ·exact Below.refl _ _
  exact ⟨rfl, rfl, rfl, by rw [Lib.bytesWorld_size]; omega, fun k hk => Lib.bytesWorld_at_old w 5 t k hk⟩⟩
theorem numI_ok {l : List UInt8} {v : Int} (h : Lib.parseIntB 64 (l.takeWhile isDg) = .ok v) : (numI l).1 = decide (Lib.itoa v = l.takeWhile isDg ∧ v ≤ 1000000) ∧ ((numI l).1 = true → v = ((numI l).2 : Int)) := by
 have key := num_ok (l.takeWhile isDg) (tw_dg l)
 have h1 : (numI l).1 = true → Lib.itoa v = l.takeWhile isDg ∧ v ≤ 1000000 ∧ v = ((numI l).2 : Int) := by
  intro hn
  unfold numI at hn ⊢
  dsimp only at hn ⊢
  split at hn
  ·cases hn
  rename_i c r e
  have hd := of_decide_eq_true hn
  obtain ⟨a, b, c'⟩ := (key (valD (l.takeWhile isDg) : Int)).2 ⟨c, r, e, hd.1, hd.2, rfl⟩
  rw [h] at a
  injection a with a
  subst a
  exact ⟨b, c', rfl⟩
 refine ⟨?_, fun hn => (h1 hn).2.2⟩
 cases hn : (numI l).1 with
 | true => exact (decide_eq_true ⟨(h1 hn).1, (h1 hn).2.1⟩).symm
 | false =>
  refine (decide_eq_false ?_).symm
  rintro ⟨h2, h3⟩
  obtain ⟨c, r, e, h4, h5, h6⟩ := (key v).1 ⟨h, h2, h3⟩
  have : (numI l).1 = true := by
   unfold numI
   dsimp only
   rw [e] at h5 ⊢
   exact decide_eq_true ⟨h4, h5⟩
  rw [hn] at this
  cases this
theorem numI_no {l : List UInt8} (h : ∀ v, Lib.parseIntB 64 (l.takeWhile isDg) ≠ .ok v) : (numI l).1 = false := by
 cases hn : (numI l).1 with
 | false => rfl
 | true =>
  exfalso
  unfold numI at hn
  dsimp only at hn
  split at hn
  ·cases hn
  rename_i c r e
  have hd := of_decide_eq_true hn
  exact h _ ((num_ok (l.takeWhile isDg) (tw_dg l) _).2 ⟨c, r, e, hd.1, hd.2, rfl⟩).1
set_option maxHeartbeats 4000000 in
set_option maxRecDepth 100000 in
theorem num_calls (g : Nat) (l : List UInt8) (w0 w : World) (hG : GT w0) (hB : Below w0.heap.size w0 w) (hge : w0.heap.size ≤ g) (hl : l.length ≤ 1099511627776) (BK : w.heap[g]? = some (.cells #[.string (bs l)] 9 (0, 0))) :
  Calls Tryz.prog 130 #[.pointer (some ⟨g, 0, none⟩)] w fun e w' => ∃ v : Int, e = .returned (.tuple #[.int .i64 v, .bool (numI l).1]) ∧ ((numI l).1 = true → v = ((numI l).2 : Int)) ∧ w'.heap[g]? = some (.cells #[.string (bs (l.dropWhile isDg))] 9 (0, 0)) ∧ Below w0.heap.size w0 w' ∧ KeepBut w w' g none := by
 have HG := zaa.mk hG; have HB := zaa.mk hB; have HK := zaa.mk BK; have HL := zaa.mk hl
 have hz : w.cell? ⟨g, 0, none⟩ = some (.string (bs l)) := (zal BK 0).trans rfl
 obtain ⟨n, hn⟩ : ∃ n, (l.takeWhile isDg).length = n := ⟨_, rfl⟩
 have HN := zaa.mk hn
 have HT := zaa.mk (hn ▸ tw_len l : n ≤ l.length)
 clear hG hB hl hn BK
 go_enter Tryz.func130, Tryz.ntmps130
 go_wp2_with (fail)
 go_loopw [3] (fun v3 wr => ∃ (x : Int) (j : Nat), v3 = .int .i64 x ∧ zaa (x = (j : Int)) ∧ zaa (j ≤ n) ∧ zaa (zas w wr)) (fun v3 wr => (n + 1 - (intOf v3).toNat))
 case atStart => exact ⟨0, 0, rfl, ⟨rfl⟩, ⟨Nat.zero_le _⟩, ⟨zas.refl _⟩⟩
 case round => as_aux_lemma =>
  obtain ⟨x, j, rfl, HX, HJ, HD⟩ := hrel
  have hd := drawn_below HD.out
  have HB1 := zaa.mk (zam HB.out hd)
  have HK1 := zaa.mk (zbg HK.out hd)
  have HKB := zaa.mk (KeepBut.of_below hd g none)
  clear hd hz HB HK
  have hz : wr.cell? ⟨g, 0, none⟩ = some (.string (bs l)) := (zal HK1.out 0).trans rfl
  have hf : wr.frozen? ⟨g, 0, none⟩ = false := zah HK1.out 0
  have HS := zaa.mk (bs_size l)
  by_cases hj : j < n
  ·have hlt : j < l.length := by have := HT.out; omega
   have hdg := tw_at l j hlt (yq15 HN.out)
   rw [decide_eq_true (yq15 HN.out)] at hdg
   have h2 := dg_of _ hdg
   have hb := bs_bt l j hlt
   rw [← HX.out] at hb
   have d1 : decide (x < ((bs l).size : Int)) = true := decide_eq_true (yq19 HX.out HS.out)
   have d2 : decide (48 ≤ bt (bs l) x) = true := decide_eq_true (by rw [hb]; omega)
   have d3 : decide (bt (bs l) x ≤ 57) = true := decide_eq_true (by rw [hb]; omega)
   have p1 : (0 ≤ x) = True := eq_true (yq15 HX.out)
   have p2 : (x < ((bs l).size : Int)) = True := eq_true (yq19 HX.out HS.out)
   have hx := bt_at (bs l) x
   have S3 : zaa (wrap64 (x + 1) = ((j + 1 : Nat) : Int)) := ⟨by unfold wrap64; have := HX.out; have := HT.out; have := HL.out; omega⟩
   clear hdg h2 hb
   go_wp2
   go_roundw
   case rel => exact ⟨_, j + 1, rfl, ⟨S3.out⟩, ⟨hj⟩, ⟨by first | exact HD.out | exact HD.out.drew | exact zas.step HD.out⟩⟩
   case measure => simp only [intOf]; rw [S3.out]; have := HX.out; omega
  have hje : j = n := by have := HJ.out; omega
  have hxn := HX.out
  rw [hje] at hxn
  have HXN := zaa.mk hxn; clear hxn
  have p1 : (0 ≤ x) = True := eq_true (yq15 HX.out)
  have q1 : (x ≤ ((bs l).size : Int)) = True := eq_true (yq33 HXN.out HT.out HS.out)
  have q1b : decide (x ≤ ((bs l).size : Int)) = true := decide_eq_true (yq33 HXN.out HT.out HS.out)
  have h3 : decide (x < ((bs l).size : Int)) = false ∨ ((x < ((bs l).size : Int)) = True ∧ decide (x < ((bs l).size : Int)) = true ∧ (decide (48 ≤ bt (bs l) x) = false ∨ (decide (48 ≤ bt (bs l) x) = true ∧ decide (bt (bs l) x ≤ 57) = false))) := by
   by_cases hlt : n < l.length
   ·right
    have hdg := tw_at l n hlt (yq15 HN.out)
    rw [decide_eq_false (yq15 HN.out)] at hdg
    have hb := bs_bt l n hlt
    rw [← HXN.out] at hb
    have hl : x < ((bs l).size : Int) := by have := HXN.out; have := HS.out; omega
    refine ⟨eq_true hl, decide_eq_true hl, ?_⟩
    have h2 : ¬ (48 ≤ l[n].toNat ∧ l[n].toNat ≤ 57) := by unfold isDg at hdg; exact of_decide_eq_false hdg
    by_cases h48 : 48 ≤ l[n].toNat
    ·right; exact ⟨decide_eq_true yq9, decide_eq_false yq9⟩
    left; exact decide_eq_false yq9
   left; exact decide_eq_false (yq33 HXN.out HS.out HT.out)
  have hx := bt_at (bs l) x
  clear hj hje
  have EX : zaa ((bs l).extract 0 x.toNat = bs (l.takeWhile isDg)) := ⟨by rw [HXN.out, Int.toNat_natCast, bs_take, ← HN.out, tw_take]⟩
  have ED : zaa ((bs l).extract x.toNat (bs l).size = bs (l.dropWhile isDg)) := ⟨by rw [HXN.out, Int.toNat_natCast, bs_drop, ← HN.out, dw_drop]⟩
  have HBq := zaa.mk (zai (j := 0) (v := .string (bs (l.dropWhile isDg))) HB1.out hge)
  have HKq := zaa.mk (zbb HK1.out 0 (.string (bs (l.dropWhile isDg))) rfl)
  have HKBq := zaa.mk (KeepBut.set_ HKB.out 0 (.string (bs (l.dropWhile isDg))))
  rcases h3 with d1 | ⟨p2, d1, d2 | ⟨d2, d3⟩⟩
  ·go_wp2_with (fail)
   rw [EX.out, ED.out]
   cases hq : Lib.parseIntB 64 (l.takeWhile isDg) with
   | ok v =>
    have hv := Lib.parseIntB_bounds hq
    have hv1 : -9223372036854775808 ≤ v := hv.1
    have hv2 : v ≤ 9223372036854775807 := by have := hv.2; have e : ((2 ^ (64 - 1) : Nat) : Int) = 9223372036854775808 := yq38; omega
    have NI := zaa.mk (numI_ok hq)
    refine (parse_ok (bs (l.takeWhile isDg)) (yq32 HN.out HT.out HL.out) v hq _).mono ?_
    rintro e w1 ⟨rfl, hb⟩
    have HB2 := zaa.mk (zam HBq.out hb)
    have HK2 := zaa.mk (zbg HKq.out hb)
    have HQ2 := zaa.mk (KeepBut.trans HKBq.out (KeepBut.of_below hb g none) (.inl rfl))
    have htab := (GT_below HG.out HB2.out).2.2.1
    clear hb hv hq
    go_wp2_with (fail)
    refine (Tryz.strconv_FormatInt v hv1 hv2 w1 htab).mono ?_
    rintro e w2 ⟨rfl, hb⟩
    have HB3 := zaa.mk (zam HB2.out hb)
    have HK3 := zaa.mk (zbg HK2.out hb)
    have HQ3 := zaa.mk (KeepBut.trans HQ2.out (KeepBut.of_below hb g none) (.inl rfl))
    clear hb hv1 hv2 htab
    have ebs : (bs (l.takeWhile isDg)).toList = l.takeWhile isDg := ByteArray.toList_eq _
    by_cases c1 : Lib.itoa v = l.takeWhile isDg
    ·have cmp : (Lib.itoa v = (bs (l.takeWhile isDg)).toList) = True := eq_true (by rw [ebs]; exact c1)
     have cmpb : true = (Lib.itoa v == (bs (l.takeWhile isDg)).toList) := by rw [ebs, c1]; exact (beq_iff_eq.2 rfl).symm
     clear ebs
     by_cases c2 : v ≤ 1000000
     ·have c2b : decide (v ≤ 1000000) = true := decide_eq_true c2
      have R : (numI l).1 = true := NI.out.1.trans (decide_eq_true ⟨c1, c2⟩)
      have RV := zaa.mk (NI.out.2 R)
      clear c1 c2
      go_wp2
      go_ret2
      exact ⟨v, (by rw [R, cmpb]; rfl), fun _ => RV.out, HK3.out, HB3.out, HQ3.out⟩
     have c2b : decide (v ≤ 1000000) = false := decide_eq_false c2
     have R : (numI l).1 = false := NI.out.1.trans (decide_eq_false (fun h => c2 h.2))
     clear c1 c2
     go_wp2
     go_ret2
     exact ⟨v, yq41, (fun h => absurd (R ▸ h) yq21), HK3.out, HB3.out, HQ3.out⟩
    have cmp : (Lib.itoa v = (bs (l.takeWhile isDg)).toList) = False := eq_false (by rw [ebs]; exact c1)
    clear ebs
    have R : (numI l).1 = false := NI.out.1.trans (decide_eq_false (fun h => c1 h.1))
    clear c1
    go_wp2
    go_ret2
    exact ⟨v, yq41, (fun h => absurd (R ▸ h) yq21), HK3.out, HB3.out, HQ3.out⟩
   | range =>
    have R : (numI l).1 = false := numI_no (fun v h => by rw [hq] at h; cases h)
    obtain ⟨tp, p, hvar⟩ := (GT_below HG.out HBq.out).2.1
    refine (Tryz.strconv_ParseInt_range (bs (l.takeWhile isDg)) (yq32 HN.out HT.out HL.out) hq tp p _ hvar).mono ?_
    rintro e w1 ⟨N, T, rfl, hb⟩
    have HB2 := zaa.mk (zam HBq.out hb)
    have HK2 := zaa.mk (zbg HKq.out hb)
    have HQ2 := zaa.mk (KeepBut.trans HKBq.out (KeepBut.of_below hb g none) (.inl rfl))
    clear hb hq hvar
    go_wp2
    go_ret2
    exact ⟨_, yq41, (fun h => absurd (R ▸ h) yq21), HK2.out, HB2.out, HQ2.out⟩
   | _ =>
    have R : (numI l).1 = false := numI_no (fun v h => by rw [hq] at h; cases h)
    obtain ⟨tp, p, hvar⟩ := (GT_below HG.out HBq.out).1
    refine (Tryz.strconv_ParseInt_syntax (bs (l.takeWhile isDg)) (yq32 HN.out HT.out HL.out) (fun v h => by have h' := hq.symm.trans h; cases h') (fun h => by have h' := hq.symm.trans h; cases h') tp p _ hvar).mono ?_
    rintro e w1 ⟨N, T, rfl, hb⟩
    have HB2 := zaa.mk (zam HBq.out hb)
    have HK2 := zaa.mk (zbg HKq.out hb)
    have HQ2 := zaa.mk (KeepBut.trans HKBq.out (KeepBut.of_below hb g none) (.inl rfl))
    clear hb hq hvar
    go_wp2
    go_ret2
    exact ⟨_, yq41, (fun h => absurd (R ▸ h) yq21), HK2.out, HB2.out, HQ2.out⟩
  ·go_wp2_with (fail)
   rw [EX.out, ED.out]
   cases hq : Lib.parseIntB 64 (l.takeWhile isDg) with
   | ok v =>
    have hv := Lib.parseIntB_bounds hq
    have hv1 : -9223372036854775808 ≤ v := hv.1
    have hv2 : v ≤ 9223372036854775807 := by have := hv.2; have e : ((2 ^ (64 - 1) : Nat) : Int) = 9223372036854775808 := yq38; omega
    have NI := zaa.mk (numI_ok hq)
    refine (parse_ok (bs (l.takeWhile isDg)) (yq32 HN.out HT.out HL.out) v hq _).mono ?_
    rintro e w1 ⟨rfl, hb⟩
    have HB2 := zaa.mk (zam HBq.out hb)
    have HK2 := zaa.mk (zbg HKq.out hb)
    have HQ2 := zaa.mk (KeepBut.trans HKBq.out (KeepBut.of_below hb g none) (.inl rfl))
    have htab := (GT_below HG.out HB2.out).2.2.1
    clear hb hv hq
    go_wp2_with (fail)
    refine (Tryz.strconv_FormatInt v hv1 hv2 w1 htab).mono ?_
    rintro e w2 ⟨rfl, hb⟩
    have HB3 := zaa.mk (zam HB2.out hb)
    have HK3 := zaa.mk (zbg HK2.out hb)
    have HQ3 := zaa.mk (KeepBut.trans HQ2.out (KeepBut.of_below hb g none) (.inl rfl))
    clear hb hv1 hv2 htab
    have ebs : (bs (l.takeWhile isDg)).toList = l.takeWhile isDg := ByteArray.toList_eq _
    by_cases c1 : Lib.itoa v = l.takeWhile isDg
    ·have cmp : (Lib.itoa v = (bs (l.takeWhile isDg)).toList) = True := eq_true (by rw [ebs]; exact c1)
     have cmpb : true = (Lib.itoa v == (bs (l.takeWhile isDg)).toList) := by rw [ebs, c1]; exact (beq_iff_eq.2 rfl).symm
     clear ebs
     by_cases c2 : v ≤ 1000000
     ·have c2b : decide (v ≤ 1000000) = true := decide_eq_true c2
      have R : (numI l).1 = true := NI.out.1.trans (decide_eq_true ⟨c1, c2⟩)
      have RV := zaa.mk (NI.out.2 R)
      clear c1 c2
      go_wp2
      go_ret2
      exact ⟨v, (by rw [R, cmpb]; rfl), fun _ => RV.out, HK3.out, HB3.out, HQ3.out⟩
     have c2b : decide (v ≤ 1000000) = false := decide_eq_false c2
     have R : (numI l).1 = false := NI.out.1.trans (decide_eq_false (fun h => c2 h.2))
     clear c1 c2
     go_wp2
     go_ret2
     exact ⟨v, yq41, (fun h => absurd (R ▸ h) yq21), HK3.out, HB3.out, HQ3.out⟩
    have cmp : (Lib.itoa v = (bs (l.takeWhile isDg)).toList) = False := eq_false (by rw [ebs]; exact c1)
    clear ebs
    have R : (numI l).1 = false := NI.out.1.trans (decide_eq_false (fun h => c1 h.1))
    clear c1
    go_wp2
    go_ret2
    exact ⟨v, yq41, (fun h => absurd (R ▸ h) yq21), HK3.out, HB3.out, HQ3.out⟩
   | range =>
    have R : (numI l).1 = false := numI_no (fun v h => by rw [hq] at h; cases h)
    obtain ⟨tp, p, hvar⟩ := (GT_below HG.out HBq.out).2.1
    refine (Tryz.strconv_ParseInt_range (bs (l.takeWhile isDg)) (yq32 HN.out HT.out HL.out) hq tp p _ hvar).mono ?_
    rintro e w1 ⟨N, T, rfl, hb⟩
    have HB2 := zaa.mk (zam HBq.out hb)
    have HK2 := zaa.mk (zbg HKq.out hb)
    have HQ2 := zaa.mk (KeepBut.trans HKBq.out (KeepBut.of_below hb g none) (.inl rfl))
    clear hb hq hvar
    go_wp2
    go_ret2
    exact ⟨_, yq41, (fun h => absurd (R ▸ h) yq21), HK2.out, HB2.out, HQ2.out⟩
   | _ =>
    have R : (numI l).1 = false := numI_no (fun v h => by rw [hq] at h; cases h)
    obtain ⟨tp, p, hvar⟩ := (GT_below HG.out HBq.out).1
    refine (Tryz.strconv_ParseInt_syntax (bs (l.takeWhile isDg)) (yq32 HN.out HT.out HL.out) (fun v h => by have h' := hq.symm.trans h; cases h') (fun h => by have h' := hq.symm.trans h; cases h') tp p _ hvar).mono ?_
    rintro e w1 ⟨N, T, rfl, hb⟩
    have HB2 := zaa.mk (zam HBq.out hb)
    have HK2 := zaa.mk (zbg HKq.out hb)
    have HQ2 := zaa.mk (KeepBut.trans HKBq.out (KeepBut.of_below hb g none) (.inl rfl))
    clear hb hq hvar
    go_wp2
    go_ret2
    exact ⟨_, yq41, (fun h => absurd (R ▸ h) yq21), HK2.out, HB2.out, HQ2.out⟩
  go_wp2_with (fail)
  rw [EX.out, ED.out]
  cases hq : Lib.parseIntB 64 (l.takeWhile isDg) with
  | ok v =>
   have hv := Lib.parseIntB_bounds hq
   have hv1 : -9223372036854775808 ≤ v := hv.1
   have hv2 : v ≤ 9223372036854775807 := by have := hv.2; have e : ((2 ^ (64 - 1) : Nat) : Int) = 9223372036854775808 := yq38; omega
   have NI := zaa.mk (numI_ok hq)
   refine (parse_ok (bs (l.takeWhile isDg)) (yq32 HN.out HT.out HL.out) v hq _).mono ?_
   rintro e w1 ⟨rfl, hb⟩
   have HB2 := zaa.mk (zam HBq.out hb)
   have HK2 := zaa.mk (zbg HKq.out hb)
   have HQ2 := zaa.mk (KeepBut.trans HKBq.out (KeepBut.of_below hb g none) (.inl rfl))
   have htab := (GT_below HG.out HB2.out).2.2.1
   clear hb hv hq
   go_wp2_with (fail)
   refine (Tryz.strconv_FormatInt v hv1 hv2 w1 htab).mono ?_
   rintro e w2 ⟨rfl, hb⟩
   have HB3 := zaa.mk (zam HB2.out hb)
   have HK3 := zaa.mk (zbg HK2.out hb)
   have HQ3 := zaa.mk (KeepBut.trans HQ2.out (KeepBut.of_below hb g none) (.inl rfl))
   clear hb hv1 hv2 htab
   have ebs : (bs (l.takeWhile isDg)).toList = l.takeWhile isDg := ByteArray.toList_eq _
   by_cases c1 : Lib.itoa v = l.takeWhile isDg
   ·have cmp : (Lib.itoa v = (bs (l.takeWhile isDg)).toList) = True := eq_true (by rw [ebs]; exact c1)
    have cmpb : true = (Lib.itoa v == (bs (l.takeWhile isDg)).toList) := by rw [ebs, c1]; exact (beq_iff_eq.2 rfl).symm
    clear ebs
    by_cases c2 : v ≤ 1000000
    ·have c2b : decide (v ≤ 1000000) = true := decide_eq_true c2
     have R : (numI l).1 = true := NI.out.1.trans (decide_eq_true ⟨c1, c2⟩)
     have RV := zaa.mk (NI.out.2 R)
     clear c1 c2
     go_wp2
     go_ret2
     exact ⟨v, (by rw [R, cmpb]; rfl), fun _ => RV.out, HK3.out, HB3.out, HQ3.out⟩
    have c2b : decide (v ≤ 1000000) = false := decide_eq_false c2
    have R : (numI l).1 = false := NI.out.1.trans (decide_eq_false (fun h => c2 h.2))
    clear c1 c2
    go_wp2
    go_ret2
    exact ⟨v, yq41, (fun h => absurd (R ▸ h) yq21), HK3.out, HB3.out, HQ3.out⟩
   have cmp : (Lib.itoa v = (bs (l.takeWhile isDg)).toList) = False := eq_false (by rw [ebs]; exact c1)
   clear ebs
   have R : (numI l).1 = false := NI.out.1.trans (decide_eq_false (fun h => c1 h.1))
   clear c1
   go_wp2
   go_ret2
   exact ⟨v, yq41, (fun h => absurd (R ▸ h) yq21), HK3.out, HB3.out, HQ3.out⟩
  | range =>
   have R : (numI l).1 = false := numI_no (fun v h => by rw [hq] at h; cases h)
   obtain ⟨tp, p, hvar⟩ := (GT_below HG.out HBq.out).2.1
   refine (Tryz.strconv_ParseInt_range (bs (l.takeWhile isDg)) (yq32 HN.out HT.out HL.out) hq tp p _ hvar).mono ?_
   rintro e w1 ⟨N, T, rfl, hb⟩
   have HB2 := zaa.mk (zam HBq.out hb)
   have HK2 := zaa.mk (zbg HKq.out hb)
   have HQ2 := zaa.mk (KeepBut.trans HKBq.out (KeepBut.of_below hb g none) (.inl rfl))
   clear hb hq hvar
   go_wp2
   go_ret2
   exact ⟨_, yq41, (fun h => absurd (R ▸ h) yq21), HK2.out, HB2.out, HQ2.out⟩
  | _ =>
   have R : (numI l).1 = false := numI_no (fun v h => by rw [hq] at h; cases h)
   obtain ⟨tp, p, hvar⟩ := (GT_below HG.out HBq.out).1
   refine (Tryz.strconv_ParseInt_syntax (bs (l.takeWhile isDg)) (yq32 HN.out HT.out HL.out) (fun v h => by have h' := hq.symm.trans h; cases h') (fun h => by have h' := hq.symm.trans h; cases h') tp p _ hvar).mono ?_
   rintro e w1 ⟨N, T, rfl, hb⟩
   have HB2 := zaa.mk (zam HBq.out hb)
   have HK2 := zaa.mk (zbg HKq.out hb)
   have HQ2 := zaa.mk (KeepBut.trans HKBq.out (KeepBut.of_below hb g none) (.inl rfl))
   clear hb hq hvar
   go_wp2
   go_ret2
   exact ⟨_, yq41, (fun h => absurd (R ▸ h) yq21), HK2.out, HB2.out, HQ2.out⟩
end Go.Proofs.YtfafjbolmeimmaaGreatDoor.P
