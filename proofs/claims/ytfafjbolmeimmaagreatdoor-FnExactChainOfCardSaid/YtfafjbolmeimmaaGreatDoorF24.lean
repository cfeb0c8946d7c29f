/- Parts of a proof: words of the print tool that this claim uses, or plain lists. -/
import Derived.Test.YtfafjbolmeimmaaGreatDoorAb
import Derived.Test.YtfafjbolmeimmaaGreatDoorF22
import Derived.Test.YtfafjbolmeimmaaGreatDoorF21
import Derived.Test.YtfafjbolmeimmaaGreatDoorXCt
import Derived.Test.YtfafjbolmeimmaaGreatDoorF13
namespace Go.Proofs.YtfafjbolmeimmaaGreatDoor.P
open Go.RowKit Go.Proofs.YtfafjbolmeimmaaGreatDoorW.PrintWords Go.Proofs.YtfafjbolmeimmaaGreatDoorW.PrintLast Go.Proofs.YtfafjbolmeimmaaGreatDoorW.PrintMore
set_option linter.unusedVariables false
set_option linter.unusedSimpArgs false
theorem Kd.R_Cs {w : World} {base : Nat} {ok : Nat → Prop} {A : Option Addr} {c : Nat} {xs : List ByteArray} (h : Kd.R Kd.string 9 w base ok (.slice A xs.length c) xs) : Kd.C Kd.string w A xs.length xs := by
 obtain ⟨A9, c9, e9, _, h9⟩ := Kd.R_reads h
 cases e9
 exact h9
theorem nxt_cut {l : List LO} {n : ByteArray} (h : (parO l n).toList = ([] : List UInt8)) : nxt l n = (dsh n).map (fun i => n.extract 0 i) := by unfold nxt; rw [if_pos h]
theorem nxt_par {l : List LO} {n : ByteArray} (h : ¬ (parO l n).toList = ([] : List UInt8)) : nxt l n = some (parO l n) := by unfold nxt; rw [if_neg h]
theorem lib_cw (s : ByteArray) (w : World) (hs : s.size ≤ 1099511627776) : CW w 63 #[.string s, .int .u8 45] (.int .i64 (dshI s)) := fun w1 _ => lib_calls s w1 hs
theorem fnd_cwN {A0 : Option Addr} {c0 : Nat} {l : List LO} {n : ByteArray} {w : World} (hC : Kd.C k31 w A0 l.length l) (hl : l.length ≤ 1048576) (h : atO n l = none) : CW w 62 #[.slice A0 l.length c0, .string n] (.pointer none) := fun w1 hb => (fnd_calls A0 c0 l n w1 (Kd.zaS hC hb) hl).mono fun e w2 ⟨v, hv, hF, h2⟩ => ⟨by
 rcases hF with ⟨_, rfl⟩ | ⟨j, ad, h1, _⟩
 ·exact hv
 exact absurd (h.symm.trans h1) yq21, h2⟩
theorem fnd_cwS {ad : Addr} {c0 : Nat} {l : List LO} {n : ByteArray} {w : World} {j : Nat} (hC : Kd.C k31 w (some ad) l.length l) (hl : l.length ≤ 1048576) (h : atO n l = some j) : CW w 62 #[.slice (some ad) l.length c0, .string n] (.pointer (some (ad.add (j * 15)))) := fun w1 hb => (fnd_calls (some ad) c0 l n w1 (Kd.zaS hC hb) hl).mono fun e w2 ⟨v, hv, hF, h2⟩ => ⟨by
 rcases hF with ⟨h1, _⟩ | ⟨j1, ad1, h1, h3, rfl⟩
 ·exact absurd (h.symm.trans h1) yq21
 cases h.symm.trans h1
 cases h3
 exact hv, h2⟩
set_option maxHeartbeats 4000000 in
set_option maxRecDepth 100000 in
theorem ico_calls (A0 : Option Addr) (c0 : Nat) (l : List LO) (n : ByteArray) (w : World) (hC : Kd.C k31 w A0 l.length l) (hc : l.length ≤ c0) (hG : GT w) (hs : lsS l = true) (hn : smallT n = true) :
  Calls Tryz.prog 26 #[.slice A0 l.length c0, .string n] w fun e w' => ∃ v : Value, e = .returned v ∧ Kd.R Kd.string 9 w' w.heap.size (fun _ => True) v (coV l n) ∧ Below w.heap.size w w' := by
 have HC := zaa.mk hC
 have HL := zaa.mk (lsS_len hs)
 have HF : zaa (Calls Tryz.prog 16 #[.slice A0 l.length c0] w fun e w' => e = .returned (.int .i64 (lsV l)) ∧ Below w.heap.size w w') := ⟨impl_LocalesFault.calls A0 c0 l _ w hC hc hG (by unfold impl_LocalesFault.f; rw [if_pos hs])⟩
 have HM : zaa (CW w 41 #[.string n] (.bool (nameB n))) := ⟨cw_name n hn⟩
 clear hC hc hs hn hG
 by_cases h0 : lsV l = 0
 case neg =>
  have HV : zaa (coV l n = []) := ⟨if_neg h0⟩
  have g1 : (lsV l == 0) = false := beq_eq_false_iff_ne.2 h0
  have g2 : (lsV l != 0) = true := by rw [bne, g1]; rfl
  obtain ⟨z, hz⟩ : ∃ z, lsV l = z := ⟨_, rfl⟩
  rw [hz] at HF g1 g2
  clear h0 hz
  go_enter Tryz.func26, Tryz.ntmps26
  go_wp2_with (first | ((with_reducible refine HF.out.mono ?_); rintro e w1 ⟨rfl, hb⟩; have HB := zaa.mk hb; clear hb) | fail)
  go_ret
  exact ⟨_, rfl, by rw [HV.out]; exact Kd.R_nil _ _ _ _ _, HB.out⟩
 have HK := zaa.mk (okC_of h0)
 rw [h0] at HF
 cases hb0 : nameB n with
 | false =>
  have HV : zaa (coV l n = []) := ⟨by unfold coV; rw [if_pos h0, if_neg (by rw [hb0]; simp)]⟩
  rw [hb0] at HM
  clear h0 hb0
  go_enter Tryz.func26, Tryz.ntmps26
  go_wp2_with (first | ((with_reducible refine HF.out.mono ?_); rintro e w1 ⟨rfl, hb⟩; have HB := zaa.mk hb; clear hb) | ((with_reducible refine (CW.go HM.out HB.out).mono ?_); rintro e w3 ⟨rfl, hb⟩; have HBn := zaa.mk (Below.trans HB.out (Below.mono hb (zaq HB.out))); clear HB; have HB := HBn; clear HBn hb) | fail)
  go_ret
  exact ⟨_, rfl, by rw [HV.out]; exact Kd.R_nil _ _ _ _ _, HB.out⟩
 | true =>
  have HV : zaa (coV l n = chV l n) := ⟨by unfold coV; rw [if_pos h0, if_pos hb0]⟩
  have HG := zaa.mk (nameB_good hb0)
  rw [hb0] at HM
  clear h0 hb0
  go_enter Tryz.func26, Tryz.ntmps26
  go_wp2_with (first | ((with_reducible refine HF.out.mono ?_); rintro e w1 ⟨rfl, hb⟩; have HB := zaa.mk hb; clear hb) | ((with_reducible refine (CW.go HM.out HB.out).mono ?_); rintro e w3 ⟨rfl, hb⟩; have HBn := zaa.mk (Below.trans HB.out (Below.mono hb (zaq HB.out))); clear HB; have HB := HBn; clear HBn hb) | fail)
  go_loopg [1, 5, 6, 7] 11 (fun gk v1 v5 v6 v7 wr => ∃ (n0 : ByteArray) (out : List ByteArray), v1 = .string n0 ∧ zaa (chF l (10 - out.length) out n0 = chV l n ∧ goodN n0 ∧ out.length ≤ 10 ∧ 11 ≤ gk + out.length) ∧ zaa (Kd.R Kd.string 9 wr w.heap.size (fun _ => True) v5 out) ∧ zaa (Below w.heap.size w wr))
  case atStart => exact ⟨n, [], rfl, ⟨rfl, HG.out, yq38, yq38⟩, ⟨Kd.R_nil _ _ _ _ _⟩, HB⟩
  case round =>
   clear HB HM HF
   obtain ⟨n0, out, rfl, HX, HR, HB⟩ := hrel
   obtain ⟨A5, c5, rfl⟩ := Kd.R_slice HR.out
   cases gk with
   | zero => exact absurd HX.out.2.2.2 (by have := HX.out.2.2.1; omega)
   | succ k1 =>
    by_cases h10 : out.length < 10
    case neg =>
     have g3 : decide ((out.length : Int) < 10) = false := decide_eq_false yq9
     have HD : zaa (chV l n = out) := ⟨by rw [← HX.out.1, show 10 - out.length = 0 by omega]; rfl⟩
     clear h10
     go_wp2
     go_ret
     exact ⟨_, rfl, by rw [HV.out, HD.out]; exact HR.out, HB.out⟩
    have g3 : decide ((out.length : Int) < 10) = true := decide_eq_true yq9
    have H10 := zaa.mk h10; clear h10
    have HGG : zaa (1 ≤ n0.size ∧ n0.size ≤ 1048576) := ⟨by have h := HX.out.2.1; unfold goodN at h; exact ⟨h.1.1, by have := h.1.2; omega⟩⟩
    obtain ⟨b, hb⟩ : ∃ b, hasT n0 out = b := ⟨_, rfl⟩
    cases b with
    | true =>
     have HD : zaa (chV l n = out) := ⟨by rw [← HX.out.1]; exact chF_has hb⟩
     have HT := zaa.mk hb; clear hb
     go_wp2_with (first | ((with_reducible refine (con_calls A5 c5 out n0 _ (Kd.R_Cs HR.out) (yq15 H10.out)).mono ?_); rintro e w5 ⟨rfl, hb⟩; rw [HT.out]; have n0_ := zaa.mk (Kd.za3 HR.out hb); have n1_ := zaa.mk (Below.trans HB.out (Below.mono hb (zaq HB.out))); clear HB HR; have HR := n0_; have HB := n1_; clear n0_ n1_ hb) | fail)
     go_ret
     exact ⟨_, rfl, by rw [HV.out, HD.out]; exact HR.out, HB.out⟩
    | false =>
     have HT := zaa.mk hb; clear hb
     cases hat0 : atO n0 l with
     | none =>
      have HP : zaa ((parO l n0).toList = ([] : List UInt8)) := ⟨by rw [parO_none hat0]; simp⟩
      have HFD := zaa.mk (fnd_cwN (c0 := c0) HC.out HL.out hat0)
      clear hat0
      cases hd : dsh n0 with
      | none =>
       have HD : zaa (chV l n = out ++ [n0]) := ⟨by obtain ⟨d, hd10⟩ : ∃ d, 10 - out.length = d + 1 := ⟨9 - out.length, yq15 H10.out⟩; rw [← HX.out.1, hd10]; exact chF_end HT.out (by rw [nxt_cut HP.out, hd]; rfl)⟩
       have HL7 : zaa (CW w 63 #[.string n0, .int .u8 45] (.int .i64 (-1))) := ⟨by have h := lib_cw n0 w (yq15 HGG.out); rw [dshI_none hd] at h; exact h⟩
       clear hd
       go_wp2_with (first | ((with_reducible refine (con_calls A5 c5 out n0 _ (Kd.R_Cs HR.out) (yq15 H10.out)).mono ?_); rintro e w5 ⟨rfl, hb⟩; rw [HT.out]; have n0_ := zaa.mk (Kd.za3 HR.out hb); have n1_ := zaa.mk (Below.trans HB.out (Below.mono hb (zaq HB.out))); clear HB HR; have HR := n0_; have HB := n1_; clear n0_ n1_ hb) | ((with_reducible refine zbs (b := .append) (xs := #[.tmp 25, .tmp 27]) rfl ?_); at_builtin; refine Kd.R_append Kd.string (w0 := w) w.heap.size rfl (.tmp 25) (.tmp 27) 24 9 (.string ⟨#[]⟩) 16 rfl Tryz.underlying24 infoStr rfl yq38 yq9 (.slice A5 out.length c5) out n0 [.string n0] (fun _ => True) (fun _ => False) rfl rfl ?aP (fun _ hk => hk.elim) ?aF ?aO ?aB ?aS ?aL ?_; (case aP => exact rfl); (case aB => exact (yq0 HB.out)); (case aF => exact (fun _ _ => trivial)); (case aO => exact (yq7 HR.out)); (case aS => exact (zaq (yq0 HB.out))); (case aL => have := H10.out; omega); intro v_ w_ ho hb hg hat; have n0_ := zaa.mk (hb); have n1_ := zaa.mk (ho); clear HB HR; have HB := n0_; have HR := n1_; clear n0_ n1_ ho hb hg hat) | ((with_reducible refine (CW.go HFD.out HB.out).mono ?_); rintro e w6 ⟨rfl, hb⟩; have n0_ := zaa.mk (Kd.za3 HR.out hb); have n1_ := zaa.mk (Below.trans HB.out (Below.mono hb (zaq HB.out))); clear HB HR; have HR := n0_; have HB := n1_; clear n0_ n1_ hb) | ((with_reducible refine (CW.go HL7.out HB.out).mono ?_); rintro e w6 ⟨rfl, hb⟩; have n0_ := zaa.mk (Kd.za3 HR.out hb); have n1_ := zaa.mk (Below.trans HB.out (Below.mono hb (zaq HB.out))); clear HB HR; have HR := n0_; have HB := n1_; clear n0_ n1_ hb) | fail)
       go_ret
       exact ⟨_, rfl, by rw [HV.out, HD.out]; exact HR.out, HB.out⟩
      | some i =>
       have HI := zaa.mk (dshF_lt hd)
       have HD : zaa (chF l (9 - out.length) (out ++ [n0]) (n0.extract 0 i) = chV l n ∧ goodN (n0.extract 0 i)) := ⟨by have hn : nxt l n0 = some (n0.extract 0 i) := (by rw [nxt_cut HP.out, hd]; rfl); exact ⟨by rw [← HX.out.1, show 10 - out.length = (9 - out.length) + 1 by have := H10.out; omega]; exact (chF_go HT.out hn).symm, nxt_good HK.out HX.out.2.1 hn⟩⟩
       have HL7 : zaa (CW w 63 #[.string n0, .int .u8 45] (.int .i64 (i : Int))) := ⟨by have h := lib_cw n0 w (yq15 HGG.out); rw [dshI_some hd] at h; exact h⟩
       have i1 : decide ((i : Int) < 0) = false := decide_eq_false yq9
       have i2 : (0 ≤ (i : Int)) = True := eq_true yq9
       have i3 : ((i : Int) ≤ (n0.size : Int)) = True := eq_true (yq15 HI.out)
       clear hd
       go_wp2_with (first | ((with_reducible refine (con_calls A5 c5 out n0 _ (Kd.R_Cs HR.out) (yq15 H10.out)).mono ?_); rintro e w5 ⟨rfl, hb⟩; rw [HT.out]; have n0_ := zaa.mk (Kd.za3 HR.out hb); have n1_ := zaa.mk (Below.trans HB.out (Below.mono hb (zaq HB.out))); clear HB HR; have HR := n0_; have HB := n1_; clear n0_ n1_ hb) | ((with_reducible refine zbs (b := .append) (xs := #[.tmp 25, .tmp 27]) rfl ?_); at_builtin; refine Kd.R_append Kd.string (w0 := w) w.heap.size rfl (.tmp 25) (.tmp 27) 24 9 (.string ⟨#[]⟩) 16 rfl Tryz.underlying24 infoStr rfl yq38 yq9 (.slice A5 out.length c5) out n0 [.string n0] (fun _ => True) (fun _ => False) rfl rfl ?aP (fun _ hk => hk.elim) ?aF ?aO ?aB ?aS ?aL ?_; (case aP => exact rfl); (case aB => exact (yq0 HB.out)); (case aF => exact (fun _ _ => trivial)); (case aO => exact (yq7 HR.out)); (case aS => exact (zaq (yq0 HB.out))); (case aL => have := H10.out; omega); intro v_ w_ ho hb hg hat; have n0_ := zaa.mk (hb); have n1_ := zaa.mk (ho); clear HB HR; have HB := n0_; have HR := n1_; clear n0_ n1_ ho hb hg hat) | ((with_reducible refine (CW.go HFD.out HB.out).mono ?_); rintro e w6 ⟨rfl, hb⟩; have n0_ := zaa.mk (Kd.za3 HR.out hb); have n1_ := zaa.mk (Below.trans HB.out (Below.mono hb (zaq HB.out))); clear HB HR; have HR := n0_; have HB := n1_; clear n0_ n1_ hb) | ((with_reducible refine (CW.go HL7.out HB.out).mono ?_); rintro e w6 ⟨rfl, hb⟩; have n0_ := zaa.mk (Kd.za3 HR.out hb); have n1_ := zaa.mk (Below.trans HB.out (Below.mono hb (zaq HB.out))); clear HB HR; have HR := n0_; have HB := n1_; clear n0_ n1_ hb) | fail)
       go_roundg k1
       case measure => have := HX.out; have := H10.out; omega
       case rel => exact ⟨n0.extract 0 i, out ++ [n0], rfl, ⟨yq43 HD.out, HD.out.2, by rw [List.length_append]; have := H10.out; show out.length + 1 ≤ 10; omega, yq44 HX.out⟩, HR, HB⟩
     | some j =>
      have HJ := zaa.mk (atO_lt hat0)
      obtain ⟨ad0, hA⟩ : ∃ ad0, A0 = some ad0 := by
       obtain ⟨ad, _, _, _, _, _, _, _, _, e, _⟩ := row_at HC.out (j : Int) yq9 (yq15 HJ.out)
       exact ⟨ad, e⟩
      subst hA
      have HAD : zaa (some ad0 = some ad0) := ⟨rfl⟩
      have HFD := zaa.mk (fnd_cwS (c0 := c0) HC.out HL.out hat0)
      obtain ⟨y, hy⟩ : ∃ y, zao l (j : Int) = y := ⟨_, rfl⟩
      have HY := zaa.mk hy
      have hpar : parO l n0 = y.f1 := by rw [parO_some hat0, hy]
      clear hat0 hy
      by_cases hp : y.f1.toList = ([] : List UInt8)
      ·have HP : zaa ((parO l n0).toList = ([] : List UInt8)) := ⟨by rw [hpar]; exact hp⟩
       have g4 : (y.f1.toList == ([] : List UInt8)) = true := beq_iff_eq.2 hp
       have g5 : (y.f1.toList != ([] : List UInt8)) = false := by rw [bne, g4]; rfl
       clear hp hpar
       cases hd : dsh n0 with
       | none =>
        have HD : zaa (chV l n = out ++ [n0]) := ⟨by obtain ⟨d, hd10⟩ : ∃ d, 10 - out.length = d + 1 := ⟨9 - out.length, yq15 H10.out⟩; rw [← HX.out.1, hd10]; exact chF_end HT.out (by rw [nxt_cut HP.out, hd]; rfl)⟩
        have HL7 : zaa (CW w 63 #[.string n0, .int .u8 45] (.int .i64 (-1))) := ⟨by have h := lib_cw n0 w (yq15 HGG.out); rw [dshI_none hd] at h; exact h⟩
        clear hd
        go_wp2_with (first | ((with_reducible refine (con_calls A5 c5 out n0 _ (Kd.R_Cs HR.out) (yq15 H10.out)).mono ?_); rintro e w5 ⟨rfl, hb⟩; rw [HT.out]; have n0_ := zaa.mk (Kd.za3 HR.out hb); have n1_ := zaa.mk (Below.trans HB.out (Below.mono hb (zaq HB.out))); clear HB HR; have HR := n0_; have HB := n1_; clear n0_ n1_ hb) | ((with_reducible refine zbs (b := .append) (xs := #[.tmp 25, .tmp 27]) rfl ?_); at_builtin; refine Kd.R_append Kd.string (w0 := w) w.heap.size rfl (.tmp 25) (.tmp 27) 24 9 (.string ⟨#[]⟩) 16 rfl Tryz.underlying24 infoStr rfl yq38 yq9 (.slice A5 out.length c5) out n0 [.string n0] (fun _ => True) (fun _ => False) rfl rfl ?aP (fun _ hk => hk.elim) ?aF ?aO ?aB ?aS ?aL ?_; (case aP => exact rfl); (case aB => exact (yq0 HB.out)); (case aF => exact (fun _ _ => trivial)); (case aO => exact (yq7 HR.out)); (case aS => exact (zaq (yq0 HB.out))); (case aL => have := H10.out; omega); intro v_ w_ ho hb hg hat; have n0_ := zaa.mk (hb); have n1_ := zaa.mk (ho); clear HB HR; have HB := n0_; have HR := n1_; clear n0_ n1_ ho hb hg hat) | ((with_reducible refine (CW.go HFD.out HB.out).mono ?_); rintro e w6 ⟨rfl, hb⟩; have n0_ := zaa.mk (Kd.za3 HR.out hb); have n1_ := zaa.mk (Below.trans HB.out (Below.mono hb (zaq HB.out))); clear HB HR; have HR := n0_; have HB := n1_; clear n0_ n1_ hb; (have hat := row_at (Kd.zaS HC.out HB.out) (j : Int) yq9 (yq15 HJ.out)); rw [HY.out] at hat; obtain ⟨ad, A5_, c5_, A7, c7, A12, c12, A13, c13, e, RW⟩ := hat; have q1_ := RW.x1; rw [Int.toNat_natCast] at q1_; cases e; clear RW) | ((with_reducible refine (CW.go HL7.out HB.out).mono ?_); rintro e w6 ⟨rfl, hb⟩; have n0_ := zaa.mk (Kd.za3 HR.out hb); have n1_ := zaa.mk (Below.trans HB.out (Below.mono hb (zaq HB.out))); clear HB HR; have HR := n0_; have HB := n1_; clear n0_ n1_ hb) | fail)
        go_ret
        exact ⟨_, rfl, by rw [HV.out, HD.out]; exact HR.out, HB.out⟩
       | some i =>
        have HI := zaa.mk (dshF_lt hd)
        have HD : zaa (chF l (9 - out.length) (out ++ [n0]) (n0.extract 0 i) = chV l n ∧ goodN (n0.extract 0 i)) := ⟨by have hn : nxt l n0 = some (n0.extract 0 i) := (by rw [nxt_cut HP.out, hd]; rfl); exact ⟨by rw [← HX.out.1, show 10 - out.length = (9 - out.length) + 1 by have := H10.out; omega]; exact (chF_go HT.out hn).symm, nxt_good HK.out HX.out.2.1 hn⟩⟩
        have HL7 : zaa (CW w 63 #[.string n0, .int .u8 45] (.int .i64 (i : Int))) := ⟨by have h := lib_cw n0 w (yq15 HGG.out); rw [dshI_some hd] at h; exact h⟩
        have i1 : decide ((i : Int) < 0) = false := decide_eq_false yq9
        have i2 : (0 ≤ (i : Int)) = True := eq_true yq9
        have i3 : ((i : Int) ≤ (n0.size : Int)) = True := eq_true (yq15 HI.out)
        clear hd
        go_wp2_with (first | ((with_reducible refine (con_calls A5 c5 out n0 _ (Kd.R_Cs HR.out) (yq15 H10.out)).mono ?_); rintro e w5 ⟨rfl, hb⟩; rw [HT.out]; have n0_ := zaa.mk (Kd.za3 HR.out hb); have n1_ := zaa.mk (Below.trans HB.out (Below.mono hb (zaq HB.out))); clear HB HR; have HR := n0_; have HB := n1_; clear n0_ n1_ hb) | ((with_reducible refine zbs (b := .append) (xs := #[.tmp 25, .tmp 27]) rfl ?_); at_builtin; refine Kd.R_append Kd.string (w0 := w) w.heap.size rfl (.tmp 25) (.tmp 27) 24 9 (.string ⟨#[]⟩) 16 rfl Tryz.underlying24 infoStr rfl yq38 yq9 (.slice A5 out.length c5) out n0 [.string n0] (fun _ => True) (fun _ => False) rfl rfl ?aP (fun _ hk => hk.elim) ?aF ?aO ?aB ?aS ?aL ?_; (case aP => exact rfl); (case aB => exact (yq0 HB.out)); (case aF => exact (fun _ _ => trivial)); (case aO => exact (yq7 HR.out)); (case aS => exact (zaq (yq0 HB.out))); (case aL => have := H10.out; omega); intro v_ w_ ho hb hg hat; have n0_ := zaa.mk (hb); have n1_ := zaa.mk (ho); clear HB HR; have HB := n0_; have HR := n1_; clear n0_ n1_ ho hb hg hat) | ((with_reducible refine (CW.go HFD.out HB.out).mono ?_); rintro e w6 ⟨rfl, hb⟩; have n0_ := zaa.mk (Kd.za3 HR.out hb); have n1_ := zaa.mk (Below.trans HB.out (Below.mono hb (zaq HB.out))); clear HB HR; have HR := n0_; have HB := n1_; clear n0_ n1_ hb; (have hat := row_at (Kd.zaS HC.out HB.out) (j : Int) yq9 (yq15 HJ.out)); rw [HY.out] at hat; obtain ⟨ad, A5_, c5_, A7, c7, A12, c12, A13, c13, e, RW⟩ := hat; have q1_ := RW.x1; rw [Int.toNat_natCast] at q1_; cases e; clear RW) | ((with_reducible refine (CW.go HL7.out HB.out).mono ?_); rintro e w6 ⟨rfl, hb⟩; have n0_ := zaa.mk (Kd.za3 HR.out hb); have n1_ := zaa.mk (Below.trans HB.out (Below.mono hb (zaq HB.out))); clear HB HR; have HR := n0_; have HB := n1_; clear n0_ n1_ hb) | fail)
        go_roundg k1
        case measure => have := HX.out; have := H10.out; omega
        case rel => exact ⟨n0.extract 0 i, out ++ [n0], rfl, ⟨yq43 HD.out, HD.out.2, by rw [List.length_append]; have := H10.out; show out.length + 1 ≤ 10; omega, yq44 HX.out⟩, HR, HB⟩
      have HD : zaa (chF l (9 - out.length) (out ++ [n0]) y.f1 = chV l n ∧ goodN y.f1) := ⟨by have hn : nxt l n0 = some y.f1 := (by rw [nxt_par (by rw [hpar]; exact hp), hpar]); exact ⟨by rw [← HX.out.1, show 10 - out.length = (9 - out.length) + 1 by have := H10.out; omega]; exact (chF_go HT.out hn).symm, nxt_good HK.out HX.out.2.1 hn⟩⟩
      have g4 : (y.f1.toList == ([] : List UInt8)) = false := beq_eq_false_iff_ne.2 hp
      have g5 : (y.f1.toList != ([] : List UInt8)) = true := by rw [bne, g4]; rfl
      clear hp hpar
      go_wp2_with (first | ((with_reducible refine (con_calls A5 c5 out n0 _ (Kd.R_Cs HR.out) (yq15 H10.out)).mono ?_); rintro e w5 ⟨rfl, hb⟩; rw [HT.out]; have n0_ := zaa.mk (Kd.za3 HR.out hb); have n1_ := zaa.mk (Below.trans HB.out (Below.mono hb (zaq HB.out))); clear HB HR; have HR := n0_; have HB := n1_; clear n0_ n1_ hb) | ((with_reducible refine zbs (b := .append) (xs := #[.tmp 25, .tmp 27]) rfl ?_); at_builtin; refine Kd.R_append Kd.string (w0 := w) w.heap.size rfl (.tmp 25) (.tmp 27) 24 9 (.string ⟨#[]⟩) 16 rfl Tryz.underlying24 infoStr rfl yq38 yq9 (.slice A5 out.length c5) out n0 [.string n0] (fun _ => True) (fun _ => False) rfl rfl ?aP (fun _ hk => hk.elim) ?aF ?aO ?aB ?aS ?aL ?_; (case aP => exact rfl); (case aB => exact (yq0 HB.out)); (case aF => exact (fun _ _ => trivial)); (case aO => exact (yq7 HR.out)); (case aS => exact (zaq (yq0 HB.out))); (case aL => have := H10.out; omega); intro v_ w_ ho hb hg hat; have n0_ := zaa.mk (hb); have n1_ := zaa.mk (ho); clear HB HR; have HB := n0_; have HR := n1_; clear n0_ n1_ ho hb hg hat) | ((with_reducible refine (CW.go HFD.out HB.out).mono ?_); rintro e w6 ⟨rfl, hb⟩; have n0_ := zaa.mk (Kd.za3 HR.out hb); have n1_ := zaa.mk (Below.trans HB.out (Below.mono hb (zaq HB.out))); clear HB HR; have HR := n0_; have HB := n1_; clear n0_ n1_ hb; (have hat := row_at (Kd.zaS HC.out HB.out) (j : Int) yq9 (yq15 HJ.out)); rw [HY.out] at hat; obtain ⟨ad, A5_, c5_, A7, c7, A12, c12, A13, c13, e, RW⟩ := hat; have q1_ := RW.x1; rw [Int.toNat_natCast] at q1_; cases e; clear RW) | fail)
      go_roundg k1
      case measure => have := HX.out; have := H10.out; omega
      case rel => exact ⟨y.f1, out ++ [n0], rfl, ⟨yq43 HD.out, HD.out.2, by rw [List.length_append]; have := H10.out; show out.length + 1 ≤ 10; omega, yq44 HX.out⟩, HR, HB⟩
end Go.Proofs.YtfafjbolmeimmaaGreatDoor.P
namespace Go.Proofs.YtfafjbolmeimmaaGreatDoor.P
open Go.RowKit Go.Proofs.YtfafjbolmeimmaaGreatDoorW.PrintWords Go.Proofs.YtfafjbolmeimmaaGreatDoorW.PrintLast Go.Proofs.YtfafjbolmeimmaaGreatDoorW.PrintMore
set_option linter.unusedVariables false
set_option linter.unusedSimpArgs false
theorem chF_len (l : List LO) : ∀ (d : Nat) (out : List ByteArray) (n : ByteArray), (chF l d out n).length ≤ out.length + d
 | 0, out, n => Nat.le_refl _
 | d + 1, out, n => by
  show (if hasT n out = true then out else match nxt l n with | none => out ++ [n] | some m => chF l d (out ++ [n]) m).length ≤ _
  split
  ·omega
  split
  ·rw [List.length_append]; show out.length + 1 ≤ _; omega
  have := chF_len l d (out ++ [n]) (by assumption)
  rw [List.length_append] at this
  have h2 : out.length + [n].length = out.length + 1 := rfl
  omega
theorem coV_len (l : List LO) (n : ByteArray) : (coV l n).length ≤ 10 := by
 unfold coV
 split
 ·split
  ·have := chF_len l 10 [] n
   exact this
  exact Nat.zero_le _
 exact Nat.zero_le _
theorem R_sl {α : Type} {d : Kd α} {e : Nat} {w : World} {base : Nat} {ok : Nat → Prop} {A : Option Addr} {n c : Nat} {xs : List α} (h : d.R e w base ok (.slice A n c) xs) : n = xs.length ∧ xs.length ≤ c ∧ d.C w A xs.length xs := by
 obtain ⟨A', c', e, h1, h2⟩ := Kd.R_reads h
 cases e
 exact ⟨rfl, h1, h2⟩
theorem ts2_calls {A : Option Addr} {c : Nat} {l : List S26} {W : World} (hC : Kd.C k26 W A l.length l) (hc : l.length ≤ c) (hl : l.length ≤ 1048576) (hs : ∀ x ∈ l, smL (locOf x)) (w1 : World) (hb : Below W.heap.size W w1) :
  Calls Tryz.prog 15 #[.slice A l.length c] w1 fun e w' => ∃ (A2 : Option Addr) (c2 : Nat), e = .returned (.slice A2 (l.map locOf).length c2) ∧ Kd.R k31 31 w' w1.heap.size (fun _ => True) (.slice A2 (l.map locOf).length c2) (l.map locOf) ∧ Below w1.heap.size w1 w' := by
 obtain ⟨k, hk⟩ := ev_some (toLs_f l hl hs)
 refine (za5.calls k A c l _ w1 (Kd.zaS hC hb) hc hk).mono ?_
 rintro e w' ⟨v, rfl, S, h2⟩
 have R := Kd.S_R S
 obtain ⟨A2, c2, rfl⟩ := Kd.R_slice R
 exact ⟨A2, c2, rfl, R, h2⟩
theorem eqs2_calls {B B2 : Option Addr} {c c2 : Nat} {b b2 : Nat} {o o2 : Nat → Prop} {X : List ByteArray} {w : World} (hX : X.length ≤ 10) (h : Kd.R Kd.string 9 w b o (.slice B X.length c) X) (h2 : Kd.R Kd.string 9 w b2 o2 (.slice B2 X.length c2) X) :
  Calls Tryz.prog 22 #[.slice B X.length c, .slice B2 X.length c2] w fun e w' => e = .returned (.bool true) ∧ Below w.heap.size w w' := by
 obtain ⟨k, hk⟩ := ev_some (eqS_f X yq9)
 exact (zaR.calls k B c X B2 c2 X true w (R_sl h).2.2 (R_sl h).2.1 (R_sl h2).2.2 (R_sl h2).2.1 hk).mono fun _ _ h => ⟨h.1, drawn_bl h.2⟩
theorem eql2_calls {B B2 : Option Addr} {c c2 : Nat} {b b2 : Nat} {o o2 : Nat → Prop} {X : List S31} {w : World} (hX : X.length ≤ 1048576) (hs : ∀ x ∈ X, smL x) (h : Kd.R k31 31 w b o (.slice B X.length c) X) (h2 : Kd.R k31 31 w b2 o2 (.slice B2 X.length c2) X) :
  Calls Tryz.prog 17 #[.slice B X.length c, .slice B2 X.length c2] w fun e w' => e = .returned (.bool true) ∧ Below w.heap.size w w' := by
 obtain ⟨k, hk⟩ := ev_some (eqLs_f X hX hs)
 exact zaL.calls k B c X B2 c2 X true w (R_sl h).2.2 (R_sl h).2.1 (R_sl h2).2.2 (R_sl h2).2.1 hk
theorem held2_calls {B : Option Addr} {c n : Nat} {b : Nat} {o : Nat → Prop} {Y : List ByteArray} {w : World} {m : Int} (hY : Ev (fun k => za1.f k Y 1) m) (h : Kd.R Kd.string 9 w b o (.slice B n c) Y) :
  Calls Tryz.prog 29 #[.slice B n c, .int .i64 1] w fun e w' => e = .returned (.int .i64 m) ∧ Below w.heap.size w w' := by
 obtain ⟨k, hk⟩ := ev_some hY
 obtain ⟨rfl, h1, h2⟩ := R_sl h
 exact za1.calls k B c Y 1 m w h2 h1 hk
theorem mark2_calls {B : Option Addr} {c n : Nat} {b : Nat} {o : Nat → Prop} {X Y : List ByteArray} {w0 w : World} {m : Int} {hi : Nat} (hY : Ev (fun k => zaY.f k X 1) (m, Y)) (hB : Below w0.heap.size w0 w) (hb0 : w0.heap.size ≤ b) (hbi : hi ≤ b) (h : Kd.R Kd.string 9 w b o (.slice B n c) X) :
  Calls Tryz.prog 28 #[.slice B n c, .int .i64 1] w fun e w' => e = .returned (.int .i64 m) ∧ Kd.R Kd.string 9 w' w0.heap.size (fun _ => True) (.slice B n c) Y ∧ Below w0.heap.size w0 w' ∧ Kept w w' (fun k => hi ≤ k) := by
 obtain ⟨k, hk⟩ := ev_some hY
 refine (zaY.calls k (fun k => hi ≤ k) (.slice B n c) X 1 m Y w0 w hB (Kd.R_lower (Kd.R_mono (Kd.R_bound h) (fun k hk => Nat.le_trans hbi hk.2.1)) hb0) hk).mono ?_
 rintro e w' ⟨he, hR, hB2, hK⟩
 exact ⟨he, Kd.R_mono hR (fun _ _ => trivial), hB2, hK⟩
theorem Sm.bel {W0 W w : World} {lo hi : Nat} (h : Sm W lo hi w) (hb : Below W0.heap.size W0 W) (hlo : W0.heap.size ≤ lo) : Below W0.heap.size W0 w :=
 ⟨h.os.trans hb.os, h.tape.trans hb.tape, h.output.trans hb.output, Nat.le_trans hb.size h.size, fun k hk => (h.out k (Nat.lt_of_lt_of_le hk hb.size) (fun e => by omega)).trans (hb.block k hk)⟩
theorem lsS_of {l : List S26} (h1 : l.length ≤ 1048576) (h2 : ∀ x ∈ l, smL (locOf x)) : lsS (l.map locOf) = true ∧ (l.map locOf).length ≤ 1048576 ∧ ∀ x ∈ l.map locOf, smL x := by
 have h2' : ∀ x ∈ l.map locOf, smL x := fun x hx => by
  obtain ⟨y, hy, rfl⟩ := List.mem_map.1 hx
  exact h2 y hy
 have h1' : (l.map locOf).length ≤ 1048576 := by simpa using h1
 exact ⟨Bool.and_eq_true_iff.2 ⟨decide_eq_true h1', List.all_eq_true.2 h2'⟩, h1', h2'⟩
theorem okR_mk {W : World} {lo hi k : Nat} (h1 : lo ≤ k) (h2 : k < hi) (h3 : ∃ cells q, W.heap[k]? = some (.cells cells q (0, 0))) : okR W lo hi k := ⟨h1, h2, h3⟩
set_option maxHeartbeats 8000000 in
set_option maxRecDepth 100000 in
theorem law_calls (A : Option Addr) (c : Nat) (l : List S26) (n : ByteArray) (W : World) (hC : Kd.C k26 W A l.length l) (hc : l.length ≤ c) (hG : GT W) (hl : l.length ≤ 9223372036854775807) (hs : ∀ x ∈ l, bigL x) :
  Calls Tryz.prog 7 #[.slice A l.length c, .string n] W fun e w' => e = .returned (.bool true) ∧ Below W.heap.size W w' := by
 have HB := zaa.mk (Below.refl W.heap.size W)
 by_cases hn : (1048576 : Int) < (n.size : Int)
 ·have g0 : decide ((1048576 : Int) < (n.size : Int)) = true := decide_eq_true hn
  clear hn hC hc hG hl hs
  go_enter Tryz.func7, Tryz.ntmps7
  go_wp2
  go_ret
  exact ⟨rfl, yq25 HB.out⟩
 have g0 : decide ((1048576 : Int) < (n.size : Int)) = false := decide_eq_false hn
 have g0' : ((1048576 : Int) < (n.size : Int)) = False := eq_false hn
 have HSN : zaa (smallT n = true) := ⟨decide_eq_true yq9⟩
 obtain ⟨r, hr, hsm⟩ := szLs_f l hl hs
 have HSZ : zaa (∀ w1, Below W.heap.size W w1 → Calls Tryz.prog 13 #[.slice A l.length c, .int .i64 1048576] w1 fun e w' => e = .returned (.int .i64 r) ∧ Below w1.heap.size w1 w') := ⟨fun w1 hb => by
  obtain ⟨k, hk⟩ := ev_some hr
  exact za4.calls k A c l _ r w1 (Kd.zaS hC hb) hc hk⟩
 by_cases h0 : r < 0
 ·have g1 : decide (r < 0) = true := decide_eq_true h0
  clear h0 hr hsm hn hC hc hG hl hs
  go_enter Tryz.func7, Tryz.ntmps7
  go_wp2_with (first | ((with_reducible refine (HSZ.out _ (yq25 HB.out)).mono ?_); rintro e w1 ⟨rfl, hb⟩; have HB1 := zaa.mk (zam (yq25 HB.out) hb); clear hb) | fail)
  go_ret
  exact ⟨rfl, HB1.out⟩
 have g1 : decide (r < 0) = false := decide_eq_false h0
 obtain ⟨h1, h2⟩ := hsm yq9
 obtain ⟨hL, hL1, hL2⟩ := lsS_of h1 h2
 have HTL := zaa.mk (ts2_calls hC hc h1 h2)
 obtain ⟨L, hLe⟩ : ∃ L, l.map locOf = L := ⟨_, rfl⟩
 rw [hLe] at hL hL1 hL2 HTL
 obtain ⟨X, hX⟩ : ∃ X, coV L n = X := ⟨_, rfl⟩
 have HX : zaa (X.length ≤ 10) := ⟨by rw [← hX]; exact coV_len _ _⟩
 have HSC : zaa (∀ (A0 : Option Addr) (c0 b : Nat) (o : Nat → Prop) (w1 : World), Kd.R k31 31 w1 b o (.slice A0 L.length c0) L → Calls Tryz.prog 25 #[.slice A0 L.length c0, .string n] w1 fun e w' => ∃ (B : Option Addr) (d : Nat), e = .returned (.slice B X.length d) ∧ Kd.R Kd.string 9 w' w1.heap.size (fun _ => True) (.slice B X.length d) X ∧ Below w1.heap.size w1 w') := ⟨fun A0 c0 b o w1 h => (sco_calls A0 c0 L n w1 (R_sl h).2.2 (R_sl h).2.1 hL HSN.out).mono fun e w' ⟨v, he, hR, hb⟩ => by
  rw [hX] at hR
  obtain ⟨B, d, rfl⟩ := Kd.R_slice hR
  exact ⟨B, d, he, hR, hb⟩⟩
 have HIC : zaa (∀ (A0 : Option Addr) (c0 b : Nat) (o : Nat → Prop) (w1 : World), Below W.heap.size W w1 → Kd.R k31 31 w1 b o (.slice A0 L.length c0) L → Calls Tryz.prog 26 #[.slice A0 L.length c0, .string n] w1 fun e w' => ∃ (B : Option Addr) (d : Nat), e = .returned (.slice B X.length d) ∧ Kd.R Kd.string 9 w' w1.heap.size (fun _ => True) (.slice B X.length d) X ∧ Below w1.heap.size w1 w') := ⟨fun A0 c0 b o w1 hb0 h => (ico_calls A0 c0 L n w1 (R_sl h).2.2 (R_sl h).2.1 (GT_below hG hb0) hL HSN.out).mono fun e w' ⟨v, he, hR, hb⟩ => by
  rw [hX] at hR
  obtain ⟨B, d, rfl⟩ := Kd.R_slice hR
  exact ⟨B, d, he, hR, hb⟩⟩
 have HL1 := zaa.mk hL1; have HL2 := zaa.mk hL2; have HLS := zaa.mk hL
 obtain ⟨Y, hm1, hmY, hm2⟩ := marksS_ev X (yq15 HX.out)
 obtain ⟨m, hm⟩ : ∃ m : Int, 1 + (X.length : Int) = m := ⟨_, rfl⟩
 rw [hm] at hm1 hm2
 have HM1 := zaa.mk hm1; have HM2 := zaa.mk hm2
 have g2 : decide (m < 0) = false := decide_eq_false yq9
 clear hm hm1 hm2 hmY hX hLe h0 hr hsm hn hC hc hG hl hs h1 h2 hL hL1 hL2
 go_enter Tryz.func7, Tryz.ntmps7
 go_wp2_with (first | ((with_reducible refine (held2_calls HM2.out HR5k.out).mono ?_); rintro e w16 ⟨rfl, hb⟩; have HB16 := zaa.mk (zam HB15.out hb); clear hb) | ((with_reducible refine (eqs2_calls HX.out HR14.out HR3l.out).mono ?_); rintro e w15 ⟨rfl, hb⟩; have HR5k := zaa.mk (Kd.za3 HR5j.out hb); have HB15 := zaa.mk (zam HB14.out hb); clear hb) | ((with_reducible refine (HIC.out A13 c13 _ _ _ HB13.out HR13.out).mono ?_); rintro e w14 ⟨A14, c14, rfl, hR, hb⟩; have HR14 := zaa.mk hR; have HR5j := zaa.mk (Kd.za3 HR5i.out hb); have HR3l := zaa.mk (Kd.za3 HR3k.out hb); have HB14 := zaa.mk (zam HB13.out hb); clear hb hR) | ((with_reducible refine (HTL.out _ HB12.out).mono ?_); rintro e w13 ⟨A13, c13, rfl, hR, hb⟩; have HR13 := zaa.mk hR; have HR5i := zaa.mk (Kd.za3 HR5h.out hb); have HR3k := zaa.mk (Kd.za3 HR3j.out hb); have HB13 := zaa.mk (zam HB12.out hb); clear hb hR) | ((with_reducible refine (held2_calls HM2.out HR5g.out).mono ?_); rintro e w12 ⟨rfl, hb⟩; have HR5h := zaa.mk (Kd.za3 HR5g.out hb); have HR3j := zaa.mk (Kd.za3 HR3i.out hb); have HB12 := zaa.mk (zam HB11.out hb); clear hb) | ((with_reducible refine (mark2_calls HM1.out HB10.out HB4.out.size (Nat.le_refl _) HR5f.out).mono ?_); rintro e w11 ⟨rfl, hR, hb, hK⟩; have HR5g := zaa.mk hR; have HR3i := zaa.mk (Kd.R_step HR3h.out (fun k hk h8 => hK.2 k h8 (fun e => by have := hk.2.2.1; have := S4.out; omega))); have HB11 := zaa.mk hb; clear hb hR hK) | ((with_reducible refine (eqs2_calls HX.out HR5e.out HR3g.out).mono ?_); rintro e w10 ⟨rfl, hb⟩; have HR5f := zaa.mk (Kd.za3 HR5e.out hb); have HR3h := zaa.mk (Kd.za3 HR3g.out hb); have HB10 := zaa.mk (zam HB9.out hb); clear hb) | ((with_reducible refine (mkL_calls (.slice A4 L.length c4) L w8 w8 w3.heap.size w3.heap.size w4.heap.size _ (fun k hk => okR_mk hk.2.1 hk.2.2.1 (by obtain ⟨_, _, h3, q, _, cells, hcells⟩ := hk; exact ⟨cells, q, (HE8.out.block k h3).trans hcells⟩)) (Sm.refl HE8.out.size) HR4e.out HLS.out).mono ?_); rintro e w9 ⟨r9, rfl, hr9, hS⟩; have g9 : decide (r9 < 0) = false := decide_eq_false yq9; have HB9 := zaa.mk (hS.bel HB8.out HB3.out.size); have HR3g := zaa.mk (Kd.R_step HR3f.out (fun k hk h8 => hS.out k h8 (fun e => by have := hk.2.2.1; omega))); have HR5e := zaa.mk (Kd.R_step HR5d.out (fun k hk h8 => hS.out k h8 (fun e => by have := hk.2.1; omega))); clear hS hr9) | ((with_reducible refine (eql2_calls HL1.out HL2.out HR4d.out HR7.out).mono ?_); rintro e w8 ⟨rfl, hb⟩; have HR5d := zaa.mk (Kd.za3 HR5c.out hb); have HR3f := zaa.mk (Kd.za3 HR3e.out hb); have HR4e := zaa.mk (Kd.za3 HR4d.out hb); have HB8 := zaa.mk (zam HB7.out hb); have HE8 := zaa.mk (zam HE7.out hb); clear hb) | ((with_reducible refine (HTL.out _ HB6.out).mono ?_); rintro e w7 ⟨A7, c7, rfl, hR, hb⟩; have HR7 := zaa.mk hR; have HR5c := zaa.mk (Kd.za3 HR5b.out hb); have HR3e := zaa.mk (Kd.za3 HR3d.out hb); have HR4d := zaa.mk (Kd.za3 HR4c.out hb); have HB7 := zaa.mk (zam HB6.out hb); have HE7 := zaa.mk (zam HE6.out hb); clear hb hR) | ((with_reducible refine (eqs2_calls HX.out HR5.out HR3c.out).mono ?_); rintro e w6 ⟨rfl, hb⟩; have HR5b := zaa.mk (Kd.za3 HR5.out hb); have HR3d := zaa.mk (Kd.za3 HR3c.out hb); have HR4c := zaa.mk (Kd.za3 HR4b.out hb); have HB6 := zaa.mk (zam HB5.out hb); have HE6 := zaa.mk (zam HE5.out hb); clear hb) | ((with_reducible refine (HIC.out A4 c4 _ _ _ HB4.out HR4.out).mono ?_); rintro e w5 ⟨A5, c5, rfl, hR, hb⟩; have HR5 := zaa.mk (Kd.R_bound hR); have HR3c := zaa.mk (Kd.za3 HR3b.out hb); have HR4b := zaa.mk (Kd.za3 HR4.out hb); have HB5 := zaa.mk (zam HB4.out hb); have HE5 := zaa.mk hb; clear hb hR) | ((with_reducible refine (HTL.out _ HB3.out).mono ?_); rintro e w4 ⟨A4, c4, rfl, hR, hb⟩; have HR4 := zaa.mk (Kd.R_bound hR); have S4 := zaa.mk hb.size; have HR3b := zaa.mk (Kd.za3 HR3.out hb); have HB4 := zaa.mk (zam HB3.out hb); clear hb hR) | ((with_reducible refine (HSC.out A2 c2 _ _ _ HR2.out).mono ?_); rintro e w3 ⟨A3, c3, rfl, hR, hb⟩; have HR3 := zaa.mk (Kd.R_bound hR); have HB3 := zaa.mk (zam HB2.out hb); clear hb hR) | ((with_reducible refine (HTL.out _ HB1.out).mono ?_); rintro e w2 ⟨A2, c2, rfl, hR, hb⟩; have HR2 := zaa.mk hR; have HB2 := zaa.mk (zam HB1.out hb); clear hb hR) | ((with_reducible refine (HSZ.out _ (yq25 HB.out)).mono ?_); rintro e w1 ⟨rfl, hb⟩; have HB1 := zaa.mk (zam (yq25 HB.out) hb); clear hb) | fail)
 go_ret
 exact ⟨rfl, HB16.out⟩
end Go.Proofs.YtfafjbolmeimmaaGreatDoor.P
