/- The marks over rows of plurals and of locales, walked. -/
import Derived.Test.YtfafjbolmeimmaaGreatDoorAb
import Derived.Test.YtfafjbolmeimmaaGreatDoorF23
namespace Go.Proofs.YtfafjbolmeimmaaGreatDoor.P
open Go.RowKit Go.Proofs.YtfafjbolmeimmaaGreatDoorW.PrintWords Go.Proofs.YtfafjbolmeimmaaGreatDoorW.PrintLast Go.Proofs.YtfafjbolmeimmaaGreatDoorW.PrintMore
set_option linter.unusedVariables false
set_option linter.unusedSimpArgs false
set_option maxHeartbeats 4000000 in
set_option maxRecDepth 100000 in
theorem mkP_calls (A : Option Addr) (n c : Nat) (xs : List S58) (k : Int) (W w : World) (lo hi : Nat) (hS : Sm W lo hi w) (hC : Kd.C k58 W A n xs) (hg : Rg W lo hi A) (hn : n ≤ 1073741824) (hk : 0 ≤ k ∧ k ≤ 1152921504606846976) :
  Calls Tryz.prog 66 #[.slice A n c, .int .i64 k] w fun e w' => e = .returned (.int .i64 (k + 2 * n)) ∧ Sm W lo hi w' := by
 have HS := zaa.mk hS; have HC := zaa.mk hC; have HG := zaa.mk hg; have HN := zaa.mk hn; have HK := zaa.mk hk; clear hS hC hg hn hk
 go_enter Tryz.func66, Tryz.ntmps66
 go_wp2_with (fail)
 go_loopg [1, 5] (n + 1) (fun gk v1 v5 wr => ∃ (x y : Int) (i : Nat), v1 = .int .i64 y ∧ v5 = .int .i64 x ∧ zaa (x = (i : Int) ∧ y = k + 2 * i ∧ i ≤ n ∧ n + 1 ≤ gk + i) ∧ zaa (Sm W lo hi wr))
 case atStart => exact ⟨0, k, 0, rfl, rfl, ⟨rfl, yq9, Nat.zero_le _, Nat.le_refl _⟩, HS⟩
 case round =>
  clear HS
  obtain ⟨x, y, i, rfl, rfl, HX, HS⟩ := hrel
  cases gk with
  | zero => exact absurd HX.out.2.2.2 (yq15 HX.out)
  | succ k1 =>
   by_cases hlt : i < n
   case neg =>
    have g1 : decide (x < (n : Int)) = false := decide_eq_false (yq15 HX.out)
    have HV : zaa (y = k + 2 * n) := ⟨yq15 HX.out⟩
    clear hlt
    go_wp2
    go_ret
    exact ⟨by rw [HV.out]; rfl, HS.out⟩
   have g1 : decide (x < (n : Int)) = true := decide_eq_true (yq15 HX.out)
   have g2 : (0 ≤ x) = True := eq_true (yq15 HX.out)
   have g3 : (x < (n : Int)) = True := eq_true (yq15 HX.out)
   obtain ⟨ad, ea, q0, q1⟩ := at_T58 HC.out x (yq15 HX.out) (yq15 HX.out)
   cases ea
   have HO := zaa.mk (HG.out.at (x.toNat * 2))
   have HQ0 := zaa.mk q0; have HQ1 := zaa.mk q1; have HLt := zaa.mk hlt
   have HY : zaa (0 ≤ y ∧ y ≤ 4611686018427387903) := ⟨yq33 HX.out HK.out HN.out⟩
   clear hlt q0 q1
   go_wp2_with (first | ((with_reducible refine (mtx_calls y _ (yq15 HY.out)).mono ?_); rintro e w1 ⟨rfl, hb⟩; have n0_ := zaa.mk (HS.out.below hb); clear HS; obtain ⟨t, q2⟩ := n0_.out.str HQ0.out HO.out; have q3 := n0_.out.fz HO.out; have HS : zaa (Sm W lo hi (w1.setCell (ad.add (x.toNat * 2)) (.string (mtV y)))) := ⟨n0_.out.set HQ0.out HO.out (.str _ _)⟩; clear n0_ hb) | ((obtain ⟨z1, hz1⟩ : ∃ z, wrap64 (y + 1) = z := ⟨_, rfl⟩); rw [hz1]; have HZ1 : zaa (z1 = y + 1) := ⟨by have := HY.out; rw [← hz1, w64 yq9 yq9]⟩; clear hz1; (with_reducible refine (mtx_calls z1 _ (yq19 HZ1.out HY.out)).mono ?_); rintro e w2 ⟨rfl, hb⟩; have n0_ := zaa.mk (HS.out.below hb); clear HS; obtain ⟨t2, q4⟩ := n0_.out.str HQ1.out HO.out; have q5 := n0_.out.fz (a := ⟨(ad.add (x.toNat * 2)).block, (ad.add (x.toNat * 2)).off + 1, none⟩) HO.out; have HS : zaa (Sm W lo hi (w2.setCell ⟨(ad.add (x.toNat * 2)).block, (ad.add (x.toNat * 2)).off + 1, none⟩ (.string (mtV z1)))) := ⟨n0_.out.set HQ1.out HO.out (.str _ _)⟩; clear n0_ hb) | fail)
   go_roundg k1
   case measure => have := HX.out; have := HLt.out; omega
   case rel => exact ⟨_, _, i + 1, rfl, rfl, ⟨by have := HX.out; have := HLt.out; have := HN.out; rw [w64 yq9 yq9]; omega, by have := HX.out; have := HLt.out; have := HN.out; have := HK.out; have := HZ1.out; rw [w64 yq9 yq9]; omega, HLt.out, yq15 HX.out⟩, HS⟩
theorem R_rg {α : Type} {d : Kd α} {e : Nat} {W : World} {base lo hi : Nat} {ok : Nat → Prop} {A : Option Addr} {n c : Nat} {xs : List α} (hok : ∀ k, ok k → okR W lo hi k) (h : d.R e W base ok (.slice A n c) xs) : Rg W lo hi A := fun ad e => by
 subst e
 exact hok _ (h.1 ad.block rfl)
theorem rowR {W : World} {base lo hi : Nat} {ok : Nat → Prop} {v : Value} {l : List S31} (hok : ∀ k, ok k → okR W lo hi k) (h : Kd.R k31 31 W base ok v l) (x : Int) (h0 : 0 ≤ x) (h1 : x < l.length) :
  ∃ ad c A5 c5 A7 c7 A12 c12 A13 c13, v = .slice (some ad) l.length c ∧ okR W lo hi ad.block ∧ RowAt W ad (x.toNat * 15) (zao l x) A5 c5 A7 c7 A12 c12 A13 c13 ∧ Rg W lo hi A5 ∧ Rg W lo hi A7 ∧ Rg W lo hi A12 ∧ Rg W lo hi A13 := by
 obtain ⟨A, c, he, hl, hr⟩ := OwnRow.reads h.2
 obtain ⟨ad, cs, e, _, hM, hc⟩ := ReadsRow.get_ hr z31 x h0 h1
 subst e
 obtain ⟨A_, c_, he_, _, hC⟩ := Kd.R_reads h
 rw [he] at he_
 cases he_
 obtain ⟨ad2, A5, c5, A7, c7, A12, c12, A13, c13, e2, RW⟩ := row_at hC x h0 h1
 cases e2
 obtain ⟨v5, v7, v12, v13, rfl, g5, g7, g12, g13⟩ := k31_openM hM
 have hok2 : ∀ k, (ok k ∧ some k ≠ v.ownBlock) → okR W lo hi k := fun k hk => hok k hk.1
 have p5 : W.cell? ⟨(ad.add (x.toNat * 15)).block, (ad.add (x.toNat * 15)).off + 5, none⟩ = some v5 := by rw [← zaW _ _ 5 yq9]; exact hc 5 _ rfl
 have p7 : W.cell? ⟨(ad.add (x.toNat * 15)).block, (ad.add (x.toNat * 15)).off + 7, none⟩ = some v7 := by rw [← zaW _ _ 7 yq9]; exact hc 7 _ rfl
 have p12 : W.cell? ⟨(ad.add (x.toNat * 15)).block, (ad.add (x.toNat * 15)).off + 12, none⟩ = some v12 := by rw [← zaW _ _ 12 yq9]; exact hc 12 _ rfl
 have p13 : W.cell? ⟨(ad.add (x.toNat * 15)).block, (ad.add (x.toNat * 15)).off + 13, none⟩ = some v13 := by rw [← zaW _ _ 13 yq9]; exact hc 13 _ rfl
 cases Option.some.inj (RW.x5.symm.trans p5)
 cases Option.some.inj (RW.x7.symm.trans p7)
 cases Option.some.inj (RW.x12.symm.trans p12)
 cases Option.some.inj (RW.x13.symm.trans p13)
 exact ⟨ad, c, A5, c5, A7, c7, A12, c12, A13, c13, he, hok _ (h.1 ad.block (by rw [he]; rfl)), RW, R_rg hok2 g5, R_rg hok2 g7, R_rg hok2 g12, R_rg hok2 g13⟩
theorem sm_lens {x : S31} (h : smLB x = true) : x.f5.length ≤ 1073741824 ∧ x.f7.length ≤ 1073741824 ∧ x.f12.length ≤ 1073741824 ∧ x.f13.length ≤ 1073741824 := by
 unfold smLB smallLoc at h
 simp only [Bool.and_eq_true, decide_eq_true_eq] at h
 obtain ⟨⟨⟨⟨⟨⟨⟨_, h5⟩, h7⟩, _⟩, h12⟩, _⟩, h13⟩, _⟩ := h
 exact ⟨h5, h7, h12, h13⟩
set_option maxHeartbeats 8000000 in
set_option maxRecDepth 100000 in
theorem mkL_calls (v : Value) (l : List S31) (W w : World) (base lo hi : Nat) (ok : Nat → Prop) (hok : ∀ k, ok k → okR W lo hi k) (hS : Sm W lo hi w) (hR : Kd.R k31 31 W base ok v l) (hs : lsS l = true) :
  Calls Tryz.prog 27 #[v, .int .i64 1] w fun e w' => ∃ r : Int, e = .returned (.int .i64 r) ∧ 0 ≤ r ∧ Sm W lo hi w' := by
 obtain ⟨A, c, rfl⟩ := Kd.R_slice hR
 have HS := zaa.mk hS; have HR := zaa.mk hR; have HK := zaa.mk hok; have HSM := zaa.mk hs
 have HN := zaa.mk (lsS_len hs)
 clear hS hR hok hs
 go_enter Tryz.func27, Tryz.ntmps27
 go_wp2_with (fail)
 go_loopg [1, 5] (l.length + 1) (fun gk v1 v5 wr => ∃ (x y : Int) (i : Nat), v1 = .int .i64 y ∧ v5 = .int .i64 x ∧ zaa (x = (i : Int) ∧ (0 ≤ y ∧ y ≤ 1 + 8589934592 * i) ∧ i ≤ l.length ∧ l.length + 1 ≤ gk + i) ∧ zaa (Sm W lo hi wr))
 case atStart => exact ⟨0, 1, 0, rfl, rfl, ⟨rfl, yq9, Nat.zero_le _, Nat.le_refl _⟩, HS⟩
 case round =>
  clear HS
  obtain ⟨x, y, i, rfl, rfl, HX, HS⟩ := hrel
  cases gk with
  | zero => exact absurd HX.out.2.2.2 (yq15 HX.out)
  | succ k1 =>
   by_cases hlt : i < l.length
   case neg =>
    have g1 : decide (x < (l.length : Int)) = false := decide_eq_false (yq15 HX.out)
    clear hlt
    go_wp2
    go_ret
    exact ⟨_, rfl, HX.out.2.1.1, HS.out⟩
   have g1 : decide (x < (l.length : Int)) = true := decide_eq_true (yq15 HX.out)
   have g2 : (0 ≤ x) = True := eq_true (yq15 HX.out)
   have g3 : (x < (l.length : Int)) = True := eq_true (yq15 HX.out)
   obtain ⟨ad, c_, A5, c5, A7, c7, A12, c12, A13, c13, ea, ho, RW, hg5, hg7, hg12, hg13⟩ := rowR HK.out HR.out x (yq15 HX.out) (yq15 HX.out)
   cases ea
   have hl5 := sm_lens (smL_at HSM.out hlt)
   rw [← HX.out.1] at hl5
   obtain ⟨y0, hy0⟩ : ∃ y0, zao l x = y0 := ⟨_, rfl⟩
   rw [hy0] at RW hl5
   have HO : zaa (okR W lo hi (ad.add (x.toNat * 15)).block) := ⟨by rw [add_blk]; exact ho⟩
   have HRC := zaa.mk RW; have HL5 := zaa.mk hl5; have G5 := zaa.mk hg5; have G7 := zaa.mk hg7; have G12 := zaa.mk hg12; have G13 := zaa.mk hg13; have X0 := zaa.mk RW.x0; have X1 := zaa.mk RW.x1; have X2 := zaa.mk RW.x2; have X3 := zaa.mk RW.x3; have X4 := zaa.mk RW.x4; have X5 := zaa.mk RW.x5; have X6 := zaa.mk RW.x6; have X7 := zaa.mk RW.x7; have X8 := zaa.mk RW.x8; have X9 := zaa.mk RW.x9; have X10 := zaa.mk RW.x10; have X11 := zaa.mk RW.x11; have X12 := zaa.mk RW.x12; have X13 := zaa.mk RW.x13; have X14 := zaa.mk RW.x14; have HLt := zaa.mk hlt
   have HY : zaa (0 ≤ y ∧ y ≤ 9007199254741995) := ⟨yq19 HX.out HN.out⟩
   clear hlt RW hl5 hg5 hg7 hg12 hg13 ho hy0
   go_wp2_with (first | ((with_reducible refine (mtx_calls y _ (by have := HY.out; have := HY.out; omega)).mono ?_); rintro e w_0 ⟨rfl, hb⟩; have n0_ := zaa.mk (HS.out.below hb); clear HS; obtain ⟨t0, q0⟩ := n0_.out.str X0.out HO.out; have f0 := n0_.out.fz (a := (ad.add (x.toNat * 15))) HO.out; have HS : zaa (Sm W lo hi (w_0.setCell (ad.add (x.toNat * 15)) (.string (mtV y)))) := ⟨n0_.out.set X0.out HO.out (.str _ _)⟩; clear n0_ hb) | ((obtain ⟨z1, hz1⟩ : ∃ z, wrap64 (y + 1) = z := ⟨_, rfl⟩); rw [hz1]; have HZ1 : zaa (0 ≤ z1 ∧ z1 ≤ y + 1) := ⟨by have := HY.out; have := HY.out; have := HL5.out; rw [← hz1]; rw [w64 yq9 yq9]; omega⟩; clear hz1; (with_reducible refine (mtx_calls z1 _ (yq19 HZ1.out HY.out)).mono ?_); rintro e w_1 ⟨rfl, hb⟩; have n0_ := zaa.mk (HS.out.below hb); clear HS; obtain ⟨t1, q1⟩ := n0_.out.str X1.out HO.out; have f1 := n0_.out.fz (a := ⟨(ad.add (x.toNat * 15)).block, (ad.add (x.toNat * 15)).off + 1, none⟩) HO.out; have HS : zaa (Sm W lo hi (w_1.setCell ⟨(ad.add (x.toNat * 15)).block, (ad.add (x.toNat * 15)).off + 1, none⟩ (.string (mtV z1)))) := ⟨n0_.out.set X1.out HO.out (.str _ _)⟩; clear n0_ hb) | ((obtain ⟨z2, hz2⟩ : ∃ z, wrap64 (z1 + 1) = z := ⟨_, rfl⟩); rw [hz2]; have HZ2 : zaa (0 ≤ z2 ∧ z2 ≤ y + 2) := ⟨by have := HZ1.out; have := HY.out; have := HL5.out; rw [← hz2]; rw [w64 yq9 yq9]; omega⟩; clear hz2; (with_reducible refine (mtx_calls z2 _ (yq19 HZ2.out HY.out)).mono ?_); rintro e w_2 ⟨rfl, hb⟩; have n0_ := zaa.mk (HS.out.below hb); clear HS; obtain ⟨t2, q2⟩ := n0_.out.str X2.out HO.out; have f2 := n0_.out.fz (a := ⟨(ad.add (x.toNat * 15)).block, (ad.add (x.toNat * 15)).off + 2, none⟩) HO.out; have HS : zaa (Sm W lo hi (w_2.setCell ⟨(ad.add (x.toNat * 15)).block, (ad.add (x.toNat * 15)).off + 2, none⟩ (.string (mtV z2)))) := ⟨n0_.out.set X2.out HO.out (.str _ _)⟩; clear n0_ hb) | ((obtain ⟨z3, hz3⟩ : ∃ z, wrap64 (z2 + 1) = z := ⟨_, rfl⟩); rw [hz3]; have HZ3 : zaa (0 ≤ z3 ∧ z3 ≤ y + 3) := ⟨by have := HZ2.out; have := HY.out; have := HL5.out; rw [← hz3]; rw [w64 yq9 yq9]; omega⟩; clear hz3; (with_reducible refine (mtx_calls z3 _ (yq19 HZ3.out HY.out)).mono ?_); rintro e w_3 ⟨rfl, hb⟩; have n0_ := zaa.mk (HS.out.below hb); clear HS; obtain ⟨t3, q3⟩ := n0_.out.str X3.out HO.out; have f3 := n0_.out.fz (a := ⟨(ad.add (x.toNat * 15)).block, (ad.add (x.toNat * 15)).off + 3, none⟩) HO.out; have HS : zaa (Sm W lo hi (w_3.setCell ⟨(ad.add (x.toNat * 15)).block, (ad.add (x.toNat * 15)).off + 3, none⟩ (.string (mtV z3)))) := ⟨n0_.out.set X3.out HO.out (.str _ _)⟩; clear n0_ hb) | ((obtain ⟨z4, hz4⟩ : ∃ z, wrap64 (z3 + 1) = z := ⟨_, rfl⟩); rw [hz4]; have HZ4 : zaa (0 ≤ z4 ∧ z4 ≤ y + 4) := ⟨by have := HZ3.out; have := HY.out; have := HL5.out; rw [← hz4]; rw [w64 yq9 yq9]; omega⟩; clear hz4; (with_reducible refine (mtx_calls z4 _ (yq19 HZ4.out HY.out)).mono ?_); rintro e w_4 ⟨rfl, hb⟩; have n0_ := zaa.mk (HS.out.below hb); clear HS; obtain ⟨t4, q4⟩ := n0_.out.str X4.out HO.out; have f4 := n0_.out.fz (a := ⟨(ad.add (x.toNat * 15)).block, (ad.add (x.toNat * 15)).off + 4, none⟩) HO.out; have HS : zaa (Sm W lo hi (w_4.setCell ⟨(ad.add (x.toNat * 15)).block, (ad.add (x.toNat * 15)).off + 4, none⟩ (.string (mtV z4)))) := ⟨n0_.out.set X4.out HO.out (.str _ _)⟩; have r4 := HS.out.sl X5.out HO.out; clear n0_ hb) | ((obtain ⟨z5, hz5⟩ : ∃ z, wrap64 (z4 + 1) = z := ⟨_, rfl⟩); rw [hz5]; have HZ5 : zaa (0 ≤ z5 ∧ z5 ≤ y + 5) := ⟨by have := HZ4.out; have := HY.out; have := HL5.out; rw [← hz5]; rw [w64 yq9 yq9]; omega⟩; clear hz5; (with_reducible refine (mkI_calls A5 y0.f5.length c5 y0.f5 z5 W _ lo hi HS.out HRC.out.r5 G5.out HL5.out.1 (yq19 HZ5.out HY.out)).mono ?_); rintro e w_5 ⟨rfl, hb⟩; have n0_ := zaa.mk hb; clear HS; obtain ⟨t5, q5⟩ := n0_.out.int X6.out HO.out; have f5 := n0_.out.fz (a := ⟨(ad.add (x.toNat * 15)).block, (ad.add (x.toNat * 15)).off + 6, none⟩) HO.out; have HS : zaa (Sm W lo hi (w_5.setCell ⟨(ad.add (x.toNat * 15)).block, (ad.add (x.toNat * 15)).off + 6, none⟩ (.int .i64 (z5 + y0.f5.length)))) := ⟨n0_.out.set X6.out HO.out (.int _ _)⟩; have r5 := HS.out.sl X7.out HO.out; clear n0_ hb) | ((obtain ⟨z6, hz6⟩ : ∃ z, wrap64 (z5 + y0.f5.length + 1) = z := ⟨_, rfl⟩); rw [hz6]; have HZ6 : zaa (0 ≤ z6 ∧ z6 ≤ y + 1073741830) := ⟨by have := HZ5.out; have := HY.out; have := HL5.out; rw [← hz6]; rw [w64 yq9 yq9]; omega⟩; clear hz6; (with_reducible refine (mkP_calls A7 y0.f7.length c7 y0.f7 z6 W _ lo hi HS.out HRC.out.r7 G7.out HL5.out.2.1 (yq19 HZ6.out HY.out)).mono ?_); rintro e w_6 ⟨rfl, hb⟩; have n0_ := zaa.mk hb; clear HS; have HS := zaa.mk hb; clear n0_ hb) | ((obtain ⟨z7, hz7⟩ : ∃ z, z6 + 2 * y0.f7.length = z := ⟨_, rfl⟩); rw [hz7]; have HZ7 : zaa (0 ≤ z7 ∧ z7 ≤ y + 3221225478) := ⟨by have := HZ6.out; have := HY.out; have := HL5.out; rw [← hz7]; omega⟩; clear hz7; (with_reducible refine (mtx_calls z7 _ (yq19 HZ7.out HY.out)).mono ?_); rintro e w_7 ⟨rfl, hb⟩; have n0_ := zaa.mk (HS.out.below hb); clear HS; obtain ⟨t7, q7⟩ := n0_.out.str X8.out HO.out; have f7 := n0_.out.fz (a := ⟨(ad.add (x.toNat * 15)).block, (ad.add (x.toNat * 15)).off + 8, none⟩) HO.out; have HS : zaa (Sm W lo hi (w_7.setCell ⟨(ad.add (x.toNat * 15)).block, (ad.add (x.toNat * 15)).off + 8, none⟩ (.string (mtV z7)))) := ⟨n0_.out.set X8.out HO.out (.str _ _)⟩; clear n0_ hb) | ((obtain ⟨z8, hz8⟩ : ∃ z, wrap64 (z7 + 1) = z := ⟨_, rfl⟩); rw [hz8]; have HZ8 : zaa (0 ≤ z8 ∧ z8 ≤ y + 3221225479) := ⟨by have := HZ7.out; have := HY.out; have := HL5.out; rw [← hz8]; rw [w64 yq9 yq9]; omega⟩; clear hz8; (with_reducible refine (mtx_calls z8 _ (yq19 HZ8.out HY.out)).mono ?_); rintro e w_8 ⟨rfl, hb⟩; have n0_ := zaa.mk (HS.out.below hb); clear HS; obtain ⟨t8, q8⟩ := n0_.out.str X9.out HO.out; have f8 := n0_.out.fz (a := ⟨(ad.add (x.toNat * 15)).block, (ad.add (x.toNat * 15)).off + 9, none⟩) HO.out; have HS : zaa (Sm W lo hi (w_8.setCell ⟨(ad.add (x.toNat * 15)).block, (ad.add (x.toNat * 15)).off + 9, none⟩ (.string (mtV z8)))) := ⟨n0_.out.set X9.out HO.out (.str _ _)⟩; clear n0_ hb) | ((obtain ⟨z9, hz9⟩ : ∃ z, wrap64 (z8 + 1) = z := ⟨_, rfl⟩); rw [hz9]; have HZ9 : zaa (0 ≤ z9 ∧ z9 ≤ y + 3221225480) := ⟨by have := HZ8.out; have := HY.out; have := HL5.out; rw [← hz9]; rw [w64 yq9 yq9]; omega⟩; clear hz9; (with_reducible refine (mtx_calls z9 _ (yq19 HZ9.out HY.out)).mono ?_); rintro e w_9 ⟨rfl, hb⟩; have n0_ := zaa.mk (HS.out.below hb); clear HS; obtain ⟨t9, q9⟩ := n0_.out.str X10.out HO.out; have f9 := n0_.out.fz (a := ⟨(ad.add (x.toNat * 15)).block, (ad.add (x.toNat * 15)).off + 10, none⟩) HO.out; have HS : zaa (Sm W lo hi (w_9.setCell ⟨(ad.add (x.toNat * 15)).block, (ad.add (x.toNat * 15)).off + 10, none⟩ (.string (mtV z9)))) := ⟨n0_.out.set X10.out HO.out (.str _ _)⟩; clear n0_ hb) | ((obtain ⟨z10, hz10⟩ : ∃ z, wrap64 (z9 + 1) = z := ⟨_, rfl⟩); rw [hz10]; have HZ10 : zaa (0 ≤ z10 ∧ z10 ≤ y + 3221225481) := ⟨by have := HZ9.out; have := HY.out; have := HL5.out; rw [← hz10]; rw [w64 yq9 yq9]; omega⟩; clear hz10; (with_reducible refine (mtx_calls z10 _ (yq19 HZ10.out HY.out)).mono ?_); rintro e w_10 ⟨rfl, hb⟩; have n0_ := zaa.mk (HS.out.below hb); clear HS; obtain ⟨t10, q10⟩ := n0_.out.str X11.out HO.out; have f10 := n0_.out.fz (a := ⟨(ad.add (x.toNat * 15)).block, (ad.add (x.toNat * 15)).off + 11, none⟩) HO.out; have HS : zaa (Sm W lo hi (w_10.setCell ⟨(ad.add (x.toNat * 15)).block, (ad.add (x.toNat * 15)).off + 11, none⟩ (.string (mtV z10)))) := ⟨n0_.out.set X11.out HO.out (.str _ _)⟩; have r10 := HS.out.sl X12.out HO.out; clear n0_ hb) | ((obtain ⟨z11, hz11⟩ : ∃ z, wrap64 (z10 + 1) = z := ⟨_, rfl⟩); rw [hz11]; have HZ11 : zaa (0 ≤ z11 ∧ z11 ≤ y + 3221225482) := ⟨by have := HZ10.out; have := HY.out; have := HL5.out; rw [← hz11]; rw [w64 yq9 yq9]; omega⟩; clear hz11; (with_reducible refine (mkS_calls A12 y0.f12.length c12 y0.f12 z11 W _ lo hi HS.out HRC.out.r12 G12.out HL5.out.2.2.1 (yq19 HZ11.out HY.out)).mono ?_); rintro e w_11 ⟨rfl, hb⟩; have n0_ := zaa.mk hb; clear HS; have HS := zaa.mk hb; have r11 := HS.out.sl X13.out HO.out; clear n0_ hb) | ((obtain ⟨z12, hz12⟩ : ∃ z, z11 + y0.f12.length = z := ⟨_, rfl⟩); rw [hz12]; have HZ12 : zaa (0 ≤ z12 ∧ z12 ≤ y + 4294967306) := ⟨by have := HZ11.out; have := HY.out; have := HL5.out; rw [← hz12]; omega⟩; clear hz12; (with_reducible refine (mkS_calls A13 y0.f13.length c13 y0.f13 z12 W _ lo hi HS.out HRC.out.r13 G13.out HL5.out.2.2.2 (yq19 HZ12.out HY.out)).mono ?_); rintro e w_12 ⟨rfl, hb⟩; have n0_ := zaa.mk hb; clear HS; have HS := zaa.mk hb; clear n0_ hb) | ((obtain ⟨z13, hz13⟩ : ∃ z, z12 + y0.f13.length = z := ⟨_, rfl⟩); rw [hz13]; have HZ13 : zaa (0 ≤ z13 ∧ z13 ≤ y + 5368709130) := ⟨by have := HZ12.out; have := HY.out; have := HL5.out; rw [← hz13]; omega⟩; clear hz13; (with_reducible refine (mtx_calls z13 _ (yq19 HZ13.out HY.out)).mono ?_); rintro e w_13 ⟨rfl, hb⟩; have n0_ := zaa.mk (HS.out.below hb); clear HS; obtain ⟨t13, q13⟩ := n0_.out.str X14.out HO.out; have f13 := n0_.out.fz (a := ⟨(ad.add (x.toNat * 15)).block, (ad.add (x.toNat * 15)).off + 14, none⟩) HO.out; have HS : zaa (Sm W lo hi (w_13.setCell ⟨(ad.add (x.toNat * 15)).block, (ad.add (x.toNat * 15)).off + 14, none⟩ (.string (mtV z13)))) := ⟨n0_.out.set X14.out HO.out (.str _ _)⟩; clear n0_ hb) | fail)
   go_roundg k1
   case measure => have := HX.out; have := HLt.out; omega
   case rel => exact ⟨_, _, i + 1, rfl, rfl, ⟨by have := HX.out; have := HLt.out; have := HN.out; rw [w64 yq9 yq9]; omega, by have := HX.out; have := HLt.out; have := HN.out; have := HZ13.out; have := HY.out; rw [w64 yq9 yq9]; omega, HLt.out, yq15 HX.out⟩, HS⟩
end Go.Proofs.YtfafjbolmeimmaaGreatDoor.P
