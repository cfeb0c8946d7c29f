/- spec.LocaleFault, walked: stage D. -/
import Derived.Test.YtfafjbolmeimmaaGreatDoorAb
import Derived.Test.YtfafjbolmeimmaaGreatDoorF19
import Derived.Deep.CutBlock
import Derived.Test.YtfafjbolmeimmaaGreatDoorF10
namespace Go.Proofs.YtfafjbolmeimmaaGreatDoor.P
open Go.RowKit Go.Proofs.YtfafjbolmeimmaaGreatDoorW.PrintWords Go.Proofs.YtfafjbolmeimmaaGreatDoorW.PrintLast Go.Proofs.YtfafjbolmeimmaaGreatDoorW.PrintMore
set_option linter.unusedVariables false
set_option linter.unusedSimpArgs false
variable {a0_0 a0_1 a0_2 a0_3 a0_4 : ByteArray} {A0_5 : Option Addr} {c0_5 : Nat} {l0_5 : List Int} {a0_6 : Int} {A0_7 : Option Addr} {c0_7 : Nat} {l0_7 : List S58} {a0_8 a0_9 a0_10 a0_11 : ByteArray} {A0_12 : Option Addr} {c0_12 : Nat} {l0_12 : List ByteArray} {A0_13 : Option Addr} {c0_13 : Nat} {l0_13 : List ByteArray} {a0_14 : ByteArray} {w wc : World} {gb : Nat}
def zaF.T14 : Bool × List (List Nat × List Nat) := (true, [([], []), ([0], [0]), ([1], [1]), ([2], [2]), ([3, 2], [3]), ([4], [4]), ([5, 4], [4, 5]), ([6, 4], [4, 6]), ([4, 7], [4, 7]), ([8, 4], [8]), ([9], [9]), ([10, 9], [9, 10]), ([11, 9, 9], [9, 11]), ([12], [12]), ([13, 12], [12, 13]), ([12], [12]), ([15, 12], [12, 15]), ([14, 16, 12], [12, 14, 16]), ([17, 12], [12, 17]), ([18, 12], [12, 18]), ([12], [12]), ([20, 12], [12, 20]), ([19, 21, 12], [12, 19, 21]), ([12, 22, 9], [9, 12, 22]), ([9, 23], [9, 23]), ([24, 12], [24]), ([25], [25]), ([26, 25], [25, 26]), ([27, 25, 25], [25, 27]), ([28, 25], [25, 28]), ([25, 29], [25, 29])])
def zaF.B14 : List Nat := [0, 1, 3, 7, 15, 31, 63, 127, 255, 511, 1023, 2047, 4095, 8191, 16383, 8191, 40959, 131071, 262143, 524287, 8191, 1056767, 4194303, 8388607, 16777215, 33554431, 67108863, 134217727, 268435455, 536870911, 1073741823]
theorem zaF.tab14 : rtab .any (opsOf Tryz.f9 14) = zaF.T14 := by kernel_rfl
theorem zaF.bits14 : waitsOk zaF.T14.2 zaF.B14 = true := by kernel_rfl
set_option maxHeartbeats 8000000 in
set_option maxRecDepth 1000000 in
theorem lg_D {x2 x3 x4 x5 x6 x7 x8 x9 x10 x11 x12 x13 x14 x15 x16 x17 x18 x19 x20 x21 x22 x23 x24 x25 x26 x27 x28 x29 x30 x31 x32 x33 x34 x35 x36 x37 x38 x39 x40 x41 x42 x43 x44 x45 x46 x47 x48 x49 x50 x51 x52 x53 x54 x55 x56 x57 x58 x59 x60 x61 x62 x63 x64 x65 x66 x67 x68 x69 x70 x71 x72 x73 x74 x75 x76 x77 x78 x79 x80 x81 x82 x83 x84 x85 x86 x87 x88 x89 x90 x91 x92 x93 x94 x95 x96 x97 x98 x99 x100 x101 x102 x103 x104 x105 x106 x107 x108 x109 x110 x111 x112 x113 x114 x115 x116 x117 x118 x119 x120 x121 x122 x123 x124 x125 x126 x127 x128 x129 x130 x131 x132 x133 x134 x135 x136 x137 x138 x139 x140 x141 x142 x143 x144 x145 x146 x147 x148 x149 x150 x151 x152 x153 x154 x155 x156 x157 x158 x159 x160 x161 x162 x163 x164 x165 x166 x167 x168 x169 x170 x171 x172 x173 x174 x175 x176 x177 x178 x179 x180 x181 x182 x183 x184 x185 x186 : Value} {r : Int} (SM : zaa (smallLoc a0_0 a0_1 a0_2 a0_3 a0_4 l0_5 l0_7 a0_8 a0_9 a0_10 a0_11 l0_12 l0_13 a0_14 = true)) (HR7l : zaa (Kd.C k58 w A0_7 l0_7.length l0_7)) (L : zaa (LS w wc gb (locV a0_0 a0_1 a0_2 a0_3 a0_4 (.slice A0_5 l0_5.length c0_5) a0_6 (.slice A0_7 l0_7.length c0_7) a0_8 a0_9 a0_10 a0_11 (.slice A0_12 l0_12.length c0_12) (.slice A0_13 l0_13.length c0_13) a0_14)))
  (h1 : plFrom l0_7 0 = false → r = 1) (Q : Exit → Act → World → Prop) (hR : ∀ a w', Q .ret a w' = bodyPost Tryz.prog Tryz.f9 (fun e w' => e = .returned (.int .i64 r) ∧ Below w.heap.size w w') .ret a w') (HP : zaa (∀ c a n v w, Q (.panic c) (a.put n v) w → Q (.panic c) a w))
  (hQ : ∀ ⦃y2 y3 y4 y5 y6 y7 y8 y9 y10 y11 y12 y13 y14 y15 y16 y17 y18 y19 y20 y21 y22 y23 y24 y25 y26 y27 y28 y29 y30 y31 y32 y33 y34 y35 y36 y37 y38 y39 y40 y41 y42 y43 y44 y45 y46 y47 y48 y49 y50 y51 y52 y53 y54 y55 y56 y57 y58 y59 y60 y61 y62 y63 y64 y65 y66 y67 y68 y69 y70 y71 y72 y73 y74 y75 y76 y77 y78 y79 y80 y81 y82 y83 y84 y85 y86 y87 y88 y89 y90 y91 y92 y93 y94 y95 y96 y97 y98 y99 y100 y101 y102 y103 y104 y105 y106 y107 y108 y109 y110 y111 y112 y113 y114 y115 y116 y117 y118 y119 y120 y121 y122 y123 y124 y125 y126 y127 y128 y129 y130 y131 y132 y133 y134 y135 y136 y137 y138 y139 y140 y141 y142 y143 y144 y145 y146 y147 y148 y149 y150 y151 y152 y153 y154 y155 y156 y157 y158 y159 y160 y161 y162 y163 y164 y165 y166 y167 y168 y169 y170 y171 y172 y173 y174 y175 y176 y177 y178 y179 y180 y181 y182 y183 y184 y185 y186 : Value⦄ ⦃w' : World⦄, plFrom l0_7 0 = true → zaa (LS w w' gb (locV a0_0 a0_1 a0_2 a0_3 a0_4 (.slice A0_5 l0_5.length c0_5) a0_6 (.slice A0_7 l0_7.length c0_7) a0_8 a0_9 a0_10 a0_11 (.slice A0_12 l0_12.length c0_12) (.slice A0_13 l0_13.length c0_13) a0_14)) → Q .normal ⟨((.agg #[.string a0_0, .string a0_1, .string a0_2, .string a0_3, .string a0_4, .slice A0_5 l0_5.length c0_5, .int .i64 a0_6, .slice A0_7 l0_7.length c0_7, .string a0_8, .string a0_9, .string a0_10, .string a0_11, .slice A0_12 l0_12.length c0_12, .slice A0_13 l0_13.length c0_13, .string a0_14]) :: (.pointer (some ⟨gb, 0, none⟩)) :: y2 :: y3 :: y4 :: y5 :: y6 :: y7 :: y8 :: y9 :: y10 :: y11 :: y12 :: y13 :: y14 :: y15 :: y16 :: y17 :: y18 :: y19 :: y20 :: y21 :: y22 :: y23 :: y24 :: y25 :: y26 :: y27 :: y28 :: y29 :: y30 :: y31 :: y32 :: y33 :: y34 :: y35 :: y36 :: y37 :: y38 :: y39 :: y40 :: y41 :: y42 :: y43 :: y44 :: y45 :: y46 :: y47 :: y48 :: y49 :: y50 :: y51 :: y52 :: y53 :: y54 :: y55 :: y56 :: y57 :: y58 :: y59 :: y60 :: y61 :: y62 :: y63 :: y64 :: y65 :: y66 :: y67 :: y68 :: y69 :: y70 :: y71 :: y72 :: y73 :: y74 :: y75 :: y76 :: y77 :: y78 :: y79 :: y80 :: y81 :: y82 :: y83 :: y84 :: y85 :: y86 :: y87 :: y88 :: y89 :: y90 :: y91 :: y92 :: y93 :: y94 :: y95 :: y96 :: y97 :: y98 :: y99 :: y100 :: y101 :: y102 :: y103 :: y104 :: y105 :: y106 :: y107 :: y108 :: y109 :: y110 :: y111 :: y112 :: y113 :: y114 :: y115 :: y116 :: y117 :: y118 :: y119 :: y120 :: y121 :: y122 :: y123 :: y124 :: y125 :: y126 :: y127 :: y128 :: y129 :: y130 :: y131 :: y132 :: y133 :: y134 :: y135 :: y136 :: y137 :: y138 :: y139 :: y140 :: y141 :: y142 :: y143 :: y144 :: y145 :: y146 :: y147 :: y148 :: y149 :: y150 :: y151 :: y152 :: y153 :: y154 :: y155 :: y156 :: y157 :: y158 :: y159 :: y160 :: y161 :: y162 :: y163 :: y164 :: y165 :: y166 :: y167 :: y168 :: y169 :: y170 :: y171 :: y172 :: y173 :: y174 :: y175 :: y176 :: y177 :: y178 :: y179 :: y180 :: y181 :: y182 :: y183 :: y184 :: y185 :: y186 :: []).toArray, []⟩ w') :
  Code.wp Tryz.prog (lgCode 4) Q ⟨((.agg #[.string a0_0, .string a0_1, .string a0_2, .string a0_3, .string a0_4, .slice A0_5 l0_5.length c0_5, .int .i64 a0_6, .slice A0_7 l0_7.length c0_7, .string a0_8, .string a0_9, .string a0_10, .string a0_11, .slice A0_12 l0_12.length c0_12, .slice A0_13 l0_13.length c0_13, .string a0_14]) :: (.pointer (some ⟨gb, 0, none⟩)) :: x2 :: x3 :: x4 :: x5 :: x6 :: x7 :: x8 :: x9 :: x10 :: x11 :: x12 :: x13 :: x14 :: x15 :: x16 :: x17 :: x18 :: x19 :: x20 :: x21 :: x22 :: x23 :: x24 :: x25 :: x26 :: x27 :: x28 :: x29 :: x30 :: x31 :: x32 :: x33 :: x34 :: x35 :: x36 :: x37 :: x38 :: x39 :: x40 :: x41 :: x42 :: x43 :: x44 :: x45 :: x46 :: x47 :: x48 :: x49 :: x50 :: x51 :: x52 :: x53 :: x54 :: x55 :: x56 :: x57 :: x58 :: x59 :: x60 :: x61 :: x62 :: x63 :: x64 :: x65 :: x66 :: x67 :: x68 :: x69 :: x70 :: x71 :: x72 :: x73 :: x74 :: x75 :: x76 :: x77 :: x78 :: x79 :: x80 :: x81 :: x82 :: x83 :: x84 :: x85 :: x86 :: x87 :: x88 :: x89 :: x90 :: x91 :: x92 :: x93 :: x94 :: x95 :: x96 :: x97 :: x98 :: x99 :: x100 :: x101 :: x102 :: x103 :: x104 :: x105 :: x106 :: x107 :: x108 :: x109 :: x110 :: x111 :: x112 :: x113 :: x114 :: x115 :: x116 :: x117 :: x118 :: x119 :: x120 :: x121 :: x122 :: x123 :: x124 :: x125 :: x126 :: x127 :: x128 :: x129 :: x130 :: x131 :: x132 :: x133 :: x134 :: x135 :: x136 :: x137 :: x138 :: x139 :: x140 :: x141 :: x142 :: x143 :: x144 :: x145 :: x146 :: x147 :: x148 :: x149 :: x150 :: x151 :: x152 :: x153 :: x154 :: x155 :: x156 :: x157 :: x158 :: x159 :: x160 :: x161 :: x162 :: x163 :: x164 :: x165 :: x166 :: x167 :: x168 :: x169 :: x170 :: x171 :: x172 :: x173 :: x174 :: x175 :: x176 :: x177 :: x178 :: x179 :: x180 :: x181 :: x182 :: x183 :: x184 :: x185 :: x186 :: []).toArray, []⟩ wc := by
 have HQ := zaa.mk hQ; have HR := zaa.mk hR; have H1 := zaa.mk h1; clear hQ hR h1
 conv => arg 2; whnf
 obtain ⟨⟨s0, s1, s2, s3, s4, s8, s9, s10, s11, s14⟩, t5, t7, q7, t12, q12, t13, q13⟩ := small_parts' SM.out
 have T7 := zaa.mk t7; have Q7 := zaa.mk q7; clear SM s0 s1 s2 s3 s4 s8 s9 s10 s11 s14 t5 t7 q7 t12 q12 t13 q13
 go_wp2
 go_loopg [4] (l0_7.length + 1) (fun gk v4 wr => ∃ i : Nat, v4 = .int .i64 (i : Int) ∧ zaa (i ≤ l0_7.length ∧ l0_7.length - i + 1 ≤ gk) ∧ zaa (plFrom l0_7 0 = plFrom l0_7 i) ∧ zaa (LS w wr gb (locV a0_0 a0_1 a0_2 a0_3 a0_4 (.slice A0_5 l0_5.length c0_5) a0_6 (.slice A0_7 l0_7.length c0_7) a0_8 a0_9 a0_10 a0_11 (.slice A0_12 l0_12.length c0_12) (.slice A0_13 l0_13.length c0_13) a0_14)))
 case atStart => exact ⟨0, rfl, ⟨Nat.zero_le _, Nat.le_refl _⟩, ⟨rfl⟩, L⟩
 case round =>
  clear L
  obtain ⟨i, rfl, HK, HA, L⟩ := hrel
  cases gk with
  | zero => exact absurd HK.out.2 yq9
  | succ fu =>
   obtain ⟨k0, k1, k2, k3, k4, k5, k6, k7, k8, k9, k10, k11, k12, k13, k14⟩ := L.out.at
   by_cases hi : i < l0_7.length
   ·have q0 : (i : Int) < (l0_7.length : Int) := by omega
    have p0 : (0 : Int) ≤ (i : Int) := Int.natCast_nonneg i
    obtain ⟨ad, e7, hx0, hx1⟩ := at_T58 HR7l.out (i : Int) p0 q0
    cases e7
    replace hx0 := L.out.old hx0
    replace hx1 := L.out.old hx1
    rw [Int.toNat_natCast] at hx0 hx1
    obtain ⟨sm0, sm1⟩ := rd58_small Q7.out hi
    have CN := zaa.mk (cw_sName (w := w) _ sm0)
    have CR := zaa.mk (cw_sRule (w := w) _ sm1)
    have h9 := HA.out
    rw [plFrom_lt hi] at h9
    unfold plAt at h9
    have HS := zaa.mk h9
    have hw := w_succ i (yq15 T7.out)
    replace hi := zaa.mk hi
    clear h9 HA sm0 sm1
    have PV : zaa (∀ h : 0 < i, w.cell? (ad.add (((i - 1 : Nat) : Int).toNat * 2)) = some (.string (rd_T58 l0_7 ((i - 1 : Nat) : Int)).f0)) := ⟨fun h => by have hl := hi.out; obtain ⟨ad2, e2, h0, _⟩ := at_T58 HR7l.out ((i - 1 : Nat) : Int) (Int.natCast_nonneg _) yq9; cases e2; exact h0⟩
    generalize (rd_T58 l0_7 ((i - 1 : Nat) : Int)).f0 = fp at *
    generalize (rd_T58 l0_7 (i : Int)).f0 = f0 at *
    generalize (rd_T58 l0_7 (i : Int)).f1 = f1 at *
    replace p0 := eq_true p0
    replace q0 := eq_true q0
    go_upto_region 14 with (first | ((with_reducible refine zaU (N := 5) rfl ?_); refine zba ?hg (N := 5) ?hd (cs := #[.string (⟨#[]⟩ : ByteArray), .string (⟨#[]⟩ : ByteArray)]) (t := 58) ?hr ?_; (case hd => rfl); (case hg => rfl); (case hr => first | (go_simp; done) | (go_simp; rfl)); intro gp hg wp hbox hb; have M := zaa.mk (L.out.boxed f0 f1 hbox hb hg); have kf0 := zah hbox 0; have kf1 := zah hbox 1; have kc0 := (zal hbox 0).trans rfl; have kc1 := (zal hbox 1).trans rfl; clear hb hbox hg) | fail)
    clear hx0 hx1 kf0 kf1 kc0 kc1 L k0 k1 k2 k3 k4 k5 k6 k7 k8 k9 k10 k11 k12 k13 k14
    generalize (wp.setCell ⟨gp, 0, none⟩ (.string f0)).setCell ⟨gp, 1, none⟩ (.string f1) = wq at M ⊢
    have hot : (f0.toList == ([111, 116, 104, 101, 114] : List UInt8)) = otherB f0 := rfl
    rcases Nat.eq_zero_or_pos i with i0 | i0
    ·have i0d : decide (i = 0) = true := decide_eq_true i0
     have zi : decide ((i : Int) > 0) = false := decide_eq_false yq9
     have zj : (0 < i) = False := eq_false yq9
     clear PV i0
     cases gn : nameB f0 with
     | false =>
      have CN1 : zaa (CW w 32 #[.string f0] (.bool false)) := gn ▸ CN
      have hr1 : r = 1 := H1.out (by rw [HS.out]; simp [gn, i0d])
      clear HS CN CR hot
      refine sn_ (n := 31) (S := fun w' => L2 w w' gb (locV a0_0 a0_1 a0_2 a0_3 a0_4 (.slice A0_5 l0_5.length c0_5) a0_6 (.slice (some ad) l0_7.length c0_7) a0_8 a0_9 a0_10 a0_11 (.slice A0_12 l0_12.length c0_12) (.slice A0_13 l0_13.length c0_13) a0_14) gp f0 f1) yq10 rfl yq30 M.out.drew (fun hHeld => ?_)
      refine zbo zaF.tab14 zaF.bits14 (fun HT_ HW_ => ?_)
      generalize wq.drew = w3 at hHeld ⊢
      clear M
      repeat (first
       | (refine pn_ 156 (v := undef) (a' := ?_) rfl rfl HT_ yq10 (fun _ _ _ h => HP.out _ _ _ _ _ h) (Or.inr ⟨yq30, rfl⟩) ?_ ?_; rotate_left; (simp only [Act.put, Nat.reduceAdd, List.setIfInBounds_toArray, List.set_cons_zero, List.set_cons_succ, zaE, zaH]; rfl); skip)
       | (refine pn_ 156 (v := ?_) (a' := ?_) rfl rfl HT_ yq10 (fun _ _ _ h => HP.out _ _ _ _ _ h) (Or.inl ⟨yq30, ?_⟩) ?_ ?_; rotate_left; (intro w'; go_simp; with_reducible rfl); rotate_left; (simp only [Act.put, Nat.reduceAdd, List.setIfInBounds_toArray, List.set_cons_zero, List.set_cons_succ, zaE, zaH]; rfl))
       | (refine tn_ 156 (v := ?_) (a' := ?_) rfl rfl HT_ HW_ yq10 (fun _ _ _ h => HP.out _ _ _ _ _ h) (Or.inl ⟨yq30, ?_⟩) hHeld ?_ ?_; rotate_left; (intro w' hS; obtain ⟨c0, c1, c7⟩ := hS.at; go_simp; with_reducible rfl); rotate_left; (simp only [Act.put, Nat.reduceAdd, List.setIfInBounds_toArray, List.set_cons_zero, List.set_cons_succ, zaE, zaH]; rfl))
       | (refine on_ 156 rfl rfl HT_ yq10 (fun K hK => ?_); refine goes_ Tryz.func32 yq10 rfl #[.string f0] yq30 rfl rfl yq14 ?_; with_reducible refine (CW.go CN1.out hHeld.l.b).mono ?_; rintro e w' ⟨rfl, hb⟩; refine ⟨_, rfl, ?_⟩; refine hK.out _ _ (hHeld.step hb) (fun hHeld => ?_); clear hK K hb; refine norm_ (a' := ?_) ?_ ?_; rotate_left; (simp only [Act.put, Nat.reduceAdd, List.setIfInBounds_toArray, List.set_cons_zero, List.set_cons_succ, zaE, zaH]; rfl))
       | fail)
      refine dn_ HT_ yq10 ?_
      try go_wp2
      rw [HR.out]
      go_ret
      exact ⟨by rw [hr1]; rfl, hHeld.l.b⟩
     | true =>
      cases go : (!otherB f0) with
      | false =>
       have CN1 : zaa (CW w 32 #[.string f0] (.bool true)) := gn ▸ CN
       have ho : (f0.toList == ([111, 116, 104, 101, 114] : List UInt8)) = true := hot.trans yq29
       have hr1 : r = 1 := H1.out (by rw [HS.out]; simp [gn, go, i0d])
       clear HS CN CR hot
       refine sn_ (n := 31) (S := fun w' => L2 w w' gb (locV a0_0 a0_1 a0_2 a0_3 a0_4 (.slice A0_5 l0_5.length c0_5) a0_6 (.slice (some ad) l0_7.length c0_7) a0_8 a0_9 a0_10 a0_11 (.slice A0_12 l0_12.length c0_12) (.slice A0_13 l0_13.length c0_13) a0_14) gp f0 f1) yq10 rfl yq30 M.out.drew (fun hHeld => ?_)
       refine zbo zaF.tab14 zaF.bits14 (fun HT_ HW_ => ?_)
       generalize wq.drew = w3 at hHeld ⊢
       clear M
       repeat (first
        | (refine pn_ 156 (v := undef) (a' := ?_) rfl rfl HT_ yq10 (fun _ _ _ h => HP.out _ _ _ _ _ h) (Or.inr ⟨yq30, rfl⟩) ?_ ?_; rotate_left; (simp only [Act.put, Nat.reduceAdd, List.setIfInBounds_toArray, List.set_cons_zero, List.set_cons_succ, zaE, zaH]; rfl); skip)
        | (refine pn_ 156 (v := ?_) (a' := ?_) rfl rfl HT_ yq10 (fun _ _ _ h => HP.out _ _ _ _ _ h) (Or.inl ⟨yq30, ?_⟩) ?_ ?_; rotate_left; (intro w'; go_simp; with_reducible rfl); rotate_left; (simp only [Act.put, Nat.reduceAdd, List.setIfInBounds_toArray, List.set_cons_zero, List.set_cons_succ, zaE, zaH]; rfl))
        | (refine tn_ 156 (v := ?_) (a' := ?_) rfl rfl HT_ HW_ yq10 (fun _ _ _ h => HP.out _ _ _ _ _ h) (Or.inl ⟨yq30, ?_⟩) hHeld ?_ ?_; rotate_left; (intro w' hS; obtain ⟨c0, c1, c7⟩ := hS.at; go_simp; with_reducible rfl); rotate_left; (simp only [Act.put, Nat.reduceAdd, List.setIfInBounds_toArray, List.set_cons_zero, List.set_cons_succ, zaE, zaH]; rfl))
        | (refine on_ 156 rfl rfl HT_ yq10 (fun K hK => ?_); refine goes_ Tryz.func32 yq10 rfl #[.string f0] yq30 rfl rfl yq14 ?_; with_reducible refine (CW.go CN1.out hHeld.l.b).mono ?_; rintro e w' ⟨rfl, hb⟩; refine ⟨_, rfl, ?_⟩; refine hK.out _ _ (hHeld.step hb) (fun hHeld => ?_); clear hK K hb; refine norm_ (a' := ?_) ?_ ?_; rotate_left; (simp only [Act.put, Nat.reduceAdd, List.setIfInBounds_toArray, List.set_cons_zero, List.set_cons_succ, zaE, zaH]; rfl))
        | fail)
       refine dn_ HT_ yq10 ?_
       try go_wp2
       rw [HR.out]
       go_ret
       exact ⟨by rw [hr1]; rfl, hHeld.l.b⟩
      | true =>
       cases gr : ruleB f1 with
       | false =>
        have CN1 : zaa (CW w 32 #[.string f0] (.bool true)) := gn ▸ CN
        have CR1 : zaa (CW w 38 #[.string f1] (.int .i64 1)) := ⟨yq39 CR.out⟩
        have ho : (f0.toList == ([111, 116, 104, 101, 114] : List UInt8)) = false := hot.trans yq29
        have hr1 : r = 1 := H1.out (by rw [HS.out]; simp [gn, go, gr, i0d])
        clear HS CN CR hot
        refine sn_ (n := 31) (S := fun w' => L2 w w' gb (locV a0_0 a0_1 a0_2 a0_3 a0_4 (.slice A0_5 l0_5.length c0_5) a0_6 (.slice (some ad) l0_7.length c0_7) a0_8 a0_9 a0_10 a0_11 (.slice A0_12 l0_12.length c0_12) (.slice A0_13 l0_13.length c0_13) a0_14) gp f0 f1) yq10 rfl yq30 M.out.drew (fun hHeld => ?_)
        refine zbo zaF.tab14 zaF.bits14 (fun HT_ HW_ => ?_)
        generalize wq.drew = w3 at hHeld ⊢
        clear M
        repeat (first
         | (refine pn_ 156 (v := undef) (a' := ?_) rfl rfl HT_ yq10 (fun _ _ _ h => HP.out _ _ _ _ _ h) (Or.inr ⟨yq30, rfl⟩) ?_ ?_; rotate_left; (simp only [Act.put, Nat.reduceAdd, List.setIfInBounds_toArray, List.set_cons_zero, List.set_cons_succ, zaE, zaH]; rfl); skip)
         | (refine pn_ 156 (v := ?_) (a' := ?_) rfl rfl HT_ yq10 (fun _ _ _ h => HP.out _ _ _ _ _ h) (Or.inl ⟨yq30, ?_⟩) ?_ ?_; rotate_left; (intro w'; go_simp; with_reducible rfl); rotate_left; (simp only [Act.put, Nat.reduceAdd, List.setIfInBounds_toArray, List.set_cons_zero, List.set_cons_succ, zaE, zaH]; rfl))
         | (refine tn_ 156 (v := ?_) (a' := ?_) rfl rfl HT_ HW_ yq10 (fun _ _ _ h => HP.out _ _ _ _ _ h) (Or.inl ⟨yq30, ?_⟩) hHeld ?_ ?_; rotate_left; (intro w' hS; obtain ⟨c0, c1, c7⟩ := hS.at; go_simp; with_reducible rfl); rotate_left; (simp only [Act.put, Nat.reduceAdd, List.setIfInBounds_toArray, List.set_cons_zero, List.set_cons_succ, zaE, zaH]; rfl))
         | (refine on_ 156 rfl rfl HT_ yq10 (fun K hK => ?_); refine goes_ Tryz.func32 yq10 rfl #[.string f0] yq30 rfl rfl yq14 ?_; with_reducible refine (CW.go CN1.out hHeld.l.b).mono ?_; rintro e w' ⟨rfl, hb⟩; refine ⟨_, rfl, ?_⟩; refine hK.out _ _ (hHeld.step hb) (fun hHeld => ?_); clear hK K hb; refine norm_ (a' := ?_) ?_ ?_; rotate_left; (simp only [Act.put, Nat.reduceAdd, List.setIfInBounds_toArray, List.set_cons_zero, List.set_cons_succ, zaE, zaH]; rfl))
         | (refine on_ 156 rfl rfl HT_ yq10 (fun K hK => ?_); refine goes_ Tryz.func38 yq10 rfl #[.string f1] yq30 rfl rfl yq14 ?_; with_reducible refine (CW.go CR1.out hHeld.l.b).mono ?_; rintro e w' ⟨rfl, hb⟩; refine ⟨_, rfl, ?_⟩; refine hK.out _ _ (hHeld.step hb) (fun hHeld => ?_); clear hK K hb; refine norm_ (a' := ?_) ?_ ?_; rotate_left; (simp only [Act.put, Nat.reduceAdd, List.setIfInBounds_toArray, List.set_cons_zero, List.set_cons_succ, zaE, zaH]; rfl))
         | fail)
        refine dn_ HT_ yq10 ?_
        try go_wp2
        rw [HR.out]
        go_ret
        exact ⟨by rw [hr1]; rfl, hHeld.l.b⟩
       | true =>
        have CN1 : zaa (CW w 32 #[.string f0] (.bool true)) := gn ▸ CN
        have CR1 : zaa (CW w 38 #[.string f1] (.int .i64 0)) := ⟨yq39 CR.out⟩
        have ho : (f0.toList == ([111, 116, 104, 101, 114] : List UInt8)) = false := hot.trans yq29
        have HN : zaa (plFrom l0_7 0 = plFrom l0_7 (i + 1)) := ⟨by rw [HS.out]; simp [gn, go, gr, i0d]⟩
        clear HS CN CR hot
        refine sn_ (n := 31) (S := fun w' => L2 w w' gb (locV a0_0 a0_1 a0_2 a0_3 a0_4 (.slice A0_5 l0_5.length c0_5) a0_6 (.slice (some ad) l0_7.length c0_7) a0_8 a0_9 a0_10 a0_11 (.slice A0_12 l0_12.length c0_12) (.slice A0_13 l0_13.length c0_13) a0_14) gp f0 f1) yq10 rfl yq30 M.out.drew (fun hHeld => ?_)
        refine zbo zaF.tab14 zaF.bits14 (fun HT_ HW_ => ?_)
        generalize wq.drew = w3 at hHeld ⊢
        clear M
        repeat (first
         | (refine pn_ 156 (v := undef) (a' := ?_) rfl rfl HT_ yq10 (fun _ _ _ h => HP.out _ _ _ _ _ h) (Or.inr ⟨yq30, rfl⟩) ?_ ?_; rotate_left; (simp only [Act.put, Nat.reduceAdd, List.setIfInBounds_toArray, List.set_cons_zero, List.set_cons_succ, zaE, zaH]; rfl); skip)
         | (refine pn_ 156 (v := ?_) (a' := ?_) rfl rfl HT_ yq10 (fun _ _ _ h => HP.out _ _ _ _ _ h) (Or.inl ⟨yq30, ?_⟩) ?_ ?_; rotate_left; (intro w'; go_simp; with_reducible rfl); rotate_left; (simp only [Act.put, Nat.reduceAdd, List.setIfInBounds_toArray, List.set_cons_zero, List.set_cons_succ, zaE, zaH]; rfl))
         | (refine tn_ 156 (v := ?_) (a' := ?_) rfl rfl HT_ HW_ yq10 (fun _ _ _ h => HP.out _ _ _ _ _ h) (Or.inl ⟨yq30, ?_⟩) hHeld ?_ ?_; rotate_left; (intro w' hS; obtain ⟨c0, c1, c7⟩ := hS.at; go_simp; with_reducible rfl); rotate_left; (simp only [Act.put, Nat.reduceAdd, List.setIfInBounds_toArray, List.set_cons_zero, List.set_cons_succ, zaE, zaH]; rfl))
         | (refine on_ 156 rfl rfl HT_ yq10 (fun K hK => ?_); refine goes_ Tryz.func32 yq10 rfl #[.string f0] yq30 rfl rfl yq14 ?_; with_reducible refine (CW.go CN1.out hHeld.l.b).mono ?_; rintro e w' ⟨rfl, hb⟩; refine ⟨_, rfl, ?_⟩; refine hK.out _ _ (hHeld.step hb) (fun hHeld => ?_); clear hK K hb; refine norm_ (a' := ?_) ?_ ?_; rotate_left; (simp only [Act.put, Nat.reduceAdd, List.setIfInBounds_toArray, List.set_cons_zero, List.set_cons_succ, zaE, zaH]; rfl))
         | (refine on_ 156 rfl rfl HT_ yq10 (fun K hK => ?_); refine goes_ Tryz.func38 yq10 rfl #[.string f1] yq30 rfl rfl yq14 ?_; with_reducible refine (CW.go CR1.out hHeld.l.b).mono ?_; rintro e w' ⟨rfl, hb⟩; refine ⟨_, rfl, ?_⟩; refine hK.out _ _ (hHeld.step hb) (fun hHeld => ?_); clear hK K hb; refine norm_ (a' := ?_) ?_ ?_; rotate_left; (simp only [Act.put, Nat.reduceAdd, List.setIfInBounds_toArray, List.set_cons_zero, List.set_cons_succ, zaE, zaH]; rfl))
         | fail)
        refine dn_ HT_ yq10 ?_
        try go_wp2
        go_roundg fu
        case measure => have := HK.out; omega
        case rel => exact ⟨i + 1, yq23, ⟨yq15 hi.out, yq19 HK.out hi.out⟩, HN, ⟨hHeld.l⟩⟩
    have i0d : decide (i = 0) = false := decide_eq_false yq9
    have zi : decide ((i : Int) > 0) = true := decide_eq_true yq9
    have hxp := PV.out i0
    obtain ⟨j, hj⟩ : ∃ j : Int, j = ((i - 1 : Nat) : Int) := ⟨_, rfl⟩
    have hjw : IntKind.i64.wrap ((i : Int) - 1) = j := (zaE _).trans (by rw [hj]; have := T7.out; have := hi.out; rw [w64 yq9 yq9]; omega)
    have pj : (0 ≤ j) = True := eq_true yq9
    have qj : (j < (l0_7.length : Int)) = True := eq_true (yq15 hi.out)
    rw [← hj] at hxp
    clear PV hj
    cases gn : nameB f0 with
    | false =>
     have CN1 : zaa (CW w 32 #[.string f0] (.bool false)) := gn ▸ CN
     have hr1 : r = 1 := H1.out (by rw [HS.out]; simp [gn, i0d])
     clear HS CN CR hot
     refine sn_ (n := 31) (S := fun w' => L2 w w' gb (locV a0_0 a0_1 a0_2 a0_3 a0_4 (.slice A0_5 l0_5.length c0_5) a0_6 (.slice (some ad) l0_7.length c0_7) a0_8 a0_9 a0_10 a0_11 (.slice A0_12 l0_12.length c0_12) (.slice A0_13 l0_13.length c0_13) a0_14) gp f0 f1) yq10 rfl yq30 M.out.drew (fun hHeld => ?_)
     refine zbo zaF.tab14 zaF.bits14 (fun HT_ HW_ => ?_)
     generalize wq.drew = w3 at hHeld ⊢
     clear M
     repeat (first
      | (refine pn_ 156 (v := undef) (a' := ?_) rfl rfl HT_ yq10 (fun _ _ _ h => HP.out _ _ _ _ _ h) (Or.inr ⟨yq30, rfl⟩) ?_ ?_; rotate_left; (simp only [Act.put, Nat.reduceAdd, List.setIfInBounds_toArray, List.set_cons_zero, List.set_cons_succ, zaE, zaH]; rfl); skip)
      | (refine pn_ 156 (v := ?_) (a' := ?_) rfl rfl HT_ yq10 (fun _ _ _ h => HP.out _ _ _ _ _ h) (Or.inl ⟨yq30, ?_⟩) ?_ ?_; rotate_left; (intro w'; go_simp; with_reducible rfl); rotate_left; (simp only [Act.put, Nat.reduceAdd, List.setIfInBounds_toArray, List.set_cons_zero, List.set_cons_succ, zaE, zaH]; rfl))
      | (refine tn_ 156 (v := ?_) (a' := ?_) rfl rfl HT_ HW_ yq10 (fun _ _ _ h => HP.out _ _ _ _ _ h) (Or.inl ⟨yq30, ?_⟩) hHeld ?_ ?_; rotate_left; (intro w' hS; obtain ⟨c0, c1, c7⟩ := hS.at; have c9 := hS.old hxp; go_simp; with_reducible rfl); rotate_left; (simp only [Act.put, Nat.reduceAdd, List.setIfInBounds_toArray, List.set_cons_zero, List.set_cons_succ, zaE, zaH]; rfl))
      | (refine on_ 156 rfl rfl HT_ yq10 (fun K hK => ?_); refine goes_ Tryz.func32 yq10 rfl #[.string f0] yq30 rfl rfl yq14 ?_; with_reducible refine (CW.go CN1.out hHeld.l.b).mono ?_; rintro e w' ⟨rfl, hb⟩; refine ⟨_, rfl, ?_⟩; refine hK.out _ _ (hHeld.step hb) (fun hHeld => ?_); clear hK K hb; refine norm_ (a' := ?_) ?_ ?_; rotate_left; (simp only [Act.put, Nat.reduceAdd, List.setIfInBounds_toArray, List.set_cons_zero, List.set_cons_succ, zaE, zaH]; rfl))
      | fail)
     refine dn_ HT_ yq10 ?_
     try go_wp2
     rw [HR.out]
     go_ret
     exact ⟨by rw [hr1]; rfl, hHeld.l.b⟩
    | true =>
     cases go : (!otherB f0) with
     | false =>
      have CN1 : zaa (CW w 32 #[.string f0] (.bool true)) := gn ▸ CN
      have ho : (f0.toList == ([111, 116, 104, 101, 114] : List UInt8)) = true := hot.trans yq29
      have hr1 : r = 1 := H1.out (by rw [HS.out]; simp [gn, go, i0d])
      clear HS CN CR hot
      refine sn_ (n := 31) (S := fun w' => L2 w w' gb (locV a0_0 a0_1 a0_2 a0_3 a0_4 (.slice A0_5 l0_5.length c0_5) a0_6 (.slice (some ad) l0_7.length c0_7) a0_8 a0_9 a0_10 a0_11 (.slice A0_12 l0_12.length c0_12) (.slice A0_13 l0_13.length c0_13) a0_14) gp f0 f1) yq10 rfl yq30 M.out.drew (fun hHeld => ?_)
      refine zbo zaF.tab14 zaF.bits14 (fun HT_ HW_ => ?_)
      generalize wq.drew = w3 at hHeld ⊢
      clear M
      repeat (first
       | (refine pn_ 156 (v := undef) (a' := ?_) rfl rfl HT_ yq10 (fun _ _ _ h => HP.out _ _ _ _ _ h) (Or.inr ⟨yq30, rfl⟩) ?_ ?_; rotate_left; (simp only [Act.put, Nat.reduceAdd, List.setIfInBounds_toArray, List.set_cons_zero, List.set_cons_succ, zaE, zaH]; rfl); skip)
       | (refine pn_ 156 (v := ?_) (a' := ?_) rfl rfl HT_ yq10 (fun _ _ _ h => HP.out _ _ _ _ _ h) (Or.inl ⟨yq30, ?_⟩) ?_ ?_; rotate_left; (intro w'; go_simp; with_reducible rfl); rotate_left; (simp only [Act.put, Nat.reduceAdd, List.setIfInBounds_toArray, List.set_cons_zero, List.set_cons_succ, zaE, zaH]; rfl))
       | (refine tn_ 156 (v := ?_) (a' := ?_) rfl rfl HT_ HW_ yq10 (fun _ _ _ h => HP.out _ _ _ _ _ h) (Or.inl ⟨yq30, ?_⟩) hHeld ?_ ?_; rotate_left; (intro w' hS; obtain ⟨c0, c1, c7⟩ := hS.at; have c9 := hS.old hxp; go_simp; with_reducible rfl); rotate_left; (simp only [Act.put, Nat.reduceAdd, List.setIfInBounds_toArray, List.set_cons_zero, List.set_cons_succ, zaE, zaH]; rfl))
       | (refine on_ 156 rfl rfl HT_ yq10 (fun K hK => ?_); refine goes_ Tryz.func32 yq10 rfl #[.string f0] yq30 rfl rfl yq14 ?_; with_reducible refine (CW.go CN1.out hHeld.l.b).mono ?_; rintro e w' ⟨rfl, hb⟩; refine ⟨_, rfl, ?_⟩; refine hK.out _ _ (hHeld.step hb) (fun hHeld => ?_); clear hK K hb; refine norm_ (a' := ?_) ?_ ?_; rotate_left; (simp only [Act.put, Nat.reduceAdd, List.setIfInBounds_toArray, List.set_cons_zero, List.set_cons_succ, zaE, zaH]; rfl))
       | fail)
      refine dn_ HT_ yq10 ?_
      try go_wp2
      rw [HR.out]
      go_ret
      exact ⟨by rw [hr1]; rfl, hHeld.l.b⟩
     | true =>
      cases gb_ : Op.bytesLess fp.toList f0.toList with
      | false =>
       have CN1 : zaa (CW w 32 #[.string f0] (.bool true)) := gn ▸ CN
       have ho : (f0.toList == ([111, 116, 104, 101, 114] : List UInt8)) = false := hot.trans yq29
       have hr1 : r = 1 := H1.out (by rw [HS.out]; simp [gn, go, gb_, i0d])
       clear HS CN CR hot
       refine sn_ (n := 31) (S := fun w' => L2 w w' gb (locV a0_0 a0_1 a0_2 a0_3 a0_4 (.slice A0_5 l0_5.length c0_5) a0_6 (.slice (some ad) l0_7.length c0_7) a0_8 a0_9 a0_10 a0_11 (.slice A0_12 l0_12.length c0_12) (.slice A0_13 l0_13.length c0_13) a0_14) gp f0 f1) yq10 rfl yq30 M.out.drew (fun hHeld => ?_)
       refine zbo zaF.tab14 zaF.bits14 (fun HT_ HW_ => ?_)
       generalize wq.drew = w3 at hHeld ⊢
       clear M
       repeat (first
        | (refine pn_ 156 (v := undef) (a' := ?_) rfl rfl HT_ yq10 (fun _ _ _ h => HP.out _ _ _ _ _ h) (Or.inr ⟨yq30, rfl⟩) ?_ ?_; rotate_left; (simp only [Act.put, Nat.reduceAdd, List.setIfInBounds_toArray, List.set_cons_zero, List.set_cons_succ, zaE, zaH]; rfl); skip)
        | (refine pn_ 156 (v := ?_) (a' := ?_) rfl rfl HT_ yq10 (fun _ _ _ h => HP.out _ _ _ _ _ h) (Or.inl ⟨yq30, ?_⟩) ?_ ?_; rotate_left; (intro w'; go_simp; with_reducible rfl); rotate_left; (simp only [Act.put, Nat.reduceAdd, List.setIfInBounds_toArray, List.set_cons_zero, List.set_cons_succ, zaE, zaH]; rfl))
        | (refine tn_ 156 (v := ?_) (a' := ?_) rfl rfl HT_ HW_ yq10 (fun _ _ _ h => HP.out _ _ _ _ _ h) (Or.inl ⟨yq30, ?_⟩) hHeld ?_ ?_; rotate_left; (intro w' hS; obtain ⟨c0, c1, c7⟩ := hS.at; have c9 := hS.old hxp; go_simp; with_reducible rfl); rotate_left; (simp only [Act.put, Nat.reduceAdd, List.setIfInBounds_toArray, List.set_cons_zero, List.set_cons_succ, zaE, zaH]; rfl))
        | (refine on_ 156 rfl rfl HT_ yq10 (fun K hK => ?_); refine goes_ Tryz.func32 yq10 rfl #[.string f0] yq30 rfl rfl yq14 ?_; with_reducible refine (CW.go CN1.out hHeld.l.b).mono ?_; rintro e w' ⟨rfl, hb⟩; refine ⟨_, rfl, ?_⟩; refine hK.out _ _ (hHeld.step hb) (fun hHeld => ?_); clear hK K hb; refine norm_ (a' := ?_) ?_ ?_; rotate_left; (simp only [Act.put, Nat.reduceAdd, List.setIfInBounds_toArray, List.set_cons_zero, List.set_cons_succ, zaE, zaH]; rfl))
        | fail)
       refine dn_ HT_ yq10 ?_
       try go_wp2
       rw [HR.out]
       go_ret
       exact ⟨by rw [hr1]; rfl, hHeld.l.b⟩
      | true =>
       cases gr : ruleB f1 with
       | false =>
        have CN1 : zaa (CW w 32 #[.string f0] (.bool true)) := gn ▸ CN
        have CR1 : zaa (CW w 38 #[.string f1] (.int .i64 1)) := ⟨yq39 CR.out⟩
        have ho : (f0.toList == ([111, 116, 104, 101, 114] : List UInt8)) = false := hot.trans yq29
        have hr1 : r = 1 := H1.out (by rw [HS.out]; simp [gn, go, gb_, gr, i0d])
        clear HS CN CR hot
        refine sn_ (n := 31) (S := fun w' => L2 w w' gb (locV a0_0 a0_1 a0_2 a0_3 a0_4 (.slice A0_5 l0_5.length c0_5) a0_6 (.slice (some ad) l0_7.length c0_7) a0_8 a0_9 a0_10 a0_11 (.slice A0_12 l0_12.length c0_12) (.slice A0_13 l0_13.length c0_13) a0_14) gp f0 f1) yq10 rfl yq30 M.out.drew (fun hHeld => ?_)
        refine zbo zaF.tab14 zaF.bits14 (fun HT_ HW_ => ?_)
        generalize wq.drew = w3 at hHeld ⊢
        clear M
        repeat (first
         | (refine pn_ 156 (v := undef) (a' := ?_) rfl rfl HT_ yq10 (fun _ _ _ h => HP.out _ _ _ _ _ h) (Or.inr ⟨yq30, rfl⟩) ?_ ?_; rotate_left; (simp only [Act.put, Nat.reduceAdd, List.setIfInBounds_toArray, List.set_cons_zero, List.set_cons_succ, zaE, zaH]; rfl); skip)
         | (refine pn_ 156 (v := ?_) (a' := ?_) rfl rfl HT_ yq10 (fun _ _ _ h => HP.out _ _ _ _ _ h) (Or.inl ⟨yq30, ?_⟩) ?_ ?_; rotate_left; (intro w'; go_simp; with_reducible rfl); rotate_left; (simp only [Act.put, Nat.reduceAdd, List.setIfInBounds_toArray, List.set_cons_zero, List.set_cons_succ, zaE, zaH]; rfl))
         | (refine tn_ 156 (v := ?_) (a' := ?_) rfl rfl HT_ HW_ yq10 (fun _ _ _ h => HP.out _ _ _ _ _ h) (Or.inl ⟨yq30, ?_⟩) hHeld ?_ ?_; rotate_left; (intro w' hS; obtain ⟨c0, c1, c7⟩ := hS.at; have c9 := hS.old hxp; go_simp; with_reducible rfl); rotate_left; (simp only [Act.put, Nat.reduceAdd, List.setIfInBounds_toArray, List.set_cons_zero, List.set_cons_succ, zaE, zaH]; rfl))
         | (refine on_ 156 rfl rfl HT_ yq10 (fun K hK => ?_); refine goes_ Tryz.func32 yq10 rfl #[.string f0] yq30 rfl rfl yq14 ?_; with_reducible refine (CW.go CN1.out hHeld.l.b).mono ?_; rintro e w' ⟨rfl, hb⟩; refine ⟨_, rfl, ?_⟩; refine hK.out _ _ (hHeld.step hb) (fun hHeld => ?_); clear hK K hb; refine norm_ (a' := ?_) ?_ ?_; rotate_left; (simp only [Act.put, Nat.reduceAdd, List.setIfInBounds_toArray, List.set_cons_zero, List.set_cons_succ, zaE, zaH]; rfl))
         | (refine on_ 156 rfl rfl HT_ yq10 (fun K hK => ?_); refine goes_ Tryz.func38 yq10 rfl #[.string f1] yq30 rfl rfl yq14 ?_; with_reducible refine (CW.go CR1.out hHeld.l.b).mono ?_; rintro e w' ⟨rfl, hb⟩; refine ⟨_, rfl, ?_⟩; refine hK.out _ _ (hHeld.step hb) (fun hHeld => ?_); clear hK K hb; refine norm_ (a' := ?_) ?_ ?_; rotate_left; (simp only [Act.put, Nat.reduceAdd, List.setIfInBounds_toArray, List.set_cons_zero, List.set_cons_succ, zaE, zaH]; rfl))
         | fail)
        refine dn_ HT_ yq10 ?_
        try go_wp2
        rw [HR.out]
        go_ret
        exact ⟨by rw [hr1]; rfl, hHeld.l.b⟩
       | true =>
        have CN1 : zaa (CW w 32 #[.string f0] (.bool true)) := gn ▸ CN
        have CR1 : zaa (CW w 38 #[.string f1] (.int .i64 0)) := ⟨yq39 CR.out⟩
        have ho : (f0.toList == ([111, 116, 104, 101, 114] : List UInt8)) = false := hot.trans yq29
        have HN : zaa (plFrom l0_7 0 = plFrom l0_7 (i + 1)) := ⟨by rw [HS.out]; simp [gn, go, gb_, gr, i0d]⟩
        clear HS CN CR hot
        refine sn_ (n := 31) (S := fun w' => L2 w w' gb (locV a0_0 a0_1 a0_2 a0_3 a0_4 (.slice A0_5 l0_5.length c0_5) a0_6 (.slice (some ad) l0_7.length c0_7) a0_8 a0_9 a0_10 a0_11 (.slice A0_12 l0_12.length c0_12) (.slice A0_13 l0_13.length c0_13) a0_14) gp f0 f1) yq10 rfl yq30 M.out.drew (fun hHeld => ?_)
        refine zbo zaF.tab14 zaF.bits14 (fun HT_ HW_ => ?_)
        generalize wq.drew = w3 at hHeld ⊢
        clear M
        repeat (first
         | (refine pn_ 156 (v := undef) (a' := ?_) rfl rfl HT_ yq10 (fun _ _ _ h => HP.out _ _ _ _ _ h) (Or.inr ⟨yq30, rfl⟩) ?_ ?_; rotate_left; (simp only [Act.put, Nat.reduceAdd, List.setIfInBounds_toArray, List.set_cons_zero, List.set_cons_succ, zaE, zaH]; rfl); skip)
         | (refine pn_ 156 (v := ?_) (a' := ?_) rfl rfl HT_ yq10 (fun _ _ _ h => HP.out _ _ _ _ _ h) (Or.inl ⟨yq30, ?_⟩) ?_ ?_; rotate_left; (intro w'; go_simp; with_reducible rfl); rotate_left; (simp only [Act.put, Nat.reduceAdd, List.setIfInBounds_toArray, List.set_cons_zero, List.set_cons_succ, zaE, zaH]; rfl))
         | (refine tn_ 156 (v := ?_) (a' := ?_) rfl rfl HT_ HW_ yq10 (fun _ _ _ h => HP.out _ _ _ _ _ h) (Or.inl ⟨yq30, ?_⟩) hHeld ?_ ?_; rotate_left; (intro w' hS; obtain ⟨c0, c1, c7⟩ := hS.at; have c9 := hS.old hxp; go_simp; with_reducible rfl); rotate_left; (simp only [Act.put, Nat.reduceAdd, List.setIfInBounds_toArray, List.set_cons_zero, List.set_cons_succ, zaE, zaH]; rfl))
         | (refine on_ 156 rfl rfl HT_ yq10 (fun K hK => ?_); refine goes_ Tryz.func32 yq10 rfl #[.string f0] yq30 rfl rfl yq14 ?_; with_reducible refine (CW.go CN1.out hHeld.l.b).mono ?_; rintro e w' ⟨rfl, hb⟩; refine ⟨_, rfl, ?_⟩; refine hK.out _ _ (hHeld.step hb) (fun hHeld => ?_); clear hK K hb; refine norm_ (a' := ?_) ?_ ?_; rotate_left; (simp only [Act.put, Nat.reduceAdd, List.setIfInBounds_toArray, List.set_cons_zero, List.set_cons_succ, zaE, zaH]; rfl))
         | (refine on_ 156 rfl rfl HT_ yq10 (fun K hK => ?_); refine goes_ Tryz.func38 yq10 rfl #[.string f1] yq30 rfl rfl yq14 ?_; with_reducible refine (CW.go CR1.out hHeld.l.b).mono ?_; rintro e w' ⟨rfl, hb⟩; refine ⟨_, rfl, ?_⟩; refine hK.out _ _ (hHeld.step hb) (fun hHeld => ?_); clear hK K hb; refine norm_ (a' := ?_) ?_ ?_; rotate_left; (simp only [Act.put, Nat.reduceAdd, List.setIfInBounds_toArray, List.set_cons_zero, List.set_cons_succ, zaE, zaH]; rfl))
         | fail)
        refine dn_ HT_ yq10 ?_
        try go_wp2
        go_roundg fu
        case measure => have := HK.out; omega
        case rel => exact ⟨i + 1, yq23, ⟨yq15 hi.out, yq19 HK.out hi.out⟩, HN, ⟨hHeld.l⟩⟩
   have q0 : ((i : Int) < (l0_7.length : Int)) = False := eq_false yq9
   have HE : plFrom l0_7 0 = true := by rw [HA.out, plFrom_ge hi]
   have HE1 := zaa.mk HE
   replace hi := eq_false hi
   clear HA HK HE
   go_wp2
   exact HQ.out HE1.out L
end Go.Proofs.YtfafjbolmeimmaaGreatDoor.P
