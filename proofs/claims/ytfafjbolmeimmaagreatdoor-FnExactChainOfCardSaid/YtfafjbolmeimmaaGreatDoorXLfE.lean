/- impl.LocaleFault, walked: stage E. -/
import Derived.Test.YtfafjbolmeimmaaGreatDoorAb
import Derived.Test.YtfafjbolmeimmaaGreatDoorF19
import Derived.Deep.CutBlock
namespace Go.Proofs.YtfafjbolmeimmaaGreatDoor.P
open Go.RowKit Go.Proofs.YtfafjbolmeimmaaGreatDoorW.PrintWords Go.Proofs.YtfafjbolmeimmaaGreatDoorW.PrintLast Go.Proofs.YtfafjbolmeimmaaGreatDoorW.PrintMore
set_option linter.unusedVariables false
set_option linter.unusedSimpArgs false
variable {a0_0 a0_1 a0_2 a0_3 a0_4 : ByteArray} {A0_5 : Option Addr} {c0_5 : Nat} {l0_5 : List Int} {a0_6 : Int} {A0_7 : Option Addr} {c0_7 : Nat} {l0_7 : List S58} {a0_8 a0_9 a0_10 a0_11 : ByteArray} {A0_12 : Option Addr} {c0_12 : Nat} {l0_12 : List ByteArray} {A0_13 : Option Addr} {c0_13 : Nat} {l0_13 : List ByteArray} {a0_14 : ByteArray} {w wc : World} {gb : Nat}
def zaB.T17 : Bool × List (List Nat × List Nat) := (true, [([], []), ([0], [0]), ([1], [1]), ([2, 1], [1, 2]), ([3, 1, 1], [1, 3]), ([4, 1], [1, 4]), ([1, 5], [1, 5]), ([6, 4], [6]), ([7], [7]), ([8, 7], [7, 8]), ([9, 7], [7, 9]), ([7, 10], [7, 10]), ([11, 7], [11]), ([12], [12]), ([13, 12], [12, 13]), ([14, 12, 12], [12, 14]), ([15, 12], [12, 15]), ([12, 16], [12, 16]), ([17, 15], [17]), ([18], [18]), ([19, 18], [18, 19]), ([20, 18, 18], [18, 20]), ([21], [21]), ([22, 21], [21, 22]), ([21], [21]), ([24, 21], [21, 24]), ([23, 25, 21], [21, 23, 25]), ([26, 21], [21, 26]), ([27, 21], [21, 27]), ([21], [21]), ([29, 21], [21, 29]), ([28, 30, 21], [21, 28, 30]), ([21, 31, 18], [18, 21, 31]), ([18, 32], [18, 32]), ([33, 21, 0, 1, 2, 3, 4, 5, 6, 7, 8, 9, 10, 11, 12, 13, 14, 15, 16, 17, 18, 19, 20, 21, 22, 23, 24, 25, 26, 27, 28, 29, 30, 31, 32, 33], [0, 33])])
def zaB.B17 : List Nat := [0, 1, 3, 7, 15, 31, 63, 127, 255, 511, 1023, 2047, 4095, 8191, 16383, 32767, 65535, 131071, 262143, 524287, 1048575, 2097151, 4194303, 8388607, 4194303, 20971519, 67108863, 134217727, 268435455, 4194303, 541065215, 2147483647, 4294967295, 8589934591, 17179869183]
theorem zaB.tab17 : rtab .any (opsOf Tryz.f11 17) = zaB.T17 := by kernel_rfl
theorem zaB.bits17 : waitsOk zaB.T17.2 zaB.B17 = true := by kernel_rfl
set_option maxHeartbeats 8000000 in
set_option maxRecDepth 1000000 in
theorem lf_E {b4 : Bool} {x4 x5 x6 x7 x8 x9 x10 x11 x12 x13 x14 x15 x16 x17 x18 x19 x20 x21 x22 x23 x24 x25 x26 x27 x28 x29 x30 x31 x32 x33 x34 x35 x36 x37 x38 x39 x40 x41 x42 x43 x44 x45 x46 x47 x48 x49 x50 x51 x52 x53 x54 x55 x56 x57 x58 x59 x60 x61 x62 x63 x64 x65 x66 x67 x68 x69 x70 x71 x72 x73 x74 x75 x76 x77 x78 x79 x80 x81 x82 x83 x84 x85 x86 x87 x88 x89 x90 x91 x92 x93 x94 x95 x96 x97 x98 x99 x100 x101 x102 x103 x104 x105 x106 x107 x108 x109 x110 x111 x112 x113 x114 x115 x116 x117 x118 x119 x120 x121 x122 x123 x124 x125 x126 x127 x128 x129 x130 x131 x132 x133 x134 x135 x136 x137 x138 x139 x140 x141 x142 x143 x144 x145 x146 x147 x148 x149 x150 x151 x152 x153 x154 x155 x156 x157 x158 x159 x160 x161 x162 x163 x164 x165 x166 x167 x168 x169 x170 x171 x172 x173 x174 x175 x176 x177 x178 x179 x180 x181 x182 x183 x184 x185 x186 x187 x188 x189 x190 x191 x192 x193 x194 x195 x196 x197 x198 x199 x200 x201 x202 x203 x204 x205 x206 x207 x208 x209 x210 x211 x212 x213 x214 x215 x216 x217 x218 x219 x220 x221 x222 x223 x224 x225 x226 x227 x228 x229 x230 x231 x232 x233 x234 x235 x236 x237 x238 x239 x240 x241 x242 x243 x244 x245 x246 x247 x248 x249 x250 x251 x252 x253 x254 x255 x256 x257 x258 x259 x260 x261 x262 x263 x264 x265 x266 x267 x268 x269 x270 x271 x272 x273 x274 x275 x276 x277 x278 x279 x280 x281 x282 x283 x284 x285 x286 x287 x288 x289 : Value} (SM : zaa (smallLoc a0_0 a0_1 a0_2 a0_3 a0_4 l0_5 l0_7 a0_8 a0_9 a0_10 a0_11 l0_12 l0_13 a0_14 = true)) (HG : zaa (GT w)) (HR7l : zaa (Kd.C k58 w A0_7 l0_7.length l0_7)) (L : zaa (LS w wc gb (locV a0_0 a0_1 a0_2 a0_3 a0_4 (.slice A0_5 l0_5.length c0_5) a0_6 (.slice A0_7 l0_7.length c0_7) a0_8 a0_9 a0_10 a0_11 (.slice A0_12 l0_12.length c0_12) (.slice A0_13 l0_13.length c0_13) a0_14))) (Q : Exit → Act → World → Prop) (HP : zaa (∀ c a n v w, Q (.panic c) (a.put n v) w → Q (.panic c) a w))
  (hQ : ∀ ⦃b : Bool⦄ ⦃y4 y5 y6 y7 y8 y9 y10 y11 y12 y13 y14 y15 y16 y17 y18 y19 y20 y21 y22 y23 y24 y25 y26 y27 y28 y29 y30 y31 y32 y33 y34 y35 y36 y37 y38 y39 y40 y41 y42 y43 y44 y45 y46 y47 y48 y49 y50 y51 y52 y53 y54 y55 y56 y57 y58 y59 y60 y61 y62 y63 y64 y65 y66 y67 y68 y69 y70 y71 y72 y73 y74 y75 y76 y77 y78 y79 y80 y81 y82 y83 y84 y85 y86 y87 y88 y89 y90 y91 y92 y93 y94 y95 y96 y97 y98 y99 y100 y101 y102 y103 y104 y105 y106 y107 y108 y109 y110 y111 y112 y113 y114 y115 y116 y117 y118 y119 y120 y121 y122 y123 y124 y125 y126 y127 y128 y129 y130 y131 y132 y133 y134 y135 y136 y137 y138 y139 y140 y141 y142 y143 y144 y145 y146 y147 y148 y149 y150 y151 y152 y153 y154 y155 y156 y157 y158 y159 y160 y161 y162 y163 y164 y165 y166 y167 y168 y169 y170 y171 y172 y173 y174 y175 y176 y177 y178 y179 y180 y181 y182 y183 y184 y185 y186 y187 y188 y189 y190 y191 y192 y193 y194 y195 y196 y197 y198 y199 y200 y201 y202 y203 y204 y205 y206 y207 y208 y209 y210 y211 y212 y213 y214 y215 y216 y217 y218 y219 y220 y221 y222 y223 y224 y225 y226 y227 y228 y229 y230 y231 y232 y233 y234 y235 y236 y237 y238 y239 y240 y241 y242 y243 y244 y245 y246 y247 y248 y249 y250 y251 y252 y253 y254 y255 y256 y257 y258 y259 y260 y261 y262 y263 y264 y265 y266 y267 y268 y269 y270 y271 y272 y273 y274 y275 y276 y277 y278 y279 y280 y281 y282 y283 y284 y285 y286 y287 y288 y289 : Value⦄ ⦃w' : World⦄, zaa (b = (b4 || !(plFrom l0_7 0))) → zaa (LS w w' gb (locV a0_0 a0_1 a0_2 a0_3 a0_4 (.slice A0_5 l0_5.length c0_5) a0_6 (.slice A0_7 l0_7.length c0_7) a0_8 a0_9 a0_10 a0_11 (.slice A0_12 l0_12.length c0_12) (.slice A0_13 l0_13.length c0_13) a0_14)) → Q .normal ⟨((.agg #[.string a0_0, .string a0_1, .string a0_2, .string a0_3, .string a0_4, .slice A0_5 l0_5.length c0_5, .int .i64 a0_6, .slice A0_7 l0_7.length c0_7, .string a0_8, .string a0_9, .string a0_10, .string a0_11, .slice A0_12 l0_12.length c0_12, .slice A0_13 l0_13.length c0_13, .string a0_14]) :: (.pointer (some ⟨gb, 0, none⟩)) :: (.int .i64 0) :: (.bool b) :: y4 :: y5 :: y6 :: y7 :: y8 :: y9 :: y10 :: y11 :: y12 :: y13 :: y14 :: y15 :: y16 :: y17 :: y18 :: y19 :: y20 :: y21 :: y22 :: y23 :: y24 :: y25 :: y26 :: y27 :: y28 :: y29 :: y30 :: y31 :: y32 :: y33 :: y34 :: y35 :: y36 :: y37 :: y38 :: y39 :: y40 :: y41 :: y42 :: y43 :: y44 :: y45 :: y46 :: y47 :: y48 :: y49 :: y50 :: y51 :: y52 :: y53 :: y54 :: y55 :: y56 :: y57 :: y58 :: y59 :: y60 :: y61 :: y62 :: y63 :: y64 :: y65 :: y66 :: y67 :: y68 :: y69 :: y70 :: y71 :: y72 :: y73 :: y74 :: y75 :: y76 :: y77 :: y78 :: y79 :: y80 :: y81 :: y82 :: y83 :: y84 :: y85 :: y86 :: y87 :: y88 :: y89 :: y90 :: y91 :: y92 :: y93 :: y94 :: y95 :: y96 :: y97 :: y98 :: y99 :: y100 :: y101 :: y102 :: y103 :: y104 :: y105 :: y106 :: y107 :: y108 :: y109 :: y110 :: y111 :: y112 :: y113 :: y114 :: y115 :: y116 :: y117 :: y118 :: y119 :: y120 :: y121 :: y122 :: y123 :: y124 :: y125 :: y126 :: y127 :: y128 :: y129 :: y130 :: y131 :: y132 :: y133 :: y134 :: y135 :: y136 :: y137 :: y138 :: y139 :: y140 :: y141 :: y142 :: y143 :: y144 :: y145 :: y146 :: y147 :: y148 :: y149 :: y150 :: y151 :: y152 :: y153 :: y154 :: y155 :: y156 :: y157 :: y158 :: y159 :: y160 :: y161 :: y162 :: y163 :: y164 :: y165 :: y166 :: y167 :: y168 :: y169 :: y170 :: y171 :: y172 :: y173 :: y174 :: y175 :: y176 :: y177 :: y178 :: y179 :: y180 :: y181 :: y182 :: y183 :: y184 :: y185 :: y186 :: y187 :: y188 :: y189 :: y190 :: y191 :: y192 :: y193 :: y194 :: y195 :: y196 :: y197 :: y198 :: y199 :: y200 :: y201 :: y202 :: y203 :: y204 :: y205 :: y206 :: y207 :: y208 :: y209 :: y210 :: y211 :: y212 :: y213 :: y214 :: y215 :: y216 :: y217 :: y218 :: y219 :: y220 :: y221 :: y222 :: y223 :: y224 :: y225 :: y226 :: y227 :: y228 :: y229 :: y230 :: y231 :: y232 :: y233 :: y234 :: y235 :: y236 :: y237 :: y238 :: y239 :: y240 :: y241 :: y242 :: y243 :: y244 :: y245 :: y246 :: y247 :: y248 :: y249 :: y250 :: y251 :: y252 :: y253 :: y254 :: y255 :: y256 :: y257 :: y258 :: y259 :: y260 :: y261 :: y262 :: y263 :: y264 :: y265 :: y266 :: y267 :: y268 :: y269 :: y270 :: y271 :: y272 :: y273 :: y274 :: y275 :: y276 :: y277 :: y278 :: y279 :: y280 :: y281 :: y282 :: y283 :: y284 :: y285 :: y286 :: y287 :: y288 :: y289 :: []).toArray, []⟩ w') :
  Code.wp Tryz.prog (lfCode 5) Q ⟨((.agg #[.string a0_0, .string a0_1, .string a0_2, .string a0_3, .string a0_4, .slice A0_5 l0_5.length c0_5, .int .i64 a0_6, .slice A0_7 l0_7.length c0_7, .string a0_8, .string a0_9, .string a0_10, .string a0_11, .slice A0_12 l0_12.length c0_12, .slice A0_13 l0_13.length c0_13, .string a0_14]) :: (.pointer (some ⟨gb, 0, none⟩)) :: (.int .i64 0) :: (.bool b4) :: x4 :: x5 :: x6 :: x7 :: x8 :: x9 :: x10 :: x11 :: x12 :: x13 :: x14 :: x15 :: x16 :: x17 :: x18 :: x19 :: x20 :: x21 :: x22 :: x23 :: x24 :: x25 :: x26 :: x27 :: x28 :: x29 :: x30 :: x31 :: x32 :: x33 :: x34 :: x35 :: x36 :: x37 :: x38 :: x39 :: x40 :: x41 :: x42 :: x43 :: x44 :: x45 :: x46 :: x47 :: x48 :: x49 :: x50 :: x51 :: x52 :: x53 :: x54 :: x55 :: x56 :: x57 :: x58 :: x59 :: x60 :: x61 :: x62 :: x63 :: x64 :: x65 :: x66 :: x67 :: x68 :: x69 :: x70 :: x71 :: x72 :: x73 :: x74 :: x75 :: x76 :: x77 :: x78 :: x79 :: x80 :: x81 :: x82 :: x83 :: x84 :: x85 :: x86 :: x87 :: x88 :: x89 :: x90 :: x91 :: x92 :: x93 :: x94 :: x95 :: x96 :: x97 :: x98 :: x99 :: x100 :: x101 :: x102 :: x103 :: x104 :: x105 :: x106 :: x107 :: x108 :: x109 :: x110 :: x111 :: x112 :: x113 :: x114 :: x115 :: x116 :: x117 :: x118 :: x119 :: x120 :: x121 :: x122 :: x123 :: x124 :: x125 :: x126 :: x127 :: x128 :: x129 :: x130 :: x131 :: x132 :: x133 :: x134 :: x135 :: x136 :: x137 :: x138 :: x139 :: x140 :: x141 :: x142 :: x143 :: x144 :: x145 :: x146 :: x147 :: x148 :: x149 :: x150 :: x151 :: x152 :: x153 :: x154 :: x155 :: x156 :: x157 :: x158 :: x159 :: x160 :: x161 :: x162 :: x163 :: x164 :: x165 :: x166 :: x167 :: x168 :: x169 :: x170 :: x171 :: x172 :: x173 :: x174 :: x175 :: x176 :: x177 :: x178 :: x179 :: x180 :: x181 :: x182 :: x183 :: x184 :: x185 :: x186 :: x187 :: x188 :: x189 :: x190 :: x191 :: x192 :: x193 :: x194 :: x195 :: x196 :: x197 :: x198 :: x199 :: x200 :: x201 :: x202 :: x203 :: x204 :: x205 :: x206 :: x207 :: x208 :: x209 :: x210 :: x211 :: x212 :: x213 :: x214 :: x215 :: x216 :: x217 :: x218 :: x219 :: x220 :: x221 :: x222 :: x223 :: x224 :: x225 :: x226 :: x227 :: x228 :: x229 :: x230 :: x231 :: x232 :: x233 :: x234 :: x235 :: x236 :: x237 :: x238 :: x239 :: x240 :: x241 :: x242 :: x243 :: x244 :: x245 :: x246 :: x247 :: x248 :: x249 :: x250 :: x251 :: x252 :: x253 :: x254 :: x255 :: x256 :: x257 :: x258 :: x259 :: x260 :: x261 :: x262 :: x263 :: x264 :: x265 :: x266 :: x267 :: x268 :: x269 :: x270 :: x271 :: x272 :: x273 :: x274 :: x275 :: x276 :: x277 :: x278 :: x279 :: x280 :: x281 :: x282 :: x283 :: x284 :: x285 :: x286 :: x287 :: x288 :: x289 :: []).toArray, []⟩ wc := by
 have HQ := zaa.mk hQ; clear hQ
 conv => arg 2; whnf
 obtain ⟨⟨s0, s1, s2, s3, s4, s8, s9, s10, s11, s14⟩, t5, t7, q7, t12, q12, t13, q13⟩ := small_parts' SM.out
 have T7 := zaa.mk t7; have Q7 := zaa.mk q7; clear SM s0 s1 s2 s3 s4 s8 s9 s10 s11 s14 t5 t7 q7 t12 q12 t13 q13
 obtain ⟨k0, k1, k2, k3, k4, k5, k6, k7, k8, k9, k10, k11, k12, k13, k14⟩ := L.out.at
 go_upto_block 4 with (fail)
 clear k0 k1 k2 k3 k4 k5 k6 k7 k8 k9 k10 k11 k12 k13 k14
 go_wp2_with (fail)
 go_loopg [3, 141] (l0_7.length + 1) (fun gk v3 v141 wr => ∃ (b : Bool) (i : Nat), v3 = .bool b ∧ v141 = .int .i64 (i : Int) ∧ zaa (i ≤ l0_7.length ∧ l0_7.length - i + 1 ≤ gk) ∧ zaa ((b4 || !(plFrom l0_7 0)) = (b || !(plFrom l0_7 i))) ∧ zaa (LS w wr gb (locV a0_0 a0_1 a0_2 a0_3 a0_4 (.slice A0_5 l0_5.length c0_5) a0_6 (.slice A0_7 l0_7.length c0_7) a0_8 a0_9 a0_10 a0_11 (.slice A0_12 l0_12.length c0_12) (.slice A0_13 l0_13.length c0_13) a0_14)))
 case atStart => exact ⟨_, 0, rfl, rfl, ⟨Nat.zero_le _, Nat.le_refl _⟩, ⟨rfl⟩, L⟩
 case round =>
  clear L
  obtain ⟨b, i, rfl, rfl, HK, HBT, L⟩ := hrel
  cases gk with
  | zero => exact absurd HK.out.2 yq9
  | succ fu =>
   obtain ⟨k0, k1, k2, k3, k4, k5, k6, k7, k8, k9, k10, k11, k12, k13, k14⟩ := L.out.at
   by_cases hi : i < l0_7.length
   ·have q0 : (i : Int) < (l0_7.length : Int) := by omega
    have p0 : (0 : Int) ≤ (i : Int) := Int.natCast_nonneg i
    obtain ⟨ad, e7, hx0, hx1⟩ := at_T58 HR7l.out (i : Int) p0 q0
    cases e7
    replace hx0 := L.out.old hx0
    replace hx1 := L.out.old hx1
    rw [Int.toNat_natCast] at hx0 hx1
    obtain ⟨sm0, sm1⟩ := rd58_small Q7.out hi
    have CN := zaa.mk (cw_name (w := w) _ sm0)
    have CR := zaa.mk (cw_rule (w := w) _ sm1 HG.out)
    have h9 := HBT.out
    rw [plFrom_lt hi, ← orn'] at h9
    unfold plAt at h9
    have HS := zaa.mk h9
    have hw := w_succ i (yq15 T7.out)
    replace hi := zaa.mk hi
    clear h9 HBT sm0 sm1
    have PV : zaa (∀ h : 0 < i, w.cell? (ad.add (((i - 1 : Nat) : Int).toNat * 2)) = some (.string (rd_T58 l0_7 ((i - 1 : Nat) : Int)).f0)) := ⟨fun h => by have hl := hi.out; obtain ⟨ad2, e2, h0, _⟩ := at_T58 HR7l.out ((i - 1 : Nat) : Int) (Int.natCast_nonneg _) yq9; cases e2; exact h0⟩
    generalize (rd_T58 l0_7 ((i - 1 : Nat) : Int)).f0 = fp at *
    generalize (rd_T58 l0_7 (i : Int)).f0 = f0 at *
    generalize (rd_T58 l0_7 (i : Int)).f1 = f1 at *
    replace p0 := eq_true p0
    replace q0 := eq_true q0
    go_upto_region 17 with (first | ((with_reducible refine zaU (N := 10) rfl ?_); refine zba ?hg (N := 10) ?hd (cs := #[.string (⟨#[]⟩ : ByteArray), .string (⟨#[]⟩ : ByteArray)]) (t := 58) ?hr ?_; (case hd => rfl); (case hg => rfl); (case hr => first | (go_simp; done) | (go_simp; rfl)); intro gp hg wp hbox hb; have M := zaa.mk (L.out.boxed f0 f1 hbox hb hg); have kf0 := zah hbox 0; have kf1 := zah hbox 1; have kc0 := (zal hbox 0).trans rfl; have kc1 := (zal hbox 1).trans rfl; clear hb hbox hg) | fail)
    clear hx0 hx1 kf0 kf1 kc0 kc1 L k0 k1 k2 k3 k4 k5 k6 k7 k8 k9 k10 k11 k12 k13 k14
    generalize (wp.setCell ⟨gp, 0, none⟩ (.string f0)).setCell ⟨gp, 1, none⟩ (.string f1) = wq at M ⊢
    have hot : (f0.toList == ([111, 116, 104, 101, 114] : List UInt8)) = otherB f0 := rfl
    rcases Nat.eq_zero_or_pos i with i0 | i0
    ·have i0d : decide (i = 0) = true := decide_eq_true i0
     have zi : decide ((i : Int) > 0) = false := decide_eq_false yq9
     have zj : (0 < i) = False := eq_false yq9
     clear PV i0
     cases b with
     | true =>
      have HN : zaa ((b4 || !(plFrom l0_7 0)) = (true || !(plFrom l0_7 (i + 1)))) := ⟨by have h9 := HS.out; rw [h9]; simp [i0d]⟩
      clear HS CN CR hot
      refine sn_ (n := 35) (S := fun w' => L2 w w' gb (locV a0_0 a0_1 a0_2 a0_3 a0_4 (.slice A0_5 l0_5.length c0_5) a0_6 (.slice (some ad) l0_7.length c0_7) a0_8 a0_9 a0_10 a0_11 (.slice A0_12 l0_12.length c0_12) (.slice A0_13 l0_13.length c0_13) a0_14) gp f0 f1) yq10 rfl yq30 M.out.drew (fun hHeld => ?_)
      refine zbo zaB.tab17 zaB.bits17 (fun HT_ HW_ => ?_)
      generalize wq.drew = w3 at hHeld ⊢
      clear M
      repeat (first
       | (refine pn_ 146 (v := undef) (a' := ?_) rfl rfl HT_ yq10 (fun _ _ _ h => HP.out _ _ _ _ _ h) (Or.inr ⟨yq30, rfl⟩) ?_ ?_; rotate_left; (simp only [Act.put, Nat.reduceAdd, List.setIfInBounds_toArray, List.set_cons_zero, List.set_cons_succ, zaE, zaH]; rfl); skip)
       | (refine pn_ 146 (v := ?_) (a' := ?_) rfl rfl HT_ yq10 (fun _ _ _ h => HP.out _ _ _ _ _ h) (Or.inl ⟨yq30, ?_⟩) ?_ ?_; rotate_left; (intro w'; go_simp; with_reducible rfl); rotate_left; (simp only [Act.put, Nat.reduceAdd, List.setIfInBounds_toArray, List.set_cons_zero, List.set_cons_succ, zaE, zaH]; rfl))
       | (refine tn_ 146 (v := ?_) (a' := ?_) rfl rfl HT_ HW_ yq10 (fun _ _ _ h => HP.out _ _ _ _ _ h) (Or.inl ⟨yq30, ?_⟩) hHeld ?_ ?_; rotate_left; (intro w' hS; obtain ⟨c0, c1, c7⟩ := hS.at; go_simp; with_reducible rfl); rotate_left; (simp only [Act.put, Nat.reduceAdd, List.setIfInBounds_toArray, List.set_cons_zero, List.set_cons_succ, zaE, zaH]; rfl))
       | fail)
      refine pf_ 3 (v := ?_) (a' := ?_) rfl rfl HT_ yq10 (fun _ _ _ h => HP.out _ _ _ _ _ h) (Or.inl ⟨yq30, ?_⟩) ?_ ?_; rotate_left; (intro w'; go_simp; with_reducible rfl); rotate_left; (simp only [Act.put, Nat.reduceAdd, List.setIfInBounds_toArray, List.set_cons_zero, List.set_cons_succ, zaE, zaH]; rfl)
      refine dn_ HT_ yq10 ?_
      try go_wp2
      go_roundg fu
      case measure => have := HK.out; omega
      case rel => exact ⟨true, i + 1, rfl, yq23, ⟨yq15 hi.out, yq19 HK.out hi.out⟩, HN, ⟨hHeld.l⟩⟩
     | false =>
      cases gn : nameB f0 with
      | false =>
       have CN1 : zaa (CW w 41 #[.string f0] (.bool false)) := gn ▸ CN
       have HN : zaa ((b4 || !(plFrom l0_7 0)) = (true || !(plFrom l0_7 (i + 1)))) := ⟨by have h9 := HS.out; rw [h9]; simp [gn, i0d]⟩
       clear HS CN CR hot
       refine sn_ (n := 35) (S := fun w' => L2 w w' gb (locV a0_0 a0_1 a0_2 a0_3 a0_4 (.slice A0_5 l0_5.length c0_5) a0_6 (.slice (some ad) l0_7.length c0_7) a0_8 a0_9 a0_10 a0_11 (.slice A0_12 l0_12.length c0_12) (.slice A0_13 l0_13.length c0_13) a0_14) gp f0 f1) yq10 rfl yq30 M.out.drew (fun hHeld => ?_)
       refine zbo zaB.tab17 zaB.bits17 (fun HT_ HW_ => ?_)
       generalize wq.drew = w3 at hHeld ⊢
       clear M
       repeat (first
        | (refine pn_ 146 (v := undef) (a' := ?_) rfl rfl HT_ yq10 (fun _ _ _ h => HP.out _ _ _ _ _ h) (Or.inr ⟨yq30, rfl⟩) ?_ ?_; rotate_left; (simp only [Act.put, Nat.reduceAdd, List.setIfInBounds_toArray, List.set_cons_zero, List.set_cons_succ, zaE, zaH]; rfl); skip)
        | (refine pn_ 146 (v := ?_) (a' := ?_) rfl rfl HT_ yq10 (fun _ _ _ h => HP.out _ _ _ _ _ h) (Or.inl ⟨yq30, ?_⟩) ?_ ?_; rotate_left; (intro w'; go_simp; with_reducible rfl); rotate_left; (simp only [Act.put, Nat.reduceAdd, List.setIfInBounds_toArray, List.set_cons_zero, List.set_cons_succ, zaE, zaH]; rfl))
        | (refine tn_ 146 (v := ?_) (a' := ?_) rfl rfl HT_ HW_ yq10 (fun _ _ _ h => HP.out _ _ _ _ _ h) (Or.inl ⟨yq30, ?_⟩) hHeld ?_ ?_; rotate_left; (intro w' hS; obtain ⟨c0, c1, c7⟩ := hS.at; go_simp; with_reducible rfl); rotate_left; (simp only [Act.put, Nat.reduceAdd, List.setIfInBounds_toArray, List.set_cons_zero, List.set_cons_succ, zaE, zaH]; rfl))
        | (refine on_ 146 rfl rfl HT_ yq10 (fun K hK => ?_); refine goes_ Tryz.func41 yq10 rfl #[.string f0] yq30 rfl rfl yq14 ?_; with_reducible refine (CW.go CN1.out hHeld.l.b).mono ?_; rintro e w' ⟨rfl, hb⟩; refine ⟨_, rfl, ?_⟩; refine hK.out _ _ (hHeld.step hb) (fun hHeld => ?_); clear hK K hb; refine norm_ (a' := ?_) ?_ ?_; rotate_left; (simp only [Act.put, Nat.reduceAdd, List.setIfInBounds_toArray, List.set_cons_zero, List.set_cons_succ, zaE, zaH]; rfl))
        | fail)
       refine pf_ 3 (v := ?_) (a' := ?_) rfl rfl HT_ yq10 (fun _ _ _ h => HP.out _ _ _ _ _ h) (Or.inl ⟨yq30, ?_⟩) ?_ ?_; rotate_left; (intro w'; go_simp; with_reducible rfl); rotate_left; (simp only [Act.put, Nat.reduceAdd, List.setIfInBounds_toArray, List.set_cons_zero, List.set_cons_succ, zaE, zaH]; rfl)
       refine dn_ HT_ yq10 ?_
       try go_wp2
       go_roundg fu
       case measure => have := HK.out; omega
       case rel => exact ⟨true, i + 1, rfl, yq23, ⟨yq15 hi.out, yq19 HK.out hi.out⟩, HN, ⟨hHeld.l⟩⟩
      | true =>
       cases go : (!otherB f0) with
       | false =>
        have CN1 : zaa (CW w 41 #[.string f0] (.bool true)) := gn ▸ CN
        have ho : (f0.toList == ([111, 116, 104, 101, 114] : List UInt8)) = true := hot.trans yq29
        have HN : zaa ((b4 || !(plFrom l0_7 0)) = (true || !(plFrom l0_7 (i + 1)))) := ⟨by have h9 := HS.out; rw [h9]; simp [gn, go, i0d]⟩
        clear HS CN CR hot
        refine sn_ (n := 35) (S := fun w' => L2 w w' gb (locV a0_0 a0_1 a0_2 a0_3 a0_4 (.slice A0_5 l0_5.length c0_5) a0_6 (.slice (some ad) l0_7.length c0_7) a0_8 a0_9 a0_10 a0_11 (.slice A0_12 l0_12.length c0_12) (.slice A0_13 l0_13.length c0_13) a0_14) gp f0 f1) yq10 rfl yq30 M.out.drew (fun hHeld => ?_)
        refine zbo zaB.tab17 zaB.bits17 (fun HT_ HW_ => ?_)
        generalize wq.drew = w3 at hHeld ⊢
        clear M
        repeat (first
         | (refine pn_ 146 (v := undef) (a' := ?_) rfl rfl HT_ yq10 (fun _ _ _ h => HP.out _ _ _ _ _ h) (Or.inr ⟨yq30, rfl⟩) ?_ ?_; rotate_left; (simp only [Act.put, Nat.reduceAdd, List.setIfInBounds_toArray, List.set_cons_zero, List.set_cons_succ, zaE, zaH]; rfl); skip)
         | (refine pn_ 146 (v := ?_) (a' := ?_) rfl rfl HT_ yq10 (fun _ _ _ h => HP.out _ _ _ _ _ h) (Or.inl ⟨yq30, ?_⟩) ?_ ?_; rotate_left; (intro w'; go_simp; with_reducible rfl); rotate_left; (simp only [Act.put, Nat.reduceAdd, List.setIfInBounds_toArray, List.set_cons_zero, List.set_cons_succ, zaE, zaH]; rfl))
         | (refine tn_ 146 (v := ?_) (a' := ?_) rfl rfl HT_ HW_ yq10 (fun _ _ _ h => HP.out _ _ _ _ _ h) (Or.inl ⟨yq30, ?_⟩) hHeld ?_ ?_; rotate_left; (intro w' hS; obtain ⟨c0, c1, c7⟩ := hS.at; go_simp; with_reducible rfl); rotate_left; (simp only [Act.put, Nat.reduceAdd, List.setIfInBounds_toArray, List.set_cons_zero, List.set_cons_succ, zaE, zaH]; rfl))
         | (refine on_ 146 rfl rfl HT_ yq10 (fun K hK => ?_); refine goes_ Tryz.func41 yq10 rfl #[.string f0] yq30 rfl rfl yq14 ?_; with_reducible refine (CW.go CN1.out hHeld.l.b).mono ?_; rintro e w' ⟨rfl, hb⟩; refine ⟨_, rfl, ?_⟩; refine hK.out _ _ (hHeld.step hb) (fun hHeld => ?_); clear hK K hb; refine norm_ (a' := ?_) ?_ ?_; rotate_left; (simp only [Act.put, Nat.reduceAdd, List.setIfInBounds_toArray, List.set_cons_zero, List.set_cons_succ, zaE, zaH]; rfl))
         | fail)
        refine pf_ 3 (v := ?_) (a' := ?_) rfl rfl HT_ yq10 (fun _ _ _ h => HP.out _ _ _ _ _ h) (Or.inl ⟨yq30, ?_⟩) ?_ ?_; rotate_left; (intro w'; go_simp; with_reducible rfl); rotate_left; (simp only [Act.put, Nat.reduceAdd, List.setIfInBounds_toArray, List.set_cons_zero, List.set_cons_succ, zaE, zaH]; rfl)
        refine dn_ HT_ yq10 ?_
        try go_wp2
        go_roundg fu
        case measure => have := HK.out; omega
        case rel => exact ⟨true, i + 1, rfl, yq23, ⟨yq15 hi.out, yq19 HK.out hi.out⟩, HN, ⟨hHeld.l⟩⟩
       | true =>
        cases gr : ruleB f1 with
        | false =>
         have CN1 : zaa (CW w 41 #[.string f0] (.bool true)) := gn ▸ CN
         have CR1 : zaa (CW w 47 #[.string f1] (.int .i64 1)) := ⟨yq39 CR.out⟩
         have ho : (f0.toList == ([111, 116, 104, 101, 114] : List UInt8)) = false := hot.trans yq29
         have HN : zaa ((b4 || !(plFrom l0_7 0)) = (true || !(plFrom l0_7 (i + 1)))) := ⟨by have h9 := HS.out; rw [h9]; simp [gn, go, gr, i0d]⟩
         clear HS CN CR hot
         refine sn_ (n := 35) (S := fun w' => L2 w w' gb (locV a0_0 a0_1 a0_2 a0_3 a0_4 (.slice A0_5 l0_5.length c0_5) a0_6 (.slice (some ad) l0_7.length c0_7) a0_8 a0_9 a0_10 a0_11 (.slice A0_12 l0_12.length c0_12) (.slice A0_13 l0_13.length c0_13) a0_14) gp f0 f1) yq10 rfl yq30 M.out.drew (fun hHeld => ?_)
         refine zbo zaB.tab17 zaB.bits17 (fun HT_ HW_ => ?_)
         generalize wq.drew = w3 at hHeld ⊢
         clear M
         repeat (first
          | (refine pn_ 146 (v := undef) (a' := ?_) rfl rfl HT_ yq10 (fun _ _ _ h => HP.out _ _ _ _ _ h) (Or.inr ⟨yq30, rfl⟩) ?_ ?_; rotate_left; (simp only [Act.put, Nat.reduceAdd, List.setIfInBounds_toArray, List.set_cons_zero, List.set_cons_succ, zaE, zaH]; rfl); skip)
          | (refine pn_ 146 (v := ?_) (a' := ?_) rfl rfl HT_ yq10 (fun _ _ _ h => HP.out _ _ _ _ _ h) (Or.inl ⟨yq30, ?_⟩) ?_ ?_; rotate_left; (intro w'; go_simp; with_reducible rfl); rotate_left; (simp only [Act.put, Nat.reduceAdd, List.setIfInBounds_toArray, List.set_cons_zero, List.set_cons_succ, zaE, zaH]; rfl))
          | (refine tn_ 146 (v := ?_) (a' := ?_) rfl rfl HT_ HW_ yq10 (fun _ _ _ h => HP.out _ _ _ _ _ h) (Or.inl ⟨yq30, ?_⟩) hHeld ?_ ?_; rotate_left; (intro w' hS; obtain ⟨c0, c1, c7⟩ := hS.at; go_simp; with_reducible rfl); rotate_left; (simp only [Act.put, Nat.reduceAdd, List.setIfInBounds_toArray, List.set_cons_zero, List.set_cons_succ, zaE, zaH]; rfl))
          | (refine on_ 146 rfl rfl HT_ yq10 (fun K hK => ?_); refine goes_ Tryz.func41 yq10 rfl #[.string f0] yq30 rfl rfl yq14 ?_; with_reducible refine (CW.go CN1.out hHeld.l.b).mono ?_; rintro e w' ⟨rfl, hb⟩; refine ⟨_, rfl, ?_⟩; refine hK.out _ _ (hHeld.step hb) (fun hHeld => ?_); clear hK K hb; refine norm_ (a' := ?_) ?_ ?_; rotate_left; (simp only [Act.put, Nat.reduceAdd, List.setIfInBounds_toArray, List.set_cons_zero, List.set_cons_succ, zaE, zaH]; rfl))
          | (refine on_ 146 rfl rfl HT_ yq10 (fun K hK => ?_); refine goes_ Tryz.func47 yq10 rfl #[.string f1] yq30 rfl rfl yq14 ?_; with_reducible refine (CW.go CR1.out hHeld.l.b).mono ?_; rintro e w' ⟨rfl, hb⟩; refine ⟨_, rfl, ?_⟩; refine hK.out _ _ (hHeld.step hb) (fun hHeld => ?_); clear hK K hb; refine norm_ (a' := ?_) ?_ ?_; rotate_left; (simp only [Act.put, Nat.reduceAdd, List.setIfInBounds_toArray, List.set_cons_zero, List.set_cons_succ, zaE, zaH]; rfl))
          | fail)
         refine pf_ 3 (v := ?_) (a' := ?_) rfl rfl HT_ yq10 (fun _ _ _ h => HP.out _ _ _ _ _ h) (Or.inl ⟨yq30, ?_⟩) ?_ ?_; rotate_left; (intro w'; go_simp; with_reducible rfl); rotate_left; (simp only [Act.put, Nat.reduceAdd, List.setIfInBounds_toArray, List.set_cons_zero, List.set_cons_succ, zaE, zaH]; rfl)
         refine dn_ HT_ yq10 ?_
         try go_wp2
         go_roundg fu
         case measure => have := HK.out; omega
         case rel => exact ⟨true, i + 1, rfl, yq23, ⟨yq15 hi.out, yq19 HK.out hi.out⟩, HN, ⟨hHeld.l⟩⟩
        | true =>
         have CN1 : zaa (CW w 41 #[.string f0] (.bool true)) := gn ▸ CN
         have CR1 : zaa (CW w 47 #[.string f1] (.int .i64 0)) := ⟨yq39 CR.out⟩
         have ho : (f0.toList == ([111, 116, 104, 101, 114] : List UInt8)) = false := hot.trans yq29
         have HN : zaa ((b4 || !(plFrom l0_7 0)) = (false || !(plFrom l0_7 (i + 1)))) := ⟨by have h9 := HS.out; rw [h9]; simp [gn, go, gr, i0d]⟩
         clear HS CN CR hot
         refine sn_ (n := 35) (S := fun w' => L2 w w' gb (locV a0_0 a0_1 a0_2 a0_3 a0_4 (.slice A0_5 l0_5.length c0_5) a0_6 (.slice (some ad) l0_7.length c0_7) a0_8 a0_9 a0_10 a0_11 (.slice A0_12 l0_12.length c0_12) (.slice A0_13 l0_13.length c0_13) a0_14) gp f0 f1) yq10 rfl yq30 M.out.drew (fun hHeld => ?_)
         refine zbo zaB.tab17 zaB.bits17 (fun HT_ HW_ => ?_)
         generalize wq.drew = w3 at hHeld ⊢
         clear M
         repeat (first
          | (refine pn_ 146 (v := undef) (a' := ?_) rfl rfl HT_ yq10 (fun _ _ _ h => HP.out _ _ _ _ _ h) (Or.inr ⟨yq30, rfl⟩) ?_ ?_; rotate_left; (simp only [Act.put, Nat.reduceAdd, List.setIfInBounds_toArray, List.set_cons_zero, List.set_cons_succ, zaE, zaH]; rfl); skip)
          | (refine pn_ 146 (v := ?_) (a' := ?_) rfl rfl HT_ yq10 (fun _ _ _ h => HP.out _ _ _ _ _ h) (Or.inl ⟨yq30, ?_⟩) ?_ ?_; rotate_left; (intro w'; go_simp; with_reducible rfl); rotate_left; (simp only [Act.put, Nat.reduceAdd, List.setIfInBounds_toArray, List.set_cons_zero, List.set_cons_succ, zaE, zaH]; rfl))
          | (refine tn_ 146 (v := ?_) (a' := ?_) rfl rfl HT_ HW_ yq10 (fun _ _ _ h => HP.out _ _ _ _ _ h) (Or.inl ⟨yq30, ?_⟩) hHeld ?_ ?_; rotate_left; (intro w' hS; obtain ⟨c0, c1, c7⟩ := hS.at; go_simp; with_reducible rfl); rotate_left; (simp only [Act.put, Nat.reduceAdd, List.setIfInBounds_toArray, List.set_cons_zero, List.set_cons_succ, zaE, zaH]; rfl))
          | (refine on_ 146 rfl rfl HT_ yq10 (fun K hK => ?_); refine goes_ Tryz.func41 yq10 rfl #[.string f0] yq30 rfl rfl yq14 ?_; with_reducible refine (CW.go CN1.out hHeld.l.b).mono ?_; rintro e w' ⟨rfl, hb⟩; refine ⟨_, rfl, ?_⟩; refine hK.out _ _ (hHeld.step hb) (fun hHeld => ?_); clear hK K hb; refine norm_ (a' := ?_) ?_ ?_; rotate_left; (simp only [Act.put, Nat.reduceAdd, List.setIfInBounds_toArray, List.set_cons_zero, List.set_cons_succ, zaE, zaH]; rfl))
          | (refine on_ 146 rfl rfl HT_ yq10 (fun K hK => ?_); refine goes_ Tryz.func47 yq10 rfl #[.string f1] yq30 rfl rfl yq14 ?_; with_reducible refine (CW.go CR1.out hHeld.l.b).mono ?_; rintro e w' ⟨rfl, hb⟩; refine ⟨_, rfl, ?_⟩; refine hK.out _ _ (hHeld.step hb) (fun hHeld => ?_); clear hK K hb; refine norm_ (a' := ?_) ?_ ?_; rotate_left; (simp only [Act.put, Nat.reduceAdd, List.setIfInBounds_toArray, List.set_cons_zero, List.set_cons_succ, zaE, zaH]; rfl))
          | fail)
         refine pf_ 3 (v := ?_) (a' := ?_) rfl rfl HT_ yq10 (fun _ _ _ h => HP.out _ _ _ _ _ h) (Or.inl ⟨yq30, ?_⟩) ?_ ?_; rotate_left; (intro w'; go_simp; with_reducible rfl); rotate_left; (simp only [Act.put, Nat.reduceAdd, List.setIfInBounds_toArray, List.set_cons_zero, List.set_cons_succ, zaE, zaH]; rfl)
         refine dn_ HT_ yq10 ?_
         try go_wp2
         go_roundg fu
         case measure => have := HK.out; omega
         case rel => exact ⟨false, i + 1, rfl, yq23, ⟨yq15 hi.out, yq19 HK.out hi.out⟩, HN, ⟨hHeld.l⟩⟩
    have i0d : decide (i = 0) = false := decide_eq_false yq9
    have zi : decide ((i : Int) > 0) = true := decide_eq_true yq9
    have hxp := PV.out i0
    obtain ⟨j, hj⟩ : ∃ j : Int, j = ((i - 1 : Nat) : Int) := ⟨_, rfl⟩
    have hjw : IntKind.i64.wrap ((i : Int) - 1) = j := (zaE _).trans (by rw [hj]; have := T7.out; have := hi.out; rw [w64 yq9 yq9]; omega)
    have pj : (0 ≤ j) = True := eq_true yq9
    have qj : (j < (l0_7.length : Int)) = True := eq_true (yq15 hi.out)
    rw [← hj] at hxp
    clear PV hj
    cases b with
    | true =>
     have HN : zaa ((b4 || !(plFrom l0_7 0)) = (true || !(plFrom l0_7 (i + 1)))) := ⟨by have h9 := HS.out; rw [h9]; simp [i0d]⟩
     clear HS CN CR hot
     refine sn_ (n := 35) (S := fun w' => L2 w w' gb (locV a0_0 a0_1 a0_2 a0_3 a0_4 (.slice A0_5 l0_5.length c0_5) a0_6 (.slice (some ad) l0_7.length c0_7) a0_8 a0_9 a0_10 a0_11 (.slice A0_12 l0_12.length c0_12) (.slice A0_13 l0_13.length c0_13) a0_14) gp f0 f1) yq10 rfl yq30 M.out.drew (fun hHeld => ?_)
     refine zbo zaB.tab17 zaB.bits17 (fun HT_ HW_ => ?_)
     generalize wq.drew = w3 at hHeld ⊢
     clear M
     repeat (first
      | (refine pn_ 146 (v := undef) (a' := ?_) rfl rfl HT_ yq10 (fun _ _ _ h => HP.out _ _ _ _ _ h) (Or.inr ⟨yq30, rfl⟩) ?_ ?_; rotate_left; (simp only [Act.put, Nat.reduceAdd, List.setIfInBounds_toArray, List.set_cons_zero, List.set_cons_succ, zaE, zaH]; rfl); skip)
      | (refine pn_ 146 (v := ?_) (a' := ?_) rfl rfl HT_ yq10 (fun _ _ _ h => HP.out _ _ _ _ _ h) (Or.inl ⟨yq30, ?_⟩) ?_ ?_; rotate_left; (intro w'; go_simp; with_reducible rfl); rotate_left; (simp only [Act.put, Nat.reduceAdd, List.setIfInBounds_toArray, List.set_cons_zero, List.set_cons_succ, zaE, zaH]; rfl))
      | (refine tn_ 146 (v := ?_) (a' := ?_) rfl rfl HT_ HW_ yq10 (fun _ _ _ h => HP.out _ _ _ _ _ h) (Or.inl ⟨yq30, ?_⟩) hHeld ?_ ?_; rotate_left; (intro w' hS; obtain ⟨c0, c1, c7⟩ := hS.at; have c9 := hS.old hxp; go_simp; with_reducible rfl); rotate_left; (simp only [Act.put, Nat.reduceAdd, List.setIfInBounds_toArray, List.set_cons_zero, List.set_cons_succ, zaE, zaH]; rfl))
      | fail)
     refine pf_ 3 (v := ?_) (a' := ?_) rfl rfl HT_ yq10 (fun _ _ _ h => HP.out _ _ _ _ _ h) (Or.inl ⟨yq30, ?_⟩) ?_ ?_; rotate_left; (intro w'; go_simp; with_reducible rfl); rotate_left; (simp only [Act.put, Nat.reduceAdd, List.setIfInBounds_toArray, List.set_cons_zero, List.set_cons_succ, zaE, zaH]; rfl)
     refine dn_ HT_ yq10 ?_
     try go_wp2
     go_roundg fu
     case measure => have := HK.out; omega
     case rel => exact ⟨true, i + 1, rfl, yq23, ⟨yq15 hi.out, yq19 HK.out hi.out⟩, HN, ⟨hHeld.l⟩⟩
    | false =>
     cases gn : nameB f0 with
     | false =>
      have CN1 : zaa (CW w 41 #[.string f0] (.bool false)) := gn ▸ CN
      have HN : zaa ((b4 || !(plFrom l0_7 0)) = (true || !(plFrom l0_7 (i + 1)))) := ⟨by have h9 := HS.out; rw [h9]; simp [gn, i0d]⟩
      clear HS CN CR hot
      refine sn_ (n := 35) (S := fun w' => L2 w w' gb (locV a0_0 a0_1 a0_2 a0_3 a0_4 (.slice A0_5 l0_5.length c0_5) a0_6 (.slice (some ad) l0_7.length c0_7) a0_8 a0_9 a0_10 a0_11 (.slice A0_12 l0_12.length c0_12) (.slice A0_13 l0_13.length c0_13) a0_14) gp f0 f1) yq10 rfl yq30 M.out.drew (fun hHeld => ?_)
      refine zbo zaB.tab17 zaB.bits17 (fun HT_ HW_ => ?_)
      generalize wq.drew = w3 at hHeld ⊢
      clear M
      repeat (first
       | (refine pn_ 146 (v := undef) (a' := ?_) rfl rfl HT_ yq10 (fun _ _ _ h => HP.out _ _ _ _ _ h) (Or.inr ⟨yq30, rfl⟩) ?_ ?_; rotate_left; (simp only [Act.put, Nat.reduceAdd, List.setIfInBounds_toArray, List.set_cons_zero, List.set_cons_succ, zaE, zaH]; rfl); skip)
       | (refine pn_ 146 (v := ?_) (a' := ?_) rfl rfl HT_ yq10 (fun _ _ _ h => HP.out _ _ _ _ _ h) (Or.inl ⟨yq30, ?_⟩) ?_ ?_; rotate_left; (intro w'; go_simp; with_reducible rfl); rotate_left; (simp only [Act.put, Nat.reduceAdd, List.setIfInBounds_toArray, List.set_cons_zero, List.set_cons_succ, zaE, zaH]; rfl))
       | (refine tn_ 146 (v := ?_) (a' := ?_) rfl rfl HT_ HW_ yq10 (fun _ _ _ h => HP.out _ _ _ _ _ h) (Or.inl ⟨yq30, ?_⟩) hHeld ?_ ?_; rotate_left; (intro w' hS; obtain ⟨c0, c1, c7⟩ := hS.at; have c9 := hS.old hxp; go_simp; with_reducible rfl); rotate_left; (simp only [Act.put, Nat.reduceAdd, List.setIfInBounds_toArray, List.set_cons_zero, List.set_cons_succ, zaE, zaH]; rfl))
       | (refine on_ 146 rfl rfl HT_ yq10 (fun K hK => ?_); refine goes_ Tryz.func41 yq10 rfl #[.string f0] yq30 rfl rfl yq14 ?_; with_reducible refine (CW.go CN1.out hHeld.l.b).mono ?_; rintro e w' ⟨rfl, hb⟩; refine ⟨_, rfl, ?_⟩; refine hK.out _ _ (hHeld.step hb) (fun hHeld => ?_); clear hK K hb; refine norm_ (a' := ?_) ?_ ?_; rotate_left; (simp only [Act.put, Nat.reduceAdd, List.setIfInBounds_toArray, List.set_cons_zero, List.set_cons_succ, zaE, zaH]; rfl))
       | fail)
      refine pf_ 3 (v := ?_) (a' := ?_) rfl rfl HT_ yq10 (fun _ _ _ h => HP.out _ _ _ _ _ h) (Or.inl ⟨yq30, ?_⟩) ?_ ?_; rotate_left; (intro w'; go_simp; with_reducible rfl); rotate_left; (simp only [Act.put, Nat.reduceAdd, List.setIfInBounds_toArray, List.set_cons_zero, List.set_cons_succ, zaE, zaH]; rfl)
      refine dn_ HT_ yq10 ?_
      try go_wp2
      go_roundg fu
      case measure => have := HK.out; omega
      case rel => exact ⟨true, i + 1, rfl, yq23, ⟨yq15 hi.out, yq19 HK.out hi.out⟩, HN, ⟨hHeld.l⟩⟩
     | true =>
      cases go : (!otherB f0) with
      | false =>
       have CN1 : zaa (CW w 41 #[.string f0] (.bool true)) := gn ▸ CN
       have ho : (f0.toList == ([111, 116, 104, 101, 114] : List UInt8)) = true := hot.trans yq29
       have HN : zaa ((b4 || !(plFrom l0_7 0)) = (true || !(plFrom l0_7 (i + 1)))) := ⟨by have h9 := HS.out; rw [h9]; simp [gn, go, i0d]⟩
       clear HS CN CR hot
       refine sn_ (n := 35) (S := fun w' => L2 w w' gb (locV a0_0 a0_1 a0_2 a0_3 a0_4 (.slice A0_5 l0_5.length c0_5) a0_6 (.slice (some ad) l0_7.length c0_7) a0_8 a0_9 a0_10 a0_11 (.slice A0_12 l0_12.length c0_12) (.slice A0_13 l0_13.length c0_13) a0_14) gp f0 f1) yq10 rfl yq30 M.out.drew (fun hHeld => ?_)
       refine zbo zaB.tab17 zaB.bits17 (fun HT_ HW_ => ?_)
       generalize wq.drew = w3 at hHeld ⊢
       clear M
       repeat (first
        | (refine pn_ 146 (v := undef) (a' := ?_) rfl rfl HT_ yq10 (fun _ _ _ h => HP.out _ _ _ _ _ h) (Or.inr ⟨yq30, rfl⟩) ?_ ?_; rotate_left; (simp only [Act.put, Nat.reduceAdd, List.setIfInBounds_toArray, List.set_cons_zero, List.set_cons_succ, zaE, zaH]; rfl); skip)
        | (refine pn_ 146 (v := ?_) (a' := ?_) rfl rfl HT_ yq10 (fun _ _ _ h => HP.out _ _ _ _ _ h) (Or.inl ⟨yq30, ?_⟩) ?_ ?_; rotate_left; (intro w'; go_simp; with_reducible rfl); rotate_left; (simp only [Act.put, Nat.reduceAdd, List.setIfInBounds_toArray, List.set_cons_zero, List.set_cons_succ, zaE, zaH]; rfl))
        | (refine tn_ 146 (v := ?_) (a' := ?_) rfl rfl HT_ HW_ yq10 (fun _ _ _ h => HP.out _ _ _ _ _ h) (Or.inl ⟨yq30, ?_⟩) hHeld ?_ ?_; rotate_left; (intro w' hS; obtain ⟨c0, c1, c7⟩ := hS.at; have c9 := hS.old hxp; go_simp; with_reducible rfl); rotate_left; (simp only [Act.put, Nat.reduceAdd, List.setIfInBounds_toArray, List.set_cons_zero, List.set_cons_succ, zaE, zaH]; rfl))
        | (refine on_ 146 rfl rfl HT_ yq10 (fun K hK => ?_); refine goes_ Tryz.func41 yq10 rfl #[.string f0] yq30 rfl rfl yq14 ?_; with_reducible refine (CW.go CN1.out hHeld.l.b).mono ?_; rintro e w' ⟨rfl, hb⟩; refine ⟨_, rfl, ?_⟩; refine hK.out _ _ (hHeld.step hb) (fun hHeld => ?_); clear hK K hb; refine norm_ (a' := ?_) ?_ ?_; rotate_left; (simp only [Act.put, Nat.reduceAdd, List.setIfInBounds_toArray, List.set_cons_zero, List.set_cons_succ, zaE, zaH]; rfl))
        | fail)
       refine pf_ 3 (v := ?_) (a' := ?_) rfl rfl HT_ yq10 (fun _ _ _ h => HP.out _ _ _ _ _ h) (Or.inl ⟨yq30, ?_⟩) ?_ ?_; rotate_left; (intro w'; go_simp; with_reducible rfl); rotate_left; (simp only [Act.put, Nat.reduceAdd, List.setIfInBounds_toArray, List.set_cons_zero, List.set_cons_succ, zaE, zaH]; rfl)
       refine dn_ HT_ yq10 ?_
       try go_wp2
       go_roundg fu
       case measure => have := HK.out; omega
       case rel => exact ⟨true, i + 1, rfl, yq23, ⟨yq15 hi.out, yq19 HK.out hi.out⟩, HN, ⟨hHeld.l⟩⟩
      | true =>
       cases gr : ruleB f1 with
       | false =>
        have CN1 : zaa (CW w 41 #[.string f0] (.bool true)) := gn ▸ CN
        have CR1 : zaa (CW w 47 #[.string f1] (.int .i64 1)) := ⟨yq39 CR.out⟩
        have ho : (f0.toList == ([111, 116, 104, 101, 114] : List UInt8)) = false := hot.trans yq29
        have HN : zaa ((b4 || !(plFrom l0_7 0)) = (true || !(plFrom l0_7 (i + 1)))) := ⟨by have h9 := HS.out; rw [h9]; simp [gn, go, gr, i0d]⟩
        clear HS CN CR hot
        refine sn_ (n := 35) (S := fun w' => L2 w w' gb (locV a0_0 a0_1 a0_2 a0_3 a0_4 (.slice A0_5 l0_5.length c0_5) a0_6 (.slice (some ad) l0_7.length c0_7) a0_8 a0_9 a0_10 a0_11 (.slice A0_12 l0_12.length c0_12) (.slice A0_13 l0_13.length c0_13) a0_14) gp f0 f1) yq10 rfl yq30 M.out.drew (fun hHeld => ?_)
        refine zbo zaB.tab17 zaB.bits17 (fun HT_ HW_ => ?_)
        generalize wq.drew = w3 at hHeld ⊢
        clear M
        repeat (first
         | (refine pn_ 146 (v := undef) (a' := ?_) rfl rfl HT_ yq10 (fun _ _ _ h => HP.out _ _ _ _ _ h) (Or.inr ⟨yq30, rfl⟩) ?_ ?_; rotate_left; (simp only [Act.put, Nat.reduceAdd, List.setIfInBounds_toArray, List.set_cons_zero, List.set_cons_succ, zaE, zaH]; rfl); skip)
         | (refine pn_ 146 (v := ?_) (a' := ?_) rfl rfl HT_ yq10 (fun _ _ _ h => HP.out _ _ _ _ _ h) (Or.inl ⟨yq30, ?_⟩) ?_ ?_; rotate_left; (intro w'; go_simp; with_reducible rfl); rotate_left; (simp only [Act.put, Nat.reduceAdd, List.setIfInBounds_toArray, List.set_cons_zero, List.set_cons_succ, zaE, zaH]; rfl))
         | (refine tn_ 146 (v := ?_) (a' := ?_) rfl rfl HT_ HW_ yq10 (fun _ _ _ h => HP.out _ _ _ _ _ h) (Or.inl ⟨yq30, ?_⟩) hHeld ?_ ?_; rotate_left; (intro w' hS; obtain ⟨c0, c1, c7⟩ := hS.at; have c9 := hS.old hxp; go_simp; with_reducible rfl); rotate_left; (simp only [Act.put, Nat.reduceAdd, List.setIfInBounds_toArray, List.set_cons_zero, List.set_cons_succ, zaE, zaH]; rfl))
         | (refine on_ 146 rfl rfl HT_ yq10 (fun K hK => ?_); refine goes_ Tryz.func41 yq10 rfl #[.string f0] yq30 rfl rfl yq14 ?_; with_reducible refine (CW.go CN1.out hHeld.l.b).mono ?_; rintro e w' ⟨rfl, hb⟩; refine ⟨_, rfl, ?_⟩; refine hK.out _ _ (hHeld.step hb) (fun hHeld => ?_); clear hK K hb; refine norm_ (a' := ?_) ?_ ?_; rotate_left; (simp only [Act.put, Nat.reduceAdd, List.setIfInBounds_toArray, List.set_cons_zero, List.set_cons_succ, zaE, zaH]; rfl))
         | (refine on_ 146 rfl rfl HT_ yq10 (fun K hK => ?_); refine goes_ Tryz.func47 yq10 rfl #[.string f1] yq30 rfl rfl yq14 ?_; with_reducible refine (CW.go CR1.out hHeld.l.b).mono ?_; rintro e w' ⟨rfl, hb⟩; refine ⟨_, rfl, ?_⟩; refine hK.out _ _ (hHeld.step hb) (fun hHeld => ?_); clear hK K hb; refine norm_ (a' := ?_) ?_ ?_; rotate_left; (simp only [Act.put, Nat.reduceAdd, List.setIfInBounds_toArray, List.set_cons_zero, List.set_cons_succ, zaE, zaH]; rfl))
         | fail)
        refine pf_ 3 (v := ?_) (a' := ?_) rfl rfl HT_ yq10 (fun _ _ _ h => HP.out _ _ _ _ _ h) (Or.inl ⟨yq30, ?_⟩) ?_ ?_; rotate_left; (intro w'; go_simp; with_reducible rfl); rotate_left; (simp only [Act.put, Nat.reduceAdd, List.setIfInBounds_toArray, List.set_cons_zero, List.set_cons_succ, zaE, zaH]; rfl)
        refine dn_ HT_ yq10 ?_
        try go_wp2
        go_roundg fu
        case measure => have := HK.out; omega
        case rel => exact ⟨true, i + 1, rfl, yq23, ⟨yq15 hi.out, yq19 HK.out hi.out⟩, HN, ⟨hHeld.l⟩⟩
       | true =>
        cases gb_ : Op.bytesLess fp.toList f0.toList with
        | false =>
         have CN1 : zaa (CW w 41 #[.string f0] (.bool true)) := gn ▸ CN
         have CR1 : zaa (CW w 47 #[.string f1] (.int .i64 0)) := ⟨yq39 CR.out⟩
         have ho : (f0.toList == ([111, 116, 104, 101, 114] : List UInt8)) = false := hot.trans yq29
         have HN : zaa ((b4 || !(plFrom l0_7 0)) = (true || !(plFrom l0_7 (i + 1)))) := ⟨by have h9 := HS.out; rw [h9]; simp [gn, go, gr, gb_, i0d]⟩
         clear HS CN CR hot
         refine sn_ (n := 35) (S := fun w' => L2 w w' gb (locV a0_0 a0_1 a0_2 a0_3 a0_4 (.slice A0_5 l0_5.length c0_5) a0_6 (.slice (some ad) l0_7.length c0_7) a0_8 a0_9 a0_10 a0_11 (.slice A0_12 l0_12.length c0_12) (.slice A0_13 l0_13.length c0_13) a0_14) gp f0 f1) yq10 rfl yq30 M.out.drew (fun hHeld => ?_)
         refine zbo zaB.tab17 zaB.bits17 (fun HT_ HW_ => ?_)
         generalize wq.drew = w3 at hHeld ⊢
         clear M
         repeat (first
          | (refine pn_ 146 (v := undef) (a' := ?_) rfl rfl HT_ yq10 (fun _ _ _ h => HP.out _ _ _ _ _ h) (Or.inr ⟨yq30, rfl⟩) ?_ ?_; rotate_left; (simp only [Act.put, Nat.reduceAdd, List.setIfInBounds_toArray, List.set_cons_zero, List.set_cons_succ, zaE, zaH]; rfl); skip)
          | (refine pn_ 146 (v := ?_) (a' := ?_) rfl rfl HT_ yq10 (fun _ _ _ h => HP.out _ _ _ _ _ h) (Or.inl ⟨yq30, ?_⟩) ?_ ?_; rotate_left; (intro w'; go_simp; with_reducible rfl); rotate_left; (simp only [Act.put, Nat.reduceAdd, List.setIfInBounds_toArray, List.set_cons_zero, List.set_cons_succ, zaE, zaH]; rfl))
          | (refine tn_ 146 (v := ?_) (a' := ?_) rfl rfl HT_ HW_ yq10 (fun _ _ _ h => HP.out _ _ _ _ _ h) (Or.inl ⟨yq30, ?_⟩) hHeld ?_ ?_; rotate_left; (intro w' hS; obtain ⟨c0, c1, c7⟩ := hS.at; have c9 := hS.old hxp; go_simp; with_reducible rfl); rotate_left; (simp only [Act.put, Nat.reduceAdd, List.setIfInBounds_toArray, List.set_cons_zero, List.set_cons_succ, zaE, zaH]; rfl))
          | (refine on_ 146 rfl rfl HT_ yq10 (fun K hK => ?_); refine goes_ Tryz.func41 yq10 rfl #[.string f0] yq30 rfl rfl yq14 ?_; with_reducible refine (CW.go CN1.out hHeld.l.b).mono ?_; rintro e w' ⟨rfl, hb⟩; refine ⟨_, rfl, ?_⟩; refine hK.out _ _ (hHeld.step hb) (fun hHeld => ?_); clear hK K hb; refine norm_ (a' := ?_) ?_ ?_; rotate_left; (simp only [Act.put, Nat.reduceAdd, List.setIfInBounds_toArray, List.set_cons_zero, List.set_cons_succ, zaE, zaH]; rfl))
          | (refine on_ 146 rfl rfl HT_ yq10 (fun K hK => ?_); refine goes_ Tryz.func47 yq10 rfl #[.string f1] yq30 rfl rfl yq14 ?_; with_reducible refine (CW.go CR1.out hHeld.l.b).mono ?_; rintro e w' ⟨rfl, hb⟩; refine ⟨_, rfl, ?_⟩; refine hK.out _ _ (hHeld.step hb) (fun hHeld => ?_); clear hK K hb; refine norm_ (a' := ?_) ?_ ?_; rotate_left; (simp only [Act.put, Nat.reduceAdd, List.setIfInBounds_toArray, List.set_cons_zero, List.set_cons_succ, zaE, zaH]; rfl))
          | fail)
         refine pf_ 3 (v := ?_) (a' := ?_) rfl rfl HT_ yq10 (fun _ _ _ h => HP.out _ _ _ _ _ h) (Or.inl ⟨yq30, ?_⟩) ?_ ?_; rotate_left; (intro w'; go_simp; with_reducible rfl); rotate_left; (simp only [Act.put, Nat.reduceAdd, List.setIfInBounds_toArray, List.set_cons_zero, List.set_cons_succ, zaE, zaH]; rfl)
         refine dn_ HT_ yq10 ?_
         try go_wp2
         go_roundg fu
         case measure => have := HK.out; omega
         case rel => exact ⟨true, i + 1, rfl, yq23, ⟨yq15 hi.out, yq19 HK.out hi.out⟩, HN, ⟨hHeld.l⟩⟩
        | true =>
         have CN1 : zaa (CW w 41 #[.string f0] (.bool true)) := gn ▸ CN
         have CR1 : zaa (CW w 47 #[.string f1] (.int .i64 0)) := ⟨yq39 CR.out⟩
         have ho : (f0.toList == ([111, 116, 104, 101, 114] : List UInt8)) = false := hot.trans yq29
         have HN : zaa ((b4 || !(plFrom l0_7 0)) = (false || !(plFrom l0_7 (i + 1)))) := ⟨by have h9 := HS.out; rw [h9]; simp [gn, go, gr, gb_, i0d]⟩
         clear HS CN CR hot
         refine sn_ (n := 35) (S := fun w' => L2 w w' gb (locV a0_0 a0_1 a0_2 a0_3 a0_4 (.slice A0_5 l0_5.length c0_5) a0_6 (.slice (some ad) l0_7.length c0_7) a0_8 a0_9 a0_10 a0_11 (.slice A0_12 l0_12.length c0_12) (.slice A0_13 l0_13.length c0_13) a0_14) gp f0 f1) yq10 rfl yq30 M.out.drew (fun hHeld => ?_)
         refine zbo zaB.tab17 zaB.bits17 (fun HT_ HW_ => ?_)
         generalize wq.drew = w3 at hHeld ⊢
         clear M
         repeat (first
          | (refine pn_ 146 (v := undef) (a' := ?_) rfl rfl HT_ yq10 (fun _ _ _ h => HP.out _ _ _ _ _ h) (Or.inr ⟨yq30, rfl⟩) ?_ ?_; rotate_left; (simp only [Act.put, Nat.reduceAdd, List.setIfInBounds_toArray, List.set_cons_zero, List.set_cons_succ, zaE, zaH]; rfl); skip)
          | (refine pn_ 146 (v := ?_) (a' := ?_) rfl rfl HT_ yq10 (fun _ _ _ h => HP.out _ _ _ _ _ h) (Or.inl ⟨yq30, ?_⟩) ?_ ?_; rotate_left; (intro w'; go_simp; with_reducible rfl); rotate_left; (simp only [Act.put, Nat.reduceAdd, List.setIfInBounds_toArray, List.set_cons_zero, List.set_cons_succ, zaE, zaH]; rfl))
          | (refine tn_ 146 (v := ?_) (a' := ?_) rfl rfl HT_ HW_ yq10 (fun _ _ _ h => HP.out _ _ _ _ _ h) (Or.inl ⟨yq30, ?_⟩) hHeld ?_ ?_; rotate_left; (intro w' hS; obtain ⟨c0, c1, c7⟩ := hS.at; have c9 := hS.old hxp; go_simp; with_reducible rfl); rotate_left; (simp only [Act.put, Nat.reduceAdd, List.setIfInBounds_toArray, List.set_cons_zero, List.set_cons_succ, zaE, zaH]; rfl))
          | (refine on_ 146 rfl rfl HT_ yq10 (fun K hK => ?_); refine goes_ Tryz.func41 yq10 rfl #[.string f0] yq30 rfl rfl yq14 ?_; with_reducible refine (CW.go CN1.out hHeld.l.b).mono ?_; rintro e w' ⟨rfl, hb⟩; refine ⟨_, rfl, ?_⟩; refine hK.out _ _ (hHeld.step hb) (fun hHeld => ?_); clear hK K hb; refine norm_ (a' := ?_) ?_ ?_; rotate_left; (simp only [Act.put, Nat.reduceAdd, List.setIfInBounds_toArray, List.set_cons_zero, List.set_cons_succ, zaE, zaH]; rfl))
          | (refine on_ 146 rfl rfl HT_ yq10 (fun K hK => ?_); refine goes_ Tryz.func47 yq10 rfl #[.string f1] yq30 rfl rfl yq14 ?_; with_reducible refine (CW.go CR1.out hHeld.l.b).mono ?_; rintro e w' ⟨rfl, hb⟩; refine ⟨_, rfl, ?_⟩; refine hK.out _ _ (hHeld.step hb) (fun hHeld => ?_); clear hK K hb; refine norm_ (a' := ?_) ?_ ?_; rotate_left; (simp only [Act.put, Nat.reduceAdd, List.setIfInBounds_toArray, List.set_cons_zero, List.set_cons_succ, zaE, zaH]; rfl))
          | fail)
         refine pf_ 3 (v := ?_) (a' := ?_) rfl rfl HT_ yq10 (fun _ _ _ h => HP.out _ _ _ _ _ h) (Or.inl ⟨yq30, ?_⟩) ?_ ?_; rotate_left; (intro w'; go_simp; with_reducible rfl); rotate_left; (simp only [Act.put, Nat.reduceAdd, List.setIfInBounds_toArray, List.set_cons_zero, List.set_cons_succ, zaE, zaH]; rfl)
         refine dn_ HT_ yq10 ?_
         try go_wp2
         go_roundg fu
         case measure => have := HK.out; omega
         case rel => exact ⟨false, i + 1, rfl, yq23, ⟨yq15 hi.out, yq19 HK.out hi.out⟩, HN, ⟨hHeld.l⟩⟩
   have q0 : ((i : Int) < (l0_7.length : Int)) = False := eq_false yq9
   have HE : zaa (b = (b4 || !(plFrom l0_7 0))) := ⟨by rw [HBT.out, plFrom_ge hi]; simp⟩
   replace hi := eq_false hi
   clear HBT HK
   go_wp2
   skip
   (refine HQ.out ?_ L; exact HE)
end Go.Proofs.YtfafjbolmeimmaaGreatDoor.P
