/- Parts of a proof: words of the print tool that this claim uses, or plain lists. -/
import Derived.Test.YtfafjbolmeimmaaGreatDoorAb
import Derived.Test.YtfafjbolmeimmaaGreatDoorF19
import Derived.Deep.CutBlock
import Derived.Test.YtfafjbolmeimmaaGreatDoorF10
namespace Go.Proofs.YtfafjbolmeimmaaGreatDoor.P
open Go.RowKit Go.Proofs.YtfafjbolmeimmaaGreatDoorW.PrintWords Go.Proofs.YtfafjbolmeimmaaGreatDoorW.PrintLast Go.Proofs.YtfafjbolmeimmaaGreatDoorW.PrintMore
set_option linter.unusedVariables false
set_option linter.unusedSimpArgs false
variable {a0_0 a0_1 a0_2 a0_3 a0_4 : ByteArray} {A0_5 : Option Addr} {c0_5 : Nat} {l0_5 : List Int} {a0_6 : Int} {A0_7 : Option Addr} {c0_7 : Nat} {l0_7 : List S58} {a0_8 a0_9 a0_10 a0_11 : ByteArray} {A0_12 : Option Addr} {c0_12 : Nat} {l0_12 : List ByteArray} {A0_13 : Option Addr} {c0_13 : Nat} {l0_13 : List ByteArray} {a0_14 : ByteArray} {w wc : World} {gb : Nat}
set_option maxHeartbeats 8000000 in
set_option maxRecDepth 1000000 in
theorem lg_C {x2 x3 x4 x5 x6 x7 x8 x9 x10 x11 x12 x13 x14 x15 x16 x17 x18 x19 x20 x21 x22 x23 x24 x25 x26 x27 x28 x29 x30 x31 x32 x33 x34 x35 x36 x37 x38 x39 x40 x41 x42 x43 x44 x45 x46 x47 x48 x49 x50 x51 x52 x53 x54 x55 x56 x57 x58 x59 x60 x61 x62 x63 x64 x65 x66 x67 x68 x69 x70 x71 x72 x73 x74 x75 x76 x77 x78 x79 x80 x81 x82 x83 x84 x85 x86 x87 x88 x89 x90 x91 x92 x93 x94 x95 x96 x97 x98 x99 x100 x101 x102 x103 x104 x105 x106 x107 x108 x109 x110 x111 x112 x113 x114 x115 x116 x117 x118 x119 x120 x121 x122 x123 x124 x125 x126 x127 x128 x129 x130 x131 x132 x133 x134 x135 x136 x137 x138 x139 x140 x141 x142 x143 x144 x145 x146 x147 x148 x149 x150 x151 x152 x153 x154 x155 x156 x157 x158 x159 x160 x161 x162 x163 x164 x165 x166 x167 x168 x169 x170 x171 x172 x173 x174 x175 x176 x177 x178 x179 x180 x181 x182 x183 x184 x185 x186 : Value} {r : Int} (T5 : zaa (l0_5.length ≤ 1073741824)) (HR5l : zaa (Kd.C (Kd.int .i64) w A0_5 l0_5.length l0_5)) (L : zaa (LS w wc gb (locV a0_0 a0_1 a0_2 a0_3 a0_4 (.slice A0_5 l0_5.length c0_5) a0_6 (.slice A0_7 l0_7.length c0_7) a0_8 a0_9 a0_10 a0_11 (.slice A0_12 l0_12.length c0_12) (.slice A0_13 l0_13.length c0_13) a0_14)))
  (h1 : l0_5.all szB = false → r = 1) (Q : Exit → Act → World → Prop) (hR : ∀ a w', Q .ret a w' = bodyPost Tryz.prog Tryz.f9 (fun e w' => e = .returned (.int .i64 r) ∧ Below w.heap.size w w') .ret a w') (HP : zaa (∀ c a n v w, Q (.panic c) (a.put n v) w → Q (.panic c) a w))
  (hQ : ∀ ⦃y2 y3 y4 y5 y6 y7 y8 y9 y10 y11 y12 y13 y14 y15 y16 y17 y18 y19 y20 y21 y22 y23 y24 y25 y26 y27 y28 y29 y30 y31 y32 y33 y34 y35 y36 y37 y38 y39 y40 y41 y42 y43 y44 y45 y46 y47 y48 y49 y50 y51 y52 y53 y54 y55 y56 y57 y58 y59 y60 y61 y62 y63 y64 y65 y66 y67 y68 y69 y70 y71 y72 y73 y74 y75 y76 y77 y78 y79 y80 y81 y82 y83 y84 y85 y86 y87 y88 y89 y90 y91 y92 y93 y94 y95 y96 y97 y98 y99 y100 y101 y102 y103 y104 y105 y106 y107 y108 y109 y110 y111 y112 y113 y114 y115 y116 y117 y118 y119 y120 y121 y122 y123 y124 y125 y126 y127 y128 y129 y130 y131 y132 y133 y134 y135 y136 y137 y138 y139 y140 y141 y142 y143 y144 y145 y146 y147 y148 y149 y150 y151 y152 y153 y154 y155 y156 y157 y158 y159 y160 y161 y162 y163 y164 y165 y166 y167 y168 y169 y170 y171 y172 y173 y174 y175 y176 y177 y178 y179 y180 y181 y182 y183 y184 y185 y186 : Value⦄ ⦃w' : World⦄, l0_5.all szB = true → zaa (LS w w' gb (locV a0_0 a0_1 a0_2 a0_3 a0_4 (.slice A0_5 l0_5.length c0_5) a0_6 (.slice A0_7 l0_7.length c0_7) a0_8 a0_9 a0_10 a0_11 (.slice A0_12 l0_12.length c0_12) (.slice A0_13 l0_13.length c0_13) a0_14)) → Q .normal ⟨((.agg #[.string a0_0, .string a0_1, .string a0_2, .string a0_3, .string a0_4, .slice A0_5 l0_5.length c0_5, .int .i64 a0_6, .slice A0_7 l0_7.length c0_7, .string a0_8, .string a0_9, .string a0_10, .string a0_11, .slice A0_12 l0_12.length c0_12, .slice A0_13 l0_13.length c0_13, .string a0_14]) :: (.pointer (some ⟨gb, 0, none⟩)) :: y2 :: y3 :: y4 :: y5 :: y6 :: y7 :: y8 :: y9 :: y10 :: y11 :: y12 :: y13 :: y14 :: y15 :: y16 :: y17 :: y18 :: y19 :: y20 :: y21 :: y22 :: y23 :: y24 :: y25 :: y26 :: y27 :: y28 :: y29 :: y30 :: y31 :: y32 :: y33 :: y34 :: y35 :: y36 :: y37 :: y38 :: y39 :: y40 :: y41 :: y42 :: y43 :: y44 :: y45 :: y46 :: y47 :: y48 :: y49 :: y50 :: y51 :: y52 :: y53 :: y54 :: y55 :: y56 :: y57 :: y58 :: y59 :: y60 :: y61 :: y62 :: y63 :: y64 :: y65 :: y66 :: y67 :: y68 :: y69 :: y70 :: y71 :: y72 :: y73 :: y74 :: y75 :: y76 :: y77 :: y78 :: y79 :: y80 :: y81 :: y82 :: y83 :: y84 :: y85 :: y86 :: y87 :: y88 :: y89 :: y90 :: y91 :: y92 :: y93 :: y94 :: y95 :: y96 :: y97 :: y98 :: y99 :: y100 :: y101 :: y102 :: y103 :: y104 :: y105 :: y106 :: y107 :: y108 :: y109 :: y110 :: y111 :: y112 :: y113 :: y114 :: y115 :: y116 :: y117 :: y118 :: y119 :: y120 :: y121 :: y122 :: y123 :: y124 :: y125 :: y126 :: y127 :: y128 :: y129 :: y130 :: y131 :: y132 :: y133 :: y134 :: y135 :: y136 :: y137 :: y138 :: y139 :: y140 :: y141 :: y142 :: y143 :: y144 :: y145 :: y146 :: y147 :: y148 :: y149 :: y150 :: y151 :: y152 :: y153 :: y154 :: y155 :: y156 :: y157 :: y158 :: y159 :: y160 :: y161 :: y162 :: y163 :: y164 :: y165 :: y166 :: y167 :: y168 :: y169 :: y170 :: y171 :: y172 :: y173 :: y174 :: y175 :: y176 :: y177 :: y178 :: y179 :: y180 :: y181 :: y182 :: y183 :: y184 :: y185 :: y186 :: []).toArray, []⟩ w') :
  Code.wp Tryz.prog (lgCode 3) Q ⟨((.agg #[.string a0_0, .string a0_1, .string a0_2, .string a0_3, .string a0_4, .slice A0_5 l0_5.length c0_5, .int .i64 a0_6, .slice A0_7 l0_7.length c0_7, .string a0_8, .string a0_9, .string a0_10, .string a0_11, .slice A0_12 l0_12.length c0_12, .slice A0_13 l0_13.length c0_13, .string a0_14]) :: (.pointer (some ⟨gb, 0, none⟩)) :: x2 :: x3 :: x4 :: x5 :: x6 :: x7 :: x8 :: x9 :: x10 :: x11 :: x12 :: x13 :: x14 :: x15 :: x16 :: x17 :: x18 :: x19 :: x20 :: x21 :: x22 :: x23 :: x24 :: x25 :: x26 :: x27 :: x28 :: x29 :: x30 :: x31 :: x32 :: x33 :: x34 :: x35 :: x36 :: x37 :: x38 :: x39 :: x40 :: x41 :: x42 :: x43 :: x44 :: x45 :: x46 :: x47 :: x48 :: x49 :: x50 :: x51 :: x52 :: x53 :: x54 :: x55 :: x56 :: x57 :: x58 :: x59 :: x60 :: x61 :: x62 :: x63 :: x64 :: x65 :: x66 :: x67 :: x68 :: x69 :: x70 :: x71 :: x72 :: x73 :: x74 :: x75 :: x76 :: x77 :: x78 :: x79 :: x80 :: x81 :: x82 :: x83 :: x84 :: x85 :: x86 :: x87 :: x88 :: x89 :: x90 :: x91 :: x92 :: x93 :: x94 :: x95 :: x96 :: x97 :: x98 :: x99 :: x100 :: x101 :: x102 :: x103 :: x104 :: x105 :: x106 :: x107 :: x108 :: x109 :: x110 :: x111 :: x112 :: x113 :: x114 :: x115 :: x116 :: x117 :: x118 :: x119 :: x120 :: x121 :: x122 :: x123 :: x124 :: x125 :: x126 :: x127 :: x128 :: x129 :: x130 :: x131 :: x132 :: x133 :: x134 :: x135 :: x136 :: x137 :: x138 :: x139 :: x140 :: x141 :: x142 :: x143 :: x144 :: x145 :: x146 :: x147 :: x148 :: x149 :: x150 :: x151 :: x152 :: x153 :: x154 :: x155 :: x156 :: x157 :: x158 :: x159 :: x160 :: x161 :: x162 :: x163 :: x164 :: x165 :: x166 :: x167 :: x168 :: x169 :: x170 :: x171 :: x172 :: x173 :: x174 :: x175 :: x176 :: x177 :: x178 :: x179 :: x180 :: x181 :: x182 :: x183 :: x184 :: x185 :: x186 :: []).toArray, []⟩ wc := by
 have HQ := zaa.mk hQ; have HR := zaa.mk hR; have H1 := zaa.mk h1; clear hQ hR h1
 conv => arg 2; whnf
 go_wp2
 go_loopg [3] (l0_5.length + 1) (fun gk v3 wr => ∃ i : Nat, v3 = .int .i64 (i : Int) ∧ zaa (i ≤ l0_5.length ∧ l0_5.length - i + 1 ≤ gk) ∧ zaa (l0_5.all szB = (l0_5.drop i).all szB) ∧ zaa (LS w wr gb (locV a0_0 a0_1 a0_2 a0_3 a0_4 (.slice A0_5 l0_5.length c0_5) a0_6 (.slice A0_7 l0_7.length c0_7) a0_8 a0_9 a0_10 a0_11 (.slice A0_12 l0_12.length c0_12) (.slice A0_13 l0_13.length c0_13) a0_14)))
 case atStart => exact ⟨0, rfl, ⟨Nat.zero_le _, Nat.le_refl _⟩, ⟨rfl⟩, L⟩
 case round =>
  clear L
  obtain ⟨i, rfl, HK, HA, L⟩ := hrel
  cases gk with
  | zero => exact absurd HK.out.2 yq9
  | succ fu =>
   obtain ⟨k0, k1, k2, k3, k4, k5, k6, k7, k8, k9, k10, k11, k12, k13, k14⟩ := L.out.at
   by_cases hi : i < l0_5.length
   ·have q0 : (i : Int) < (l0_5.length : Int) := by omega
    have p0 : (0 : Int) ≤ (i : Int) := Int.natCast_nonneg i
    obtain ⟨ad, e5, hx⟩ := Kd.at_int HR5l.out (i : Int) p0 q0
    cases e5
    replace hx := (L.out.b.cell (World.block_lt_of_cell? w _ hx)).trans hx
    rw [rd_get hi, Int.toNat_natCast] at hx
    have h9 := HA.out
    rw [List.drop_eq_getElem_cons hi, List.all_cons, szB_eq] at h9
    have hw := w_succ i (yq15 T5.out)
    replace hi := zaa.mk hi
    generalize l0_5[i]'hi.out = n at *
    have H9 := zaa.mk h9
    replace p0 := eq_true p0
    replace q0 := eq_true q0
    clear h9 HA
    rcases fork (!decide (n < 1)) (fork (!decide (9 < n)) trivial) with g1 | ⟨g1, g2 | ⟨g2, -⟩⟩
    ·have hr1 : r = 1 := H1.out (by rw [H9.out, g1]; rfl)
     replace g1 := dbT g1
     go_wp2
     rw [HR.out]
     go_ret
     exact ⟨by rw [hr1]; rfl, L.out.b⟩
    ·have hr1 : r = 1 := H1.out (by rw [H9.out, g1, g2]; rfl)
     replace g1 := dbF g1
     replace g2 := dbT g2
     go_wp2
     rw [HR.out]
     go_ret
     exact ⟨by rw [hr1]; rfl, L.out.b⟩
    have HN : zaa (l0_5.all szB = (l0_5.drop (i + 1)).all szB) := ⟨by rw [H9.out, g1, g2]; rfl⟩
    replace g1 := dbF g1
    replace g2 := dbF g2
    clear H9
    go_wp2
    go_roundg fu
    case measure => have := HK.out; omega
    case rel => exact ⟨i + 1, yq23, ⟨yq15 hi.out, yq19 HK.out hi.out⟩, HN, L⟩
   have q0 : ((i : Int) < (l0_5.length : Int)) = False := eq_false yq9
   have HE : l0_5.all szB = true := by rw [HA.out, List.drop_eq_nil_of_le yq9]; rfl
   have HE1 := zaa.mk HE
   replace hi := eq_false hi
   clear HA HK HE
   go_wp2
   exact HQ.out HE1.out L
end Go.Proofs.YtfafjbolmeimmaaGreatDoor.P
namespace Go.Proofs.YtfafjbolmeimmaaGreatDoor.P
open Go.RowKit Go.Proofs.YtfafjbolmeimmaaGreatDoorW.PrintWords Go.Proofs.YtfafjbolmeimmaaGreatDoorW.PrintLast Go.Proofs.YtfafjbolmeimmaaGreatDoorW.PrintMore
set_option linter.unusedVariables false
set_option linter.unusedSimpArgs false
variable {a0_0 a0_1 a0_2 a0_3 a0_4 : ByteArray} {A0_5 : Option Addr} {c0_5 : Nat} {l0_5 : List Int} {a0_6 : Int} {A0_7 : Option Addr} {c0_7 : Nat} {l0_7 : List S58} {a0_8 a0_9 a0_10 a0_11 : ByteArray} {A0_12 : Option Addr} {c0_12 : Nat} {l0_12 : List ByteArray} {A0_13 : Option Addr} {c0_13 : Nat} {l0_13 : List ByteArray} {a0_14 : ByteArray} {w wc : World} {gb : Nat}
set_option maxHeartbeats 8000000 in
set_option maxRecDepth 1000000 in
theorem lf_H {b7 : Bool} {r : Int} {x4 x5 x6 x7 x8 x9 x10 x11 x12 x13 x14 x15 x16 x17 x18 x19 x20 x21 x22 x23 x24 x25 x26 x27 x28 x29 x30 x31 x32 x33 x34 x35 x36 x37 x38 x39 x40 x41 x42 x43 x44 x45 x46 x47 x48 x49 x50 x51 x52 x53 x54 x55 x56 x57 x58 x59 x60 x61 x62 x63 x64 x65 x66 x67 x68 x69 x70 x71 x72 x73 x74 x75 x76 x77 x78 x79 x80 x81 x82 x83 x84 x85 x86 x87 x88 x89 x90 x91 x92 x93 x94 x95 x96 x97 x98 x99 x100 x101 x102 x103 x104 x105 x106 x107 x108 x109 x110 x111 x112 x113 x114 x115 x116 x117 x118 x119 x120 x121 x122 x123 x124 x125 x126 x127 x128 x129 x130 x131 x132 x133 x134 x135 x136 x137 x138 x139 x140 x141 x142 x143 x144 x145 x146 x147 x148 x149 x150 x151 x152 x153 x154 x155 x156 x157 x158 x159 x160 x161 x162 x163 x164 x165 x166 x167 x168 x169 x170 x171 x172 x173 x174 x175 x176 x177 x178 x179 x180 x181 x182 x183 x184 x185 x186 x187 x188 x189 x190 x191 x192 x193 x194 x195 x196 x197 x198 x199 x200 x201 x202 x203 x204 x205 x206 x207 x208 x209 x210 x211 x212 x213 x214 x215 x216 x217 x218 x219 x220 x221 x222 x223 x224 x225 x226 x227 x228 x229 x230 x231 x232 x233 x234 x235 x236 x237 x238 x239 x240 x241 x242 x243 x244 x245 x246 x247 x248 x249 x250 x251 x252 x253 x254 x255 x256 x257 x258 x259 x260 x261 x262 x263 x264 x265 x266 x267 x268 x269 x270 x271 x272 x273 x274 x275 x276 x277 x278 x279 x280 x281 x282 x283 x284 x285 x286 x287 x288 x289 : Value} (s14 : zaa (smallT a0_14 = true)) (HG : zaa (GT w)) (HR : zaa ((if (b7 || !(!decide (50 < (a0_14.size : Int)) && okB a0_14)) = true then (1 : Int) else 0) = r)) (L : zaa (LS w wc gb (locV a0_0 a0_1 a0_2 a0_3 a0_4 (.slice A0_5 l0_5.length c0_5) a0_6 (.slice A0_7 l0_7.length c0_7) a0_8 a0_9 a0_10 a0_11 (.slice A0_12 l0_12.length c0_12) (.slice A0_13 l0_13.length c0_13) a0_14))) :
  Code.wp Tryz.prog (lfTail 8) (bodyPost Tryz.prog Tryz.f11 fun e w' => e = .returned (.int .i64 r) ∧ Below w.heap.size w w') ⟨((.agg #[.string a0_0, .string a0_1, .string a0_2, .string a0_3, .string a0_4, .slice A0_5 l0_5.length c0_5, .int .i64 a0_6, .slice A0_7 l0_7.length c0_7, .string a0_8, .string a0_9, .string a0_10, .string a0_11, .slice A0_12 l0_12.length c0_12, .slice A0_13 l0_13.length c0_13, .string a0_14]) :: (.pointer (some ⟨gb, 0, none⟩)) :: (.int .i64 0) :: (.bool b7) :: x4 :: x5 :: x6 :: x7 :: x8 :: x9 :: x10 :: x11 :: x12 :: x13 :: x14 :: x15 :: x16 :: x17 :: x18 :: x19 :: x20 :: x21 :: x22 :: x23 :: x24 :: x25 :: x26 :: x27 :: x28 :: x29 :: x30 :: x31 :: x32 :: x33 :: x34 :: x35 :: x36 :: x37 :: x38 :: x39 :: x40 :: x41 :: x42 :: x43 :: x44 :: x45 :: x46 :: x47 :: x48 :: x49 :: x50 :: x51 :: x52 :: x53 :: x54 :: x55 :: x56 :: x57 :: x58 :: x59 :: x60 :: x61 :: x62 :: x63 :: x64 :: x65 :: x66 :: x67 :: x68 :: x69 :: x70 :: x71 :: x72 :: x73 :: x74 :: x75 :: x76 :: x77 :: x78 :: x79 :: x80 :: x81 :: x82 :: x83 :: x84 :: x85 :: x86 :: x87 :: x88 :: x89 :: x90 :: x91 :: x92 :: x93 :: x94 :: x95 :: x96 :: x97 :: x98 :: x99 :: x100 :: x101 :: x102 :: x103 :: x104 :: x105 :: x106 :: x107 :: x108 :: x109 :: x110 :: x111 :: x112 :: x113 :: x114 :: x115 :: x116 :: x117 :: x118 :: x119 :: x120 :: x121 :: x122 :: x123 :: x124 :: x125 :: x126 :: x127 :: x128 :: x129 :: x130 :: x131 :: x132 :: x133 :: x134 :: x135 :: x136 :: x137 :: x138 :: x139 :: x140 :: x141 :: x142 :: x143 :: x144 :: x145 :: x146 :: x147 :: x148 :: x149 :: x150 :: x151 :: x152 :: x153 :: x154 :: x155 :: x156 :: x157 :: x158 :: x159 :: x160 :: x161 :: x162 :: x163 :: x164 :: x165 :: x166 :: x167 :: x168 :: x169 :: x170 :: x171 :: x172 :: x173 :: x174 :: x175 :: x176 :: x177 :: x178 :: x179 :: x180 :: x181 :: x182 :: x183 :: x184 :: x185 :: x186 :: x187 :: x188 :: x189 :: x190 :: x191 :: x192 :: x193 :: x194 :: x195 :: x196 :: x197 :: x198 :: x199 :: x200 :: x201 :: x202 :: x203 :: x204 :: x205 :: x206 :: x207 :: x208 :: x209 :: x210 :: x211 :: x212 :: x213 :: x214 :: x215 :: x216 :: x217 :: x218 :: x219 :: x220 :: x221 :: x222 :: x223 :: x224 :: x225 :: x226 :: x227 :: x228 :: x229 :: x230 :: x231 :: x232 :: x233 :: x234 :: x235 :: x236 :: x237 :: x238 :: x239 :: x240 :: x241 :: x242 :: x243 :: x244 :: x245 :: x246 :: x247 :: x248 :: x249 :: x250 :: x251 :: x252 :: x253 :: x254 :: x255 :: x256 :: x257 :: x258 :: x259 :: x260 :: x261 :: x262 :: x263 :: x264 :: x265 :: x266 :: x267 :: x268 :: x269 :: x270 :: x271 :: x272 :: x273 :: x274 :: x275 :: x276 :: x277 :: x278 :: x279 :: x280 :: x281 :: x282 :: x283 :: x284 :: x285 :: x286 :: x287 :: x288 :: x289 :: []).toArray, []⟩ wc := by
 conv => arg 2; whnf
 have D14 := zaa.mk (cw_well (w := w) a0_14 s14.out HG.out)
 rcases fork (!b7) (fork (!decide (50 < (a0_14.size : Int))) (fork (okB a0_14) trivial)) with g0 | ⟨g0, g1 | ⟨g1, g2 | ⟨g2, -⟩⟩⟩ <;>
  (obtain ⟨k0, k1, k2, k3, k4, k5, k6, k7, k8, k9, k10, k11, k12, k13, k14⟩ := L.out.at; (try simp only [Bool.not_eq_false', Bool.not_eq_true'] at g0); (try replace g1 := dbF g1); (try replace g1 := dbT g1); go_wp2_with (first | (first | (go_at_call 43; with_reducible refine (CW.go D14.out L.out.b).mono ?_)); (rintro e wn ⟨rfl, hb⟩; have L1 := zaa.mk (L.out.step hb); clear L hb k0 k1 k2 k3 k4 k5 k6 k7 k8 k9 k10 k11 k12 k13 k14; have L := L1; clear L1; obtain ⟨k0, k1, k2, k3, k4, k5, k6, k7, k8, k9, k10, k11, k12, k13, k14⟩ := L.out.at) | fail); go_ret; exact ⟨by rw [← HR.out]; simp [*], L.out.b⟩)
end Go.Proofs.YtfafjbolmeimmaaGreatDoor.P
