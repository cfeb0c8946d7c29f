/- impl.LocaleFault, walked: stage F. -/
import Derived.Test.YtfafjbolmeimmaaGreatDoorAb
import Derived.Test.YtfafjbolmeimmaaGreatDoorF19
import Derived.Deep.CutBlock
namespace Go.Proofs.YtfafjbolmeimmaaGreatDoor.P
open Go.RowKit Go.Proofs.YtfafjbolmeimmaaGreatDoorW.PrintWords Go.Proofs.YtfafjbolmeimmaaGreatDoorW.PrintLast Go.Proofs.YtfafjbolmeimmaaGreatDoorW.PrintMore
set_option linter.unusedVariables false
set_option linter.unusedSimpArgs false
variable {a0_0 a0_1 a0_2 a0_3 a0_4 : ByteArray} {A0_5 : Option Addr} {c0_5 : Nat} {l0_5 : List Int} {a0_6 : Int} {A0_7 : Option Addr} {c0_7 : Nat} {l0_7 : List S58} {a0_8 a0_9 a0_10 a0_11 : ByteArray} {A0_12 : Option Addr} {c0_12 : Nat} {l0_12 : List ByteArray} {A0_13 : Option Addr} {c0_13 : Nat} {l0_13 : List ByteArray} {a0_14 : ByteArray} {w wc : World} {gb : Nat}
set_option maxHeartbeats 8000000 in
set_option maxRecDepth 1000000 in
theorem lf_F {b5 : Bool} {x4 x5 x6 x7 x8 x9 x10 x11 x12 x13 x14 x15 x16 x17 x18 x19 x20 x21 x22 x23 x24 x25 x26 x27 x28 x29 x30 x31 x32 x33 x34 x35 x36 x37 x38 x39 x40 x41 x42 x43 x44 x45 x46 x47 x48 x49 x50 x51 x52 x53 x54 x55 x56 x57 x58 x59 x60 x61 x62 x63 x64 x65 x66 x67 x68 x69 x70 x71 x72 x73 x74 x75 x76 x77 x78 x79 x80 x81 x82 x83 x84 x85 x86 x87 x88 x89 x90 x91 x92 x93 x94 x95 x96 x97 x98 x99 x100 x101 x102 x103 x104 x105 x106 x107 x108 x109 x110 x111 x112 x113 x114 x115 x116 x117 x118 x119 x120 x121 x122 x123 x124 x125 x126 x127 x128 x129 x130 x131 x132 x133 x134 x135 x136 x137 x138 x139 x140 x141 x142 x143 x144 x145 x146 x147 x148 x149 x150 x151 x152 x153 x154 x155 x156 x157 x158 x159 x160 x161 x162 x163 x164 x165 x166 x167 x168 x169 x170 x171 x172 x173 x174 x175 x176 x177 x178 x179 x180 x181 x182 x183 x184 x185 x186 x187 x188 x189 x190 x191 x192 x193 x194 x195 x196 x197 x198 x199 x200 x201 x202 x203 x204 x205 x206 x207 x208 x209 x210 x211 x212 x213 x214 x215 x216 x217 x218 x219 x220 x221 x222 x223 x224 x225 x226 x227 x228 x229 x230 x231 x232 x233 x234 x235 x236 x237 x238 x239 x240 x241 x242 x243 x244 x245 x246 x247 x248 x249 x250 x251 x252 x253 x254 x255 x256 x257 x258 x259 x260 x261 x262 x263 x264 x265 x266 x267 x268 x269 x270 x271 x272 x273 x274 x275 x276 x277 x278 x279 x280 x281 x282 x283 x284 x285 x286 x287 x288 x289 : Value} (SM : zaa (smallLoc a0_0 a0_1 a0_2 a0_3 a0_4 l0_5 l0_7 a0_8 a0_9 a0_10 a0_11 l0_12 l0_13 a0_14 = true)) (HG : zaa (GT w)) (L : zaa (LS w wc gb (locV a0_0 a0_1 a0_2 a0_3 a0_4 (.slice A0_5 l0_5.length c0_5) a0_6 (.slice A0_7 l0_7.length c0_7) a0_8 a0_9 a0_10 a0_11 (.slice A0_12 l0_12.length c0_12) (.slice A0_13 l0_13.length c0_13) a0_14))) (Q : Exit → Act → World → Prop)
  (hQ : ∀ ⦃b : Bool⦄ ⦃y4 y5 y6 y7 y8 y9 y10 y11 y12 y13 y14 y15 y16 y17 y18 y19 y20 y21 y22 y23 y24 y25 y26 y27 y28 y29 y30 y31 y32 y33 y34 y35 y36 y37 y38 y39 y40 y41 y42 y43 y44 y45 y46 y47 y48 y49 y50 y51 y52 y53 y54 y55 y56 y57 y58 y59 y60 y61 y62 y63 y64 y65 y66 y67 y68 y69 y70 y71 y72 y73 y74 y75 y76 y77 y78 y79 y80 y81 y82 y83 y84 y85 y86 y87 y88 y89 y90 y91 y92 y93 y94 y95 y96 y97 y98 y99 y100 y101 y102 y103 y104 y105 y106 y107 y108 y109 y110 y111 y112 y113 y114 y115 y116 y117 y118 y119 y120 y121 y122 y123 y124 y125 y126 y127 y128 y129 y130 y131 y132 y133 y134 y135 y136 y137 y138 y139 y140 y141 y142 y143 y144 y145 y146 y147 y148 y149 y150 y151 y152 y153 y154 y155 y156 y157 y158 y159 y160 y161 y162 y163 y164 y165 y166 y167 y168 y169 y170 y171 y172 y173 y174 y175 y176 y177 y178 y179 y180 y181 y182 y183 y184 y185 y186 y187 y188 y189 y190 y191 y192 y193 y194 y195 y196 y197 y198 y199 y200 y201 y202 y203 y204 y205 y206 y207 y208 y209 y210 y211 y212 y213 y214 y215 y216 y217 y218 y219 y220 y221 y222 y223 y224 y225 y226 y227 y228 y229 y230 y231 y232 y233 y234 y235 y236 y237 y238 y239 y240 y241 y242 y243 y244 y245 y246 y247 y248 y249 y250 y251 y252 y253 y254 y255 y256 y257 y258 y259 y260 y261 y262 y263 y264 y265 y266 y267 y268 y269 y270 y271 y272 y273 y274 y275 y276 y277 y278 y279 y280 y281 y282 y283 y284 y285 y286 y287 y288 y289 : Value⦄ ⦃w' : World⦄, zaa (b = (b5 || !([a0_8, a0_9, a0_10, a0_11].all frameB))) → zaa (LS w w' gb (locV a0_0 a0_1 a0_2 a0_3 a0_4 (.slice A0_5 l0_5.length c0_5) a0_6 (.slice A0_7 l0_7.length c0_7) a0_8 a0_9 a0_10 a0_11 (.slice A0_12 l0_12.length c0_12) (.slice A0_13 l0_13.length c0_13) a0_14)) → Q .normal ⟨((.agg #[.string a0_0, .string a0_1, .string a0_2, .string a0_3, .string a0_4, .slice A0_5 l0_5.length c0_5, .int .i64 a0_6, .slice A0_7 l0_7.length c0_7, .string a0_8, .string a0_9, .string a0_10, .string a0_11, .slice A0_12 l0_12.length c0_12, .slice A0_13 l0_13.length c0_13, .string a0_14]) :: (.pointer (some ⟨gb, 0, none⟩)) :: (.int .i64 0) :: (.bool b) :: y4 :: y5 :: y6 :: y7 :: y8 :: y9 :: y10 :: y11 :: y12 :: y13 :: y14 :: y15 :: y16 :: y17 :: y18 :: y19 :: y20 :: y21 :: y22 :: y23 :: y24 :: y25 :: y26 :: y27 :: y28 :: y29 :: y30 :: y31 :: y32 :: y33 :: y34 :: y35 :: y36 :: y37 :: y38 :: y39 :: y40 :: y41 :: y42 :: y43 :: y44 :: y45 :: y46 :: y47 :: y48 :: y49 :: y50 :: y51 :: y52 :: y53 :: y54 :: y55 :: y56 :: y57 :: y58 :: y59 :: y60 :: y61 :: y62 :: y63 :: y64 :: y65 :: y66 :: y67 :: y68 :: y69 :: y70 :: y71 :: y72 :: y73 :: y74 :: y75 :: y76 :: y77 :: y78 :: y79 :: y80 :: y81 :: y82 :: y83 :: y84 :: y85 :: y86 :: y87 :: y88 :: y89 :: y90 :: y91 :: y92 :: y93 :: y94 :: y95 :: y96 :: y97 :: y98 :: y99 :: y100 :: y101 :: y102 :: y103 :: y104 :: y105 :: y106 :: y107 :: y108 :: y109 :: y110 :: y111 :: y112 :: y113 :: y114 :: y115 :: y116 :: y117 :: y118 :: y119 :: y120 :: y121 :: y122 :: y123 :: y124 :: y125 :: y126 :: y127 :: y128 :: y129 :: y130 :: y131 :: y132 :: y133 :: y134 :: y135 :: y136 :: y137 :: y138 :: y139 :: y140 :: y141 :: y142 :: y143 :: y144 :: y145 :: y146 :: y147 :: y148 :: y149 :: y150 :: y151 :: y152 :: y153 :: y154 :: y155 :: y156 :: y157 :: y158 :: y159 :: y160 :: y161 :: y162 :: y163 :: y164 :: y165 :: y166 :: y167 :: y168 :: y169 :: y170 :: y171 :: y172 :: y173 :: y174 :: y175 :: y176 :: y177 :: y178 :: y179 :: y180 :: y181 :: y182 :: y183 :: y184 :: y185 :: y186 :: y187 :: y188 :: y189 :: y190 :: y191 :: y192 :: y193 :: y194 :: y195 :: y196 :: y197 :: y198 :: y199 :: y200 :: y201 :: y202 :: y203 :: y204 :: y205 :: y206 :: y207 :: y208 :: y209 :: y210 :: y211 :: y212 :: y213 :: y214 :: y215 :: y216 :: y217 :: y218 :: y219 :: y220 :: y221 :: y222 :: y223 :: y224 :: y225 :: y226 :: y227 :: y228 :: y229 :: y230 :: y231 :: y232 :: y233 :: y234 :: y235 :: y236 :: y237 :: y238 :: y239 :: y240 :: y241 :: y242 :: y243 :: y244 :: y245 :: y246 :: y247 :: y248 :: y249 :: y250 :: y251 :: y252 :: y253 :: y254 :: y255 :: y256 :: y257 :: y258 :: y259 :: y260 :: y261 :: y262 :: y263 :: y264 :: y265 :: y266 :: y267 :: y268 :: y269 :: y270 :: y271 :: y272 :: y273 :: y274 :: y275 :: y276 :: y277 :: y278 :: y279 :: y280 :: y281 :: y282 :: y283 :: y284 :: y285 :: y286 :: y287 :: y288 :: y289 :: []).toArray, []⟩ w') :
  Code.wp Tryz.prog (lfCode 6) Q ⟨((.agg #[.string a0_0, .string a0_1, .string a0_2, .string a0_3, .string a0_4, .slice A0_5 l0_5.length c0_5, .int .i64 a0_6, .slice A0_7 l0_7.length c0_7, .string a0_8, .string a0_9, .string a0_10, .string a0_11, .slice A0_12 l0_12.length c0_12, .slice A0_13 l0_13.length c0_13, .string a0_14]) :: (.pointer (some ⟨gb, 0, none⟩)) :: (.int .i64 0) :: (.bool b5) :: x4 :: x5 :: x6 :: x7 :: x8 :: x9 :: x10 :: x11 :: x12 :: x13 :: x14 :: x15 :: x16 :: x17 :: x18 :: x19 :: x20 :: x21 :: x22 :: x23 :: x24 :: x25 :: x26 :: x27 :: x28 :: x29 :: x30 :: x31 :: x32 :: x33 :: x34 :: x35 :: x36 :: x37 :: x38 :: x39 :: x40 :: x41 :: x42 :: x43 :: x44 :: x45 :: x46 :: x47 :: x48 :: x49 :: x50 :: x51 :: x52 :: x53 :: x54 :: x55 :: x56 :: x57 :: x58 :: x59 :: x60 :: x61 :: x62 :: x63 :: x64 :: x65 :: x66 :: x67 :: x68 :: x69 :: x70 :: x71 :: x72 :: x73 :: x74 :: x75 :: x76 :: x77 :: x78 :: x79 :: x80 :: x81 :: x82 :: x83 :: x84 :: x85 :: x86 :: x87 :: x88 :: x89 :: x90 :: x91 :: x92 :: x93 :: x94 :: x95 :: x96 :: x97 :: x98 :: x99 :: x100 :: x101 :: x102 :: x103 :: x104 :: x105 :: x106 :: x107 :: x108 :: x109 :: x110 :: x111 :: x112 :: x113 :: x114 :: x115 :: x116 :: x117 :: x118 :: x119 :: x120 :: x121 :: x122 :: x123 :: x124 :: x125 :: x126 :: x127 :: x128 :: x129 :: x130 :: x131 :: x132 :: x133 :: x134 :: x135 :: x136 :: x137 :: x138 :: x139 :: x140 :: x141 :: x142 :: x143 :: x144 :: x145 :: x146 :: x147 :: x148 :: x149 :: x150 :: x151 :: x152 :: x153 :: x154 :: x155 :: x156 :: x157 :: x158 :: x159 :: x160 :: x161 :: x162 :: x163 :: x164 :: x165 :: x166 :: x167 :: x168 :: x169 :: x170 :: x171 :: x172 :: x173 :: x174 :: x175 :: x176 :: x177 :: x178 :: x179 :: x180 :: x181 :: x182 :: x183 :: x184 :: x185 :: x186 :: x187 :: x188 :: x189 :: x190 :: x191 :: x192 :: x193 :: x194 :: x195 :: x196 :: x197 :: x198 :: x199 :: x200 :: x201 :: x202 :: x203 :: x204 :: x205 :: x206 :: x207 :: x208 :: x209 :: x210 :: x211 :: x212 :: x213 :: x214 :: x215 :: x216 :: x217 :: x218 :: x219 :: x220 :: x221 :: x222 :: x223 :: x224 :: x225 :: x226 :: x227 :: x228 :: x229 :: x230 :: x231 :: x232 :: x233 :: x234 :: x235 :: x236 :: x237 :: x238 :: x239 :: x240 :: x241 :: x242 :: x243 :: x244 :: x245 :: x246 :: x247 :: x248 :: x249 :: x250 :: x251 :: x252 :: x253 :: x254 :: x255 :: x256 :: x257 :: x258 :: x259 :: x260 :: x261 :: x262 :: x263 :: x264 :: x265 :: x266 :: x267 :: x268 :: x269 :: x270 :: x271 :: x272 :: x273 :: x274 :: x275 :: x276 :: x277 :: x278 :: x279 :: x280 :: x281 :: x282 :: x283 :: x284 :: x285 :: x286 :: x287 :: x288 :: x289 :: []).toArray, []⟩ wc := by
 have HQ := zaa.mk hQ; clear hQ
 conv => arg 2; whnf
 obtain ⟨⟨s0, s1, s2, s3, s4, s8, s9, s10, s11, s14⟩, t5, t7, q7, t12, q12, t13, q13⟩ := small_parts' SM.out
 have SX0 : zaa (∀ s ∈ [a0_8, a0_9, a0_10, a0_11], smallT s = true) := ⟨by simp [s8, s9, s10, s11]⟩
 clear SM s0 s1 s2 s3 s4 s8 s9 s10 s11 s14 t5 t7 q7 t12 q12 t13 q13
 obtain ⟨k0, k1, k2, k3, k4, k5, k6, k7, k8, k9, k10, k11, k12, k13, k14⟩ := L.out.at
 go_upto_block 6 with (first | ((with_reducible refine zaU (N := 189) rfl ?_); refine Kd.R_lit Kd.string (w0 := w) w.heap.size 9 ?hg (N := 189) ?hd (xs := [a0_8, a0_9, a0_10, a0_11]) (inner := [.string a0_8, .string a0_9, .string a0_10, .string a0_11]) (ok := fun _ => True) (okp := fun _ => False) ?hr (Kd.reps_scalar (enc := Value.string) [a0_8, a0_9, a0_10, a0_11]) (fun _ _ => trivial) trivial ?hB ?hs yq21 ?_; (case hd => rfl); (case hg => rfl); (case hr => first | (go_simp; done) | (go_simp; rfl)); (case hB => exact L.out.b); (case hs => exact zaq L.out.b); intro vr wa ho hb hgr hat; have LA := zaa.mk (L.out.step (grown_bl hgr)); obtain ⟨Ar, cr, er, _, _⟩ := Kd.R_reads ho; subst er; have CA := zaa.mk (Kd.zbl ho).2.2; clear ho hb hgr hat) | fail)
 clear L k0 k1 k2 k3 k4 k5 k6 k7 k8 k9 k10 k11 k12 k13 k14
 have L := LA
 clear LA
 obtain ⟨xs, hxs⟩ : ∃ xs, xs = [a0_8, a0_9, a0_10, a0_11] := ⟨_, rfl⟩
 have HX := zaa.mk hxs
 have SX : zaa (∀ s ∈ xs, smallT s = true) := ⟨by rw [hxs]; exact SX0.out⟩
 have CX : zaa (Kd.C Kd.string wa Ar xs.length xs) := ⟨by rw [hxs]; exact CA.out⟩
 have hn : xs.length = 4 := by rw [hxs]; rfl
 clear CA hxs SX0
 go_wp2_with (fail)
 go_loopg [3, 191] (5) (fun gk v3 v191 wr => ∃ (b : Bool) (i : Nat), v3 = .bool b ∧ v191 = .int .i64 (i : Int) ∧ zaa (i ≤ 4 ∧ 4 - i + 1 ≤ gk) ∧ zaa (b = (b5 || !((xs.take i).all frameB))) ∧ zaa (Below wa.heap.size wa wr))
 case atStart => exact ⟨_, 0, rfl, rfl, ⟨Nat.zero_le _, Nat.le_refl _⟩, ⟨yq21⟩, ⟨Below.refl _ _⟩⟩
 case round =>
  obtain ⟨b, i, rfl, rfl, HK, HBT, HW⟩ := hrel
  have L2 := zaa.mk (L.out.step HW.out)
  clear L
  have L := L2
  clear L2
  cases gk with
  | zero => exact absurd HK.out.2 yq9
  | succ fu =>
   by_cases hi : i < 4
   ·have p0 : (0 : Int) ≤ (i : Int) := Int.natCast_nonneg i
    have hil : i < xs.length := by omega
    obtain ⟨ad, e5, hx⟩ := Kd.at_string CX.out (i : Int) p0 yq9
    cases e5
    replace hx := (HW.out.cell (World.block_lt_of_cell? wa _ hx)).trans hx
    rw [rdS_get hil, Int.toNat_natCast] at hx
    have hsm := SX.out _ (List.getElem_mem hil)
    have HT := zaa.mk (take_all frameB xs i hil)
    have hw := w_succ i yq9
    have q0 : ((i : Int) < 4) = True := eq_true yq9
    have q1 : ((i : Int) < (xs.length : Int)) = True := eq_true yq9
    replace p0 := eq_true p0
    generalize xs[i]'hil = s at *
    replace hi := zaa.mk hi
    clear hil
    have CWL := zaa.mk (cw_well (w := w) s hsm HG.out)
    have CI0 : zaa (CW w 48 #[.string s, .string ⟨([123, 48, 125] : List UInt8).toArray⟩] (.int .i64 (idx3 s 48))) := ⟨cw_index s 48 hsm HG.out⟩
    have CI1 : zaa (CW w 48 #[.string s, .string ⟨([123, 49, 125] : List UInt8).toArray⟩] (.int .i64 (idx3 s 49))) := ⟨cw_index s 49 hsm HG.out⟩
    have CK0 : zaa (CW w 49 #[.string s, .string ⟨([123, 48, 125] : List UInt8).toArray⟩] (.int .i64 (cnt3 s 48))) := ⟨cw_count s 48 hsm HG.out⟩
    have CK1 : zaa (CW w 49 #[.string s, .string ⟨([123, 49, 125] : List UInt8).toArray⟩] (.int .i64 (cnt3 s 49))) := ⟨cw_count s 49 hsm HG.out⟩
    have FE := zaa.mk (frame_eq s)
    go_upto_region 23 with (first | ((first | (go_at_call 48; with_reducible refine (CW.go CI0.out L.out.b).mono ?_) | (go_at_call 48; with_reducible refine (CW.go CI1.out L.out.b).mono ?_)); (rintro e wn ⟨rfl, hb⟩; have L1 := zaa.mk (L.out.step hb); have HW1 := zaa.mk (zam HW.out hb); clear L HW hb; have L := L1; have HW := HW1; clear L1 HW1)) | fail)
    have e2 : (s.toList == ([] : List UInt8)) = nilB s := rfl
    have f2 : (s.toList != ([] : List UInt8)) = !nilB s := rfl
    generalize frameB s = fb at *
    generalize cnt3 s 48 = c0 at *
    generalize cnt3 s 49 = c1 at *
    generalize idx3 s 48 = i0 at *
    generalize idx3 s 49 = i1 at *
    rcases fork (!b) (fork2 (nilB s) trivial (fork (!decide (50 < (s.size : Int))) (fork (okB s) (fork (c0 == 1) (fork (c1 == 1) (fork (!decide (i1 < i0)) trivial)))))) with g0 | ⟨g0, ⟨g1, -⟩ | ⟨g1, g2 | ⟨g2, g3 | ⟨g3, g4 | ⟨g4, g5 | ⟨g5, g6 | ⟨g6, -⟩⟩⟩⟩⟩⟩⟩ <;>
     ((try simp only [Bool.not_eq_false', Bool.not_eq_true'] at g0); (try replace g2 := dbF g2); (try replace g2 := dbT g2); (try replace g6 := dbF g6); (try replace g6 := dbT g6); (try replace g4 := beT g4); (try replace g4 := beF g4); (try replace g5 := beT g5); (try replace g5 := beF g5); go_wp2_with (first | ((first | (go_at_call 43; with_reducible refine (CW.go CWL.out L.out.b).mono ?_) | (go_at_call 49; with_reducible refine (CW.go CK0.out L.out.b).mono ?_) | (go_at_call 49; with_reducible refine (CW.go CK1.out L.out.b).mono ?_)); (rintro e wn ⟨rfl, hb⟩; have L1 := zaa.mk (L.out.step hb); have HW1 := zaa.mk (zam HW.out hb); clear L HW hb; have L := L1; have HW := HW1; clear L1 HW1))); go_roundg fu; (case measure => have := HK.out; omega); (case rel => exact ⟨(b || !fb), i + 1, (by rw [FE.out]; simp [*, bne]), yq23, ⟨yq15 hi.out, yq19 HK.out hi.out⟩, ⟨by rw [HBT.out, orn, HT.out]⟩, HW⟩))
   have q0 : ((i : Int) < 4) = False := eq_false yq9
   have HE : zaa (b = (b5 || !([a0_8, a0_9, a0_10, a0_11].all frameB))) := ⟨by rw [HBT.out, List.take_of_length_le yq9, HX.out]⟩
   replace hi : (i < 4) = False := eq_false hi
   clear HBT HK HX SX CX
   go_wp2
   (refine HQ.out ?_ L; exact HE)
end Go.Proofs.YtfafjbolmeimmaaGreatDoor.P
