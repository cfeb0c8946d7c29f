/- impl.LocaleFault, walked: stage G. -/
import Derived.Test.YtfafjbolmeimmaaGreatDoorAb
import Derived.Test.YtfafjbolmeimmaaGreatDoorF19
import Derived.Deep.CutBlock
namespace Go.Proofs.YtfafjbolmeimmaaGreatDoor.P
open Go.RowKit Go.Proofs.YtfafjbolmeimmaaGreatDoorW.PrintWords Go.Proofs.YtfafjbolmeimmaaGreatDoorW.PrintLast Go.Proofs.YtfafjbolmeimmaaGreatDoorW.PrintMore
set_option linter.unusedVariables false
set_option linter.unusedSimpArgs false
variable {a0_0 a0_1 a0_2 a0_3 a0_4 : ByteArray} {A0_5 : Option Addr} {c0_5 : Nat} {l0_5 : List Int} {a0_6 : Int} {A0_7 : Option Addr} {c0_7 : Nat} {l0_7 : List S58} {a0_8 a0_9 a0_10 a0_11 : ByteArray} {A0_12 : Option Addr} {c0_12 : Nat} {l0_12 : List ByteArray} {A0_13 : Option Addr} {c0_13 : Nat} {l0_13 : List ByteArray} {a0_14 : ByteArray} {w wc : World} {gb : Nat}
set_option maxHeartbeats 8000000 in
set_option maxRecDepth 1000000 in
theorem lf_G {b6 : Bool} {x4 x5 x6 x7 x8 x9 x10 x11 x12 x13 x14 x15 x16 x17 x18 x19 x20 x21 x22 x23 x24 x25 x26 x27 x28 x29 x30 x31 x32 x33 x34 x35 x36 x37 x38 x39 x40 x41 x42 x43 x44 x45 x46 x47 x48 x49 x50 x51 x52 x53 x54 x55 x56 x57 x58 x59 x60 x61 x62 x63 x64 x65 x66 x67 x68 x69 x70 x71 x72 x73 x74 x75 x76 x77 x78 x79 x80 x81 x82 x83 x84 x85 x86 x87 x88 x89 x90 x91 x92 x93 x94 x95 x96 x97 x98 x99 x100 x101 x102 x103 x104 x105 x106 x107 x108 x109 x110 x111 x112 x113 x114 x115 x116 x117 x118 x119 x120 x121 x122 x123 x124 x125 x126 x127 x128 x129 x130 x131 x132 x133 x134 x135 x136 x137 x138 x139 x140 x141 x142 x143 x144 x145 x146 x147 x148 x149 x150 x151 x152 x153 x154 x155 x156 x157 x158 x159 x160 x161 x162 x163 x164 x165 x166 x167 x168 x169 x170 x171 x172 x173 x174 x175 x176 x177 x178 x179 x180 x181 x182 x183 x184 x185 x186 x187 x188 x189 x190 x191 x192 x193 x194 x195 x196 x197 x198 x199 x200 x201 x202 x203 x204 x205 x206 x207 x208 x209 x210 x211 x212 x213 x214 x215 x216 x217 x218 x219 x220 x221 x222 x223 x224 x225 x226 x227 x228 x229 x230 x231 x232 x233 x234 x235 x236 x237 x238 x239 x240 x241 x242 x243 x244 x245 x246 x247 x248 x249 x250 x251 x252 x253 x254 x255 x256 x257 x258 x259 x260 x261 x262 x263 x264 x265 x266 x267 x268 x269 x270 x271 x272 x273 x274 x275 x276 x277 x278 x279 x280 x281 x282 x283 x284 x285 x286 x287 x288 x289 : Value} (SM : zaa (smallLoc a0_0 a0_1 a0_2 a0_3 a0_4 l0_5 l0_7 a0_8 a0_9 a0_10 a0_11 l0_12 l0_13 a0_14 = true)) (HG : zaa (GT w)) (HR12l : zaa (Kd.C Kd.string w A0_12 l0_12.length l0_12)) (HR13l : zaa (Kd.C Kd.string w A0_13 l0_13.length l0_13)) (L : zaa (LS w wc gb (locV a0_0 a0_1 a0_2 a0_3 a0_4 (.slice A0_5 l0_5.length c0_5) a0_6 (.slice A0_7 l0_7.length c0_7) a0_8 a0_9 a0_10 a0_11 (.slice A0_12 l0_12.length c0_12) (.slice A0_13 l0_13.length c0_13) a0_14))) (Q : Exit → Act → World → Prop)
  (hQ : ∀ ⦃b : Bool⦄ ⦃y4 y5 y6 y7 y8 y9 y10 y11 y12 y13 y14 y15 y16 y17 y18 y19 y20 y21 y22 y23 y24 y25 y26 y27 y28 y29 y30 y31 y32 y33 y34 y35 y36 y37 y38 y39 y40 y41 y42 y43 y44 y45 y46 y47 y48 y49 y50 y51 y52 y53 y54 y55 y56 y57 y58 y59 y60 y61 y62 y63 y64 y65 y66 y67 y68 y69 y70 y71 y72 y73 y74 y75 y76 y77 y78 y79 y80 y81 y82 y83 y84 y85 y86 y87 y88 y89 y90 y91 y92 y93 y94 y95 y96 y97 y98 y99 y100 y101 y102 y103 y104 y105 y106 y107 y108 y109 y110 y111 y112 y113 y114 y115 y116 y117 y118 y119 y120 y121 y122 y123 y124 y125 y126 y127 y128 y129 y130 y131 y132 y133 y134 y135 y136 y137 y138 y139 y140 y141 y142 y143 y144 y145 y146 y147 y148 y149 y150 y151 y152 y153 y154 y155 y156 y157 y158 y159 y160 y161 y162 y163 y164 y165 y166 y167 y168 y169 y170 y171 y172 y173 y174 y175 y176 y177 y178 y179 y180 y181 y182 y183 y184 y185 y186 y187 y188 y189 y190 y191 y192 y193 y194 y195 y196 y197 y198 y199 y200 y201 y202 y203 y204 y205 y206 y207 y208 y209 y210 y211 y212 y213 y214 y215 y216 y217 y218 y219 y220 y221 y222 y223 y224 y225 y226 y227 y228 y229 y230 y231 y232 y233 y234 y235 y236 y237 y238 y239 y240 y241 y242 y243 y244 y245 y246 y247 y248 y249 y250 y251 y252 y253 y254 y255 y256 y257 y258 y259 y260 y261 y262 y263 y264 y265 y266 y267 y268 y269 y270 y271 y272 y273 y274 y275 y276 y277 y278 y279 y280 y281 y282 y283 y284 y285 y286 y287 y288 y289 : Value⦄ ⦃w' : World⦄, zaa (b = (b6 || !(labelsB l0_12 13 && labelsB l0_13 7))) → zaa (LS w w' gb (locV a0_0 a0_1 a0_2 a0_3 a0_4 (.slice A0_5 l0_5.length c0_5) a0_6 (.slice A0_7 l0_7.length c0_7) a0_8 a0_9 a0_10 a0_11 (.slice A0_12 l0_12.length c0_12) (.slice A0_13 l0_13.length c0_13) a0_14)) → Q .normal ⟨((.agg #[.string a0_0, .string a0_1, .string a0_2, .string a0_3, .string a0_4, .slice A0_5 l0_5.length c0_5, .int .i64 a0_6, .slice A0_7 l0_7.length c0_7, .string a0_8, .string a0_9, .string a0_10, .string a0_11, .slice A0_12 l0_12.length c0_12, .slice A0_13 l0_13.length c0_13, .string a0_14]) :: (.pointer (some ⟨gb, 0, none⟩)) :: (.int .i64 0) :: (.bool b) :: y4 :: y5 :: y6 :: y7 :: y8 :: y9 :: y10 :: y11 :: y12 :: y13 :: y14 :: y15 :: y16 :: y17 :: y18 :: y19 :: y20 :: y21 :: y22 :: y23 :: y24 :: y25 :: y26 :: y27 :: y28 :: y29 :: y30 :: y31 :: y32 :: y33 :: y34 :: y35 :: y36 :: y37 :: y38 :: y39 :: y40 :: y41 :: y42 :: y43 :: y44 :: y45 :: y46 :: y47 :: y48 :: y49 :: y50 :: y51 :: y52 :: y53 :: y54 :: y55 :: y56 :: y57 :: y58 :: y59 :: y60 :: y61 :: y62 :: y63 :: y64 :: y65 :: y66 :: y67 :: y68 :: y69 :: y70 :: y71 :: y72 :: y73 :: y74 :: y75 :: y76 :: y77 :: y78 :: y79 :: y80 :: y81 :: y82 :: y83 :: y84 :: y85 :: y86 :: y87 :: y88 :: y89 :: y90 :: y91 :: y92 :: y93 :: y94 :: y95 :: y96 :: y97 :: y98 :: y99 :: y100 :: y101 :: y102 :: y103 :: y104 :: y105 :: y106 :: y107 :: y108 :: y109 :: y110 :: y111 :: y112 :: y113 :: y114 :: y115 :: y116 :: y117 :: y118 :: y119 :: y120 :: y121 :: y122 :: y123 :: y124 :: y125 :: y126 :: y127 :: y128 :: y129 :: y130 :: y131 :: y132 :: y133 :: y134 :: y135 :: y136 :: y137 :: y138 :: y139 :: y140 :: y141 :: y142 :: y143 :: y144 :: y145 :: y146 :: y147 :: y148 :: y149 :: y150 :: y151 :: y152 :: y153 :: y154 :: y155 :: y156 :: y157 :: y158 :: y159 :: y160 :: y161 :: y162 :: y163 :: y164 :: y165 :: y166 :: y167 :: y168 :: y169 :: y170 :: y171 :: y172 :: y173 :: y174 :: y175 :: y176 :: y177 :: y178 :: y179 :: y180 :: y181 :: y182 :: y183 :: y184 :: y185 :: y186 :: y187 :: y188 :: y189 :: y190 :: y191 :: y192 :: y193 :: y194 :: y195 :: y196 :: y197 :: y198 :: y199 :: y200 :: y201 :: y202 :: y203 :: y204 :: y205 :: y206 :: y207 :: y208 :: y209 :: y210 :: y211 :: y212 :: y213 :: y214 :: y215 :: y216 :: y217 :: y218 :: y219 :: y220 :: y221 :: y222 :: y223 :: y224 :: y225 :: y226 :: y227 :: y228 :: y229 :: y230 :: y231 :: y232 :: y233 :: y234 :: y235 :: y236 :: y237 :: y238 :: y239 :: y240 :: y241 :: y242 :: y243 :: y244 :: y245 :: y246 :: y247 :: y248 :: y249 :: y250 :: y251 :: y252 :: y253 :: y254 :: y255 :: y256 :: y257 :: y258 :: y259 :: y260 :: y261 :: y262 :: y263 :: y264 :: y265 :: y266 :: y267 :: y268 :: y269 :: y270 :: y271 :: y272 :: y273 :: y274 :: y275 :: y276 :: y277 :: y278 :: y279 :: y280 :: y281 :: y282 :: y283 :: y284 :: y285 :: y286 :: y287 :: y288 :: y289 :: []).toArray, []⟩ w') :
  Code.wp Tryz.prog (lfCode 7) Q ⟨((.agg #[.string a0_0, .string a0_1, .string a0_2, .string a0_3, .string a0_4, .slice A0_5 l0_5.length c0_5, .int .i64 a0_6, .slice A0_7 l0_7.length c0_7, .string a0_8, .string a0_9, .string a0_10, .string a0_11, .slice A0_12 l0_12.length c0_12, .slice A0_13 l0_13.length c0_13, .string a0_14]) :: (.pointer (some ⟨gb, 0, none⟩)) :: (.int .i64 0) :: (.bool b6) :: x4 :: x5 :: x6 :: x7 :: x8 :: x9 :: x10 :: x11 :: x12 :: x13 :: x14 :: x15 :: x16 :: x17 :: x18 :: x19 :: x20 :: x21 :: x22 :: x23 :: x24 :: x25 :: x26 :: x27 :: x28 :: x29 :: x30 :: x31 :: x32 :: x33 :: x34 :: x35 :: x36 :: x37 :: x38 :: x39 :: x40 :: x41 :: x42 :: x43 :: x44 :: x45 :: x46 :: x47 :: x48 :: x49 :: x50 :: x51 :: x52 :: x53 :: x54 :: x55 :: x56 :: x57 :: x58 :: x59 :: x60 :: x61 :: x62 :: x63 :: x64 :: x65 :: x66 :: x67 :: x68 :: x69 :: x70 :: x71 :: x72 :: x73 :: x74 :: x75 :: x76 :: x77 :: x78 :: x79 :: x80 :: x81 :: x82 :: x83 :: x84 :: x85 :: x86 :: x87 :: x88 :: x89 :: x90 :: x91 :: x92 :: x93 :: x94 :: x95 :: x96 :: x97 :: x98 :: x99 :: x100 :: x101 :: x102 :: x103 :: x104 :: x105 :: x106 :: x107 :: x108 :: x109 :: x110 :: x111 :: x112 :: x113 :: x114 :: x115 :: x116 :: x117 :: x118 :: x119 :: x120 :: x121 :: x122 :: x123 :: x124 :: x125 :: x126 :: x127 :: x128 :: x129 :: x130 :: x131 :: x132 :: x133 :: x134 :: x135 :: x136 :: x137 :: x138 :: x139 :: x140 :: x141 :: x142 :: x143 :: x144 :: x145 :: x146 :: x147 :: x148 :: x149 :: x150 :: x151 :: x152 :: x153 :: x154 :: x155 :: x156 :: x157 :: x158 :: x159 :: x160 :: x161 :: x162 :: x163 :: x164 :: x165 :: x166 :: x167 :: x168 :: x169 :: x170 :: x171 :: x172 :: x173 :: x174 :: x175 :: x176 :: x177 :: x178 :: x179 :: x180 :: x181 :: x182 :: x183 :: x184 :: x185 :: x186 :: x187 :: x188 :: x189 :: x190 :: x191 :: x192 :: x193 :: x194 :: x195 :: x196 :: x197 :: x198 :: x199 :: x200 :: x201 :: x202 :: x203 :: x204 :: x205 :: x206 :: x207 :: x208 :: x209 :: x210 :: x211 :: x212 :: x213 :: x214 :: x215 :: x216 :: x217 :: x218 :: x219 :: x220 :: x221 :: x222 :: x223 :: x224 :: x225 :: x226 :: x227 :: x228 :: x229 :: x230 :: x231 :: x232 :: x233 :: x234 :: x235 :: x236 :: x237 :: x238 :: x239 :: x240 :: x241 :: x242 :: x243 :: x244 :: x245 :: x246 :: x247 :: x248 :: x249 :: x250 :: x251 :: x252 :: x253 :: x254 :: x255 :: x256 :: x257 :: x258 :: x259 :: x260 :: x261 :: x262 :: x263 :: x264 :: x265 :: x266 :: x267 :: x268 :: x269 :: x270 :: x271 :: x272 :: x273 :: x274 :: x275 :: x276 :: x277 :: x278 :: x279 :: x280 :: x281 :: x282 :: x283 :: x284 :: x285 :: x286 :: x287 :: x288 :: x289 :: []).toArray, []⟩ wc := by
 have HQ := zaa.mk hQ; clear hQ
 conv => arg 2; whnf
 obtain ⟨⟨s0, s1, s2, s3, s4, s8, s9, s10, s11, s14⟩, t5, t7, q7, t12, q12, t13, q13⟩ := small_parts' SM.out
 have T12 := zaa.mk t12; have Q12 := zaa.mk q12; have T13 := zaa.mk t13; have Q13 := zaa.mk q13; clear SM s0 s1 s2 s3 s4 s8 s9 s10 s11 s14 t5 t7 q7 t12 q12 t13 q13
 obtain ⟨B, hB⟩ : ∃ B, B = wc.heap.size := ⟨_, rfl⟩
 have hBg : B ≠ gb := by have := blk_lt L.out.k; omega
 have hBw : w.heap.size ≤ B := by rw [hB]; exact zaq L.out.b
 obtain ⟨w1, hw1⟩ : ∃ x, x = wc.alloc (.map #[] 0) := ⟨_, rfl⟩
 have E0 : (Instr.makeMap 66 none).run Tryz.prog wc = .ok (.map (some B)) w1 := by rw [hw1, hB]; exact run_makeMap _ _
 have L1 : LS w w1 gb (locV a0_0 a0_1 a0_2 a0_3 a0_4 (.slice A0_5 l0_5.length c0_5) a0_6 (.slice A0_7 l0_7.length c0_7) a0_8 a0_9 a0_10 a0_11 (.slice A0_12 l0_12.length c0_12) (.slice A0_13 l0_13.length c0_13) a0_14) := by rw [hw1]; exact L.out.lay _
 have M1 : w1.heap[B]? = some (.map #[] 0) := by rw [hw1, hB]; exact lay_at _ _
 obtain ⟨v12, hv12⟩ : ∃ v : Value, v = .slice A0_12 l0_12.length c0_12 := ⟨_, rfl⟩
 obtain ⟨v13, hv13⟩ : ∃ v : Value, v = .slice A0_13 l0_13.length c0_13 := ⟨_, rfl⟩
 obtain ⟨w2, hw2⟩ : ∃ x, x = Go.ChangeMaps.setBlock w1 B (.map #[ent 13 v12 0] 1) := ⟨_, rfl⟩
 have E1 : (Instr.mapUpdate 66 (.map (some B)) (.int .i64 13) (.slice A0_12 l0_12.length c0_12)).run Tryz.prog w1 = .ok () w2 := by rw [hw2, hv12]; exact run_insert 13 _ Tryz.underlying66 Tryz.underlying3 M1 rfl
 have L2 : LS w w2 gb (locV a0_0 a0_1 a0_2 a0_3 a0_4 (.slice A0_5 l0_5.length c0_5) a0_6 (.slice A0_7 l0_7.length c0_7) a0_8 a0_9 a0_10 a0_11 (.slice A0_12 l0_12.length c0_12) (.slice A0_13 l0_13.length c0_13) a0_14) := by rw [hw2]; exact L1.put _ hBw hBg
 have M2 : w2.heap[B]? = some (.map #[ent 13 v12 0] 1) := by rw [hw2]; exact sb_at M1
 obtain ⟨w3, hw3⟩ : ∃ x, x = Go.ChangeMaps.setBlock w2 B (.map #[ent 13 v12 0, ent 7 v13 1] 2) := ⟨_, rfl⟩
 have E2 : (Instr.mapUpdate 66 (.map (some B)) (.int .i64 7) (.slice A0_13 l0_13.length c0_13)).run Tryz.prog w2 = .ok () w3 := by rw [hw3, hv13]; exact run_insert 7 _ Tryz.underlying66 Tryz.underlying3 M2 rfl
 have L3 : LS w w3 gb (locV a0_0 a0_1 a0_2 a0_3 a0_4 (.slice A0_5 l0_5.length c0_5) a0_6 (.slice A0_7 l0_7.length c0_7) a0_8 a0_9 a0_10 a0_11 (.slice A0_12 l0_12.length c0_12) (.slice A0_13 l0_13.length c0_13) a0_14) := by rw [hw3]; exact L2.put _ hBw hBg
 have M3 : w3.heap[B]? = some (.map #[ent 13 v12 0, ent 7 v13 1] 2) := by rw [hw3]; exact sb_at M2
 obtain ⟨R, hR⟩ : ∃ R, R = w3.heap.size := ⟨_, rfl⟩
 have hRg : R ≠ gb := by have := blk_lt L3.k; omega
 have hRw : w.heap.size ≤ R := by rw [hR]; exact zaq L3.b
 have hRB : R ≠ B := by have := blk_lt M3; omega
 obtain ⟨w4, hw4⟩ : ∃ x, x = w3.alloc (.mapIter (some B) 2 #[] 2) := ⟨_, rfl⟩
 have E3 : (Instr.range 66 (.map (some B))).run Tryz.prog w3 = .ok (.pointer (some ⟨R, 0, none⟩)) w4 := by rw [hw4, hR]; exact run_range_map w3 _ _ _ B _ 2 Tryz.underlying66 M3
 have L4 : LS w w4 gb (locV a0_0 a0_1 a0_2 a0_3 a0_4 (.slice A0_5 l0_5.length c0_5) a0_6 (.slice A0_7 l0_7.length c0_7) a0_8 a0_9 a0_10 a0_11 (.slice A0_12 l0_12.length c0_12) (.slice A0_13 l0_13.length c0_13) a0_14) := by rw [hw4]; exact L3.lay _
 have MM := zaa.mk (MS.mk (wr := w4) (R := R) (by rw [hw4]; exact lay_old M3) (by rw [hw4, hR]; exact lay_at _ _) (Nat.le_refl _))
 have k12 := L1.at.2.2.2.2.2.2.2.2.2.2.2.2.1
 have k13 := L2.at.2.2.2.2.2.2.2.2.2.2.2.2.2.1
 have LL := zaa.mk L4
 have GEO := zaa.mk (And.intro hBg (And.intro hBw (And.intro hRg (And.intro hRw hRB))))
 have V12 := zaa.mk hv12; have V13 := zaa.mk hv13; clear L L1 L2 L3 L4 M1 M2 M3 hw1 hw2 hw3 hw4 hB hR hBg hBw hRg hRw hRB hv12 hv13
 go_upto_block 8 with (fail)
 have L := LL
 clear LL E0 E1 E2 E3 k12 k13
 go_wp2_with (fail)
 go_loopg [3] 3 (fun gk v3 wr => ∃ (b : Bool) (seen : Array Nat) (c0 : Nat), v3 = .bool b ∧ zaa ((leftOf #[ent 13 v12 0, ent 7 v13 1] seen).size + 1 ≤ gk) ∧ zaa ((b6 || !(labelsB l0_12 13 && labelsB l0_13 7)) = (b || !restB (labelsB l0_12 13) (labelsB l0_13 7) seen)) ∧ zaa (MS wr B R #[ent 13 v12 0, ent 7 v13 1] seen c0) ∧ zaa (LS w wr gb (locV a0_0 a0_1 a0_2 a0_3 a0_4 (.slice A0_5 l0_5.length c0_5) a0_6 (.slice A0_7 l0_7.length c0_7) a0_8 a0_9 a0_10 a0_11 (.slice A0_12 l0_12.length c0_12) (.slice A0_13 l0_13.length c0_13) a0_14)))
 case atStart => exact ⟨_, #[], 2, rfl, ⟨left_start _ _⟩, ⟨by rw [rest_start]⟩, MM, L⟩
 case round =>
  clear L MM
  obtain ⟨b, seen, c0, rfl, HK, HBT, MM, L⟩ := hrel
  obtain ⟨gz, rfl⟩ : ∃ g, gk = g + 1 := ⟨gk - 1, yq15 HK.out⟩
  have law := run_next_at (P := Tryz.prog) wr 0 R B 2 c0 seen _ 2 MM.out.i MM.out.m (ents_old _ _) MM.out.c
  rcases law with ⟨hz, hrun⟩ | ⟨e, he, w1, hal, hrun⟩
  ·have hnx : ∀ ty, (Instr.next (.pointer (some ⟨R, 0, none⟩)) false ty).run Tryz.prog wr = _ := fun _ => hrun
   have HE : zaa (b = (b6 || !(labelsB l0_12 13 && labelsB l0_13 7))) := ⟨by rw [HBT.out, rest_end hz]; simp⟩
   clear HK HBT hz hrun MM
   go_wp2
   (refine HQ.out ?_ L; exact HE)
  have hls := left_shrinks _ seen e he
  have hmem := (mem_left he).1
  have hrs := rest_step (p0 := labelsB l0_12 13) (p1 := labelsB l0_13 7) he
  obtain ⟨wx, hwx⟩ : ∃ x, x = Go.ChangeMaps.setBlock w1 R (.mapIter (some B) 2 (seen.push e.born) 2) := ⟨_, rfl⟩
  have L1 : LS w w1 gb (locV a0_0 a0_1 a0_2 a0_3 a0_4 (.slice A0_5 l0_5.length c0_5) a0_6 (.slice A0_7 l0_7.length c0_7) a0_8 a0_9 a0_10 a0_11 (.slice A0_12 l0_12.length c0_12) (.slice A0_13 l0_13.length c0_13) a0_14) := by rcases hal with rfl | rfl; exact L.out; exact L.out.drew1
  have M1 : MS w1 B R #[ent 13 v12 0, ent 7 v13 1] seen c0 := by rcases hal with rfl | rfl; exact MM.out; exact MM.out.step (zac (Below.refl _ _))
  have Lx : LS w wx gb (locV a0_0 a0_1 a0_2 a0_3 a0_4 (.slice A0_5 l0_5.length c0_5) a0_6 (.slice A0_7 l0_7.length c0_7) a0_8 a0_9 a0_10 a0_11 (.slice A0_12 l0_12.length c0_12) (.slice A0_13 l0_13.length c0_13) a0_14) := by rw [hwx]; exact L1.put _ GEO.out.2.2.2.1 GEO.out.2.2.1
  have Mx : MS wx B R #[ent 13 v12 0, ent 7 v13 1] (seen.push e.born) 2 := by rw [hwx]; exact ⟨(sb_far GEO.out.2.2.2.2).trans M1.m, sb_at M1.i, Nat.le_refl _⟩
  have hen0 := run_entry_at (P := Tryz.prog) wx R B 2 seen _ 2 e Mx.i Mx.m hmem (ents_nodup _ _)
  rw [← hwx] at hrun
  have HK2 : zaa ((leftOf #[ent 13 v12 0, ent 7 v13 1] (seen.push e.born)).size + 1 ≤ gz) := ⟨yq15 HK.out⟩
  have GEN : ∃ (n : Int) (A : Option Addr) (c : Nat) (l : List ByteArray), e.key = .int .i64 n ∧ e.val = .slice A l.length c ∧ Kd.C Kd.string w A l.length l ∧ l.length ≤ 1073741824 ∧ l.all smallT = true ∧ restB (labelsB l0_12 13) (labelsB l0_13 7) seen = (labelsB l n && restB (labelsB l0_12 13) (labelsB l0_13 7) (seen.push e.born)) := by
   rcases hrs with ⟨rfl, h⟩ | ⟨rfl, h⟩
   ·exact ⟨13, A0_12, c0_12, l0_12, rfl, V12.out, HR12l.out, T12.out, Q12.out, h⟩
   exact ⟨7, A0_13, c0_13, l0_13, rfl, V13.out, HR13l.out, T13.out, Q13.out, h⟩
  obtain ⟨n, A, c, l, hkey, hval, hC, hln, hsm, hrest⟩ := GEN
  obtain ⟨m, hm⟩ : ∃ m, m = l.length := ⟨_, rfl⟩
  have HM := zaa.mk hm
  rw [← hm] at hval
  rw [hkey, hval] at hrun hen0
  clear hm
  have hnx : ∀ ty, (Instr.next (.pointer (some ⟨R, 0, none⟩)) false ty).run Tryz.prog wr = _ := fun _ => hrun
  have HBT2 : zaa ((b6 || !(labelsB l0_12 13 && labelsB l0_13 7)) = ((b || !labelsB l n) || !restB (labelsB l0_12 13) (labelsB l0_13 7) (seen.push e.born))) := ⟨by rw [HBT.out, hrest, orn]⟩
  have MM2 := zaa.mk Mx; have L2 := zaa.mk Lx; have HC := zaa.mk hC; have HLN := zaa.mk hln; have HSM := zaa.mk hsm
  obtain ⟨seen2, hs2⟩ : ∃ s, s = seen.push e.born := ⟨_, rfl⟩
  rw [← hs2] at HBT2 MM2 HK2
  clear L MM HK HBT hls hmem hrs hwx L1 M1 Lx Mx hkey hval hC hln hsm hrest he hal hrun hs2
  have L := L2
  have MM := MM2
  clear L2 MM2
  go_upto_region 28 with (fail)
  clear hnx hen0
  (try simp only [Act.put, List.setIfInBounds_toArray, List.set_cons_zero, List.set_cons_succ])
  go_cut [3] from 242 to 253 (fun v3 wc => ∃ bb : Bool, v3 = .bool bb ∧ zaa (bb = (b || !(decide (m = 0) || decide ((m : Int) = n)))) ∧ zaa (LS w wc gb (locV a0_0 a0_1 a0_2 a0_3 a0_4 (.slice A0_5 l0_5.length c0_5) a0_6 (.slice A0_7 l0_7.length c0_7) a0_8 a0_9 a0_10 a0_11 (.slice A0_12 l0_12.length c0_12) (.slice A0_13 l0_13.length c0_13) a0_14)) ∧ zaa (MS wc B R #[ent 13 v12 0, ent 7 v13 1] seen2 2))
  case first =>
   cases b with
   | true => (go_wp2; go_meet; (case rel => exact ⟨_, rfl, ⟨yq21⟩, L, MM⟩))
   | false =>
    rcases Nat.eq_zero_or_pos m with m0 | m0
    ·subst m0
     go_wp2
     go_meet
     case rel => exact ⟨_, rfl, ⟨yq21⟩, L, MM⟩
    have m1 : (m = 0) = False := eq_false yq9
    clear m0
    by_cases m2 : (m : Int) = n
    ·have g2 := eq_true m2
     clear m2
     go_wp2
     go_meet
     case rel => exact ⟨_, rfl, ⟨by simp [*]⟩, L, MM⟩
    have g2 := eq_false m2
    clear m2
    go_wp2
    go_meet
    case rel => exact ⟨_, rfl, ⟨by simp [*]⟩, L, MM⟩
  case rest =>
   obtain ⟨bb, rfl, HBB, L, MM⟩ := hcut
   have HL0 := HM.out
   subst HL0; clear HM
   go_wp2_with (fail)
   go_loopg [3, 256] (l.length + 1) (fun gj v3 v256 wr => ∃ (b2 : Bool) (i : Nat), v3 = .bool b2 ∧ v256 = .int .i64 (i : Int) ∧ zaa (i ≤ l.length ∧ l.length - i + 1 ≤ gj) ∧ zaa ((bb || !(l.all labB)) = (b2 || !((l.drop i).all labB))) ∧ zaa (LS w wr gb (locV a0_0 a0_1 a0_2 a0_3 a0_4 (.slice A0_5 l0_5.length c0_5) a0_6 (.slice A0_7 l0_7.length c0_7) a0_8 a0_9 a0_10 a0_11 (.slice A0_12 l0_12.length c0_12) (.slice A0_13 l0_13.length c0_13) a0_14)) ∧ zaa (MS wr B R #[ent 13 v12 0, ent 7 v13 1] seen2 2))
   case atStart => exact ⟨_, 0, rfl, rfl, ⟨Nat.zero_le _, Nat.le_refl _⟩, ⟨rfl⟩, L, MM⟩
   case round =>
    clear L MM
    obtain ⟨b2, i, rfl, rfl, HJ, HLT, L, MM⟩ := hrel
    cases gk with
    | zero => exact absurd HJ.out.2 yq9
    | succ fu =>
     by_cases hi : i < l.length
     ·have p0 : (0 : Int) ≤ (i : Int) := Int.natCast_nonneg i
      obtain ⟨ad, e5, hx⟩ := Kd.at_string HC.out (i : Int) p0 yq9
      cases e5
      replace hx := L.out.old hx
      rw [rdS_get hi, Int.toNat_natCast] at hx
      have hsm := List.all_eq_true.1 HSM.out _ (List.getElem_mem hi)
      have h9 := HLT.out
      rw [List.drop_eq_getElem_cons hi, List.all_cons, ← orn', labB_eq] at h9
      have hw := w_succ i (yq15 HLN.out)
      have q0 : ((i : Int) < (l.length : Int)) = True := eq_true yq9
      replace p0 := eq_true p0
      replace hi := zaa.mk hi
      generalize l[i]'hi.out = s at *
      have H9 := zaa.mk h9
      have CWL := zaa.mk (cw_well (w := w) s hsm HG.out)
      clear h9 HLT hsm
      rcases fork (!b2) (fork (okB s) (fork (!decide ((s.size : Int) < 1)) (fork (!decide (30 < (s.size : Int))) trivial))) with g0 | ⟨g0, g1 | ⟨g1, g2 | ⟨g2, g3 | ⟨g3, -⟩⟩⟩⟩ <;>
       ((try simp only [Bool.not_eq_false', Bool.not_eq_true'] at g0); (try replace g2 := dbF g2); (try replace g2 := dbT g2); (try replace g3 := dbF g3); (try replace g3 := dbT g3); go_wp2_with (first | ((go_at_call 43; with_reducible refine (CW.go CWL.out L.out.b).mono ?_); (rintro e_ wn ⟨rfl, hb⟩; have L1 := zaa.mk (L.out.step hb); have MM1 := zaa.mk (MM.out.step hb); clear L MM hb; have L := L1; have MM := MM1; clear L1 MM1))); go_roundg fu; (case measure => have := HJ.out; omega); (case rel => exact ⟨(b2 || !(okB s && !decide ((s.size : Int) < 1) && !decide (30 < (s.size : Int)))), i + 1, (by simp [*]), yq23, ⟨yq15 hi.out, yq19 HJ.out hi.out⟩, H9, L, MM⟩))
     have q0 : ((i : Int) < (l.length : Int)) = False := eq_false yq9
     have HB2 : zaa (b2 = (bb || !(l.all labB))) := ⟨by rw [HLT.out, List.drop_eq_nil_of_le yq9]; simp⟩
     replace hi := eq_false hi
     clear HLT HJ
     go_wp2
     go_roundg gz
     case measure => omega
     case rel => exact ⟨b2, seen2, 2, rfl, HK2, ⟨by rw [HBT2.out, HB2.out, HBB.out, ← labels_eq, ← orn]⟩, MM, L⟩
end Go.Proofs.YtfafjbolmeimmaaGreatDoor.P
