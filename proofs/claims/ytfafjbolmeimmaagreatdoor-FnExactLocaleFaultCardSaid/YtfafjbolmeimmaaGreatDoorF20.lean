/- Parts of a proof: words of the print tool that this claim uses, or plain lists. -/
import Derived.Test.YtfafjbolmeimmaaGreatDoorF17
import Derived.Deep.CutBlock
import Derived.Test.YtfafjbolmeimmaaGreatDoorXLgA
import Derived.Test.YtfafjbolmeimmaaGreatDoorXLgB
import Derived.Test.YtfafjbolmeimmaaGreatDoorF19
import Derived.Test.YtfafjbolmeimmaaGreatDoorXLgD
namespace Go.Proofs.YtfafjbolmeimmaaGreatDoor.P
open Go.RowKit Go.Proofs.YtfafjbolmeimmaaGreatDoorW.PrintWords Go.Proofs.YtfafjbolmeimmaaGreatDoorW.PrintLast Go.Proofs.YtfafjbolmeimmaaGreatDoorW.PrintMore
set_option linter.unusedVariables false
set_option linter.unusedSimpArgs false
variable {a0_0 a0_1 a0_2 a0_3 a0_4 : ByteArray} {A0_5 : Option Addr} {c0_5 : Nat} {l0_5 : List Int} {a0_6 : Int} {A0_7 : Option Addr} {c0_7 : Nat} {l0_7 : List S58} {a0_8 a0_9 a0_10 a0_11 : ByteArray} {A0_12 : Option Addr} {c0_12 : Nat} {l0_12 : List ByteArray} {A0_13 : Option Addr} {c0_13 : Nat} {l0_13 : List ByteArray} {a0_14 : ByteArray} {w wc : World} {gb : Nat}
set_option maxHeartbeats 8000000 in
set_option maxRecDepth 1000000 in
theorem lf_H {b7 : Bool} {r : Int} {x4 x5 x6 x7 x8 x9 x10 x11 x12 x13 x14 x15 x16 x17 x18 x19 x20 x21 x22 x23 x24 x25 x26 x27 x28 x29 x30 x31 x32 x33 x34 x35 x36 x37 x38 x39 x40 x41 x42 x43 x44 x45 x46 x47 x48 x49 x50 x51 x52 x53 x54 x55 x56 x57 x58 x59 x60 x61 x62 x63 x64 x65 x66 x67 x68 x69 x70 x71 x72 x73 x74 x75 x76 x77 x78 x79 x80 x81 x82 x83 x84 x85 x86 x87 x88 x89 x90 x91 x92 x93 x94 x95 x96 x97 x98 x99 x100 x101 x102 x103 x104 x105 x106 x107 x108 x109 x110 x111 x112 x113 x114 x115 x116 x117 x118 x119 x120 x121 x122 x123 x124 x125 x126 x127 x128 x129 x130 x131 x132 x133 x134 x135 x136 x137 x138 x139 x140 x141 x142 x143 x144 x145 x146 x147 x148 x149 x150 x151 x152 x153 x154 x155 x156 x157 x158 x159 x160 x161 x162 x163 x164 x165 x166 x167 x168 x169 x170 x171 x172 x173 x174 x175 x176 x177 x178 x179 x180 x181 x182 x183 x184 x185 x186 x187 x188 x189 x190 x191 x192 x193 x194 x195 x196 x197 x198 x199 x200 x201 x202 x203 x204 x205 x206 x207 x208 x209 x210 x211 x212 x213 x214 x215 x216 x217 x218 x219 x220 x221 x222 x223 x224 x225 x226 x227 x228 x229 x230 x231 x232 x233 x234 x235 x236 x237 x238 x239 x240 x241 x242 x243 x244 x245 x246 x247 x248 x249 x250 x251 x252 x253 x254 x255 x256 x257 x258 x259 x260 x261 x262 x263 x264 x265 x266 x267 x268 x269 x270 x271 x272 x273 x274 x275 x276 x277 x278 x279 x280 x281 x282 x283 x284 x285 x286 x287 x288 x289 : Value} (s14 : zab (smallT a0_14 = true)) (HG : zab (GT w)) (HR : zab ((if (b7 || !(!decide (50 < (a0_14.size : Int)) && okB a0_14)) = true then (1 : Int) else 0) = r)) (L : zab (LS w wc gb (locV a0_0 a0_1 a0_2 a0_3 a0_4 (.slice A0_5 l0_5.length c0_5) a0_6 (.slice A0_7 l0_7.length c0_7) a0_8 a0_9 a0_10 a0_11 (.slice A0_12 l0_12.length c0_12) (.slice A0_13 l0_13.length c0_13) a0_14))) :
  Code.wp Tryz.prog (lfTail 8) (bodyPost Tryz.prog Tryz.f11 fun e w' => e = .returned (.int .i64 r) ∧ Below w.heap.size w w') ⟨((.agg #[.string a0_0, .string a0_1, .string a0_2, .string a0_3, .string a0_4, .slice A0_5 l0_5.length c0_5, .int .i64 a0_6, .slice A0_7 l0_7.length c0_7, .string a0_8, .string a0_9, .string a0_10, .string a0_11, .slice A0_12 l0_12.length c0_12, .slice A0_13 l0_13.length c0_13, .string a0_14]) :: (.pointer (some ⟨gb, 0, none⟩)) :: (.int .i64 0) :: (.bool b7) :: x4 :: x5 :: x6 :: x7 :: x8 :: x9 :: x10 :: x11 :: x12 :: x13 :: x14 :: x15 :: x16 :: x17 :: x18 :: x19 :: x20 :: x21 :: x22 :: x23 :: x24 :: x25 :: x26 :: x27 :: x28 :: x29 :: x30 :: x31 :: x32 :: x33 :: x34 :: x35 :: x36 :: x37 :: x38 :: x39 :: x40 :: x41 :: x42 :: x43 :: x44 :: x45 :: x46 :: x47 :: x48 :: x49 :: x50 :: x51 :: x52 :: x53 :: x54 :: x55 :: x56 :: x57 :: x58 :: x59 :: x60 :: x61 :: x62 :: x63 :: x64 :: x65 :: x66 :: x67 :: x68 :: x69 :: x70 :: x71 :: x72 :: x73 :: x74 :: x75 :: x76 :: x77 :: x78 :: x79 :: x80 :: x81 :: x82 :: x83 :: x84 :: x85 :: x86 :: x87 :: x88 :: x89 :: x90 :: x91 :: x92 :: x93 :: x94 :: x95 :: x96 :: x97 :: x98 :: x99 :: x100 :: x101 :: x102 :: x103 :: x104 :: x105 :: x106 :: x107 :: x108 :: x109 :: x110 :: x111 :: x112 :: x113 :: x114 :: x115 :: x116 :: x117 :: x118 :: x119 :: x120 :: x121 :: x122 :: x123 :: x124 :: x125 :: x126 :: x127 :: x128 :: x129 :: x130 :: x131 :: x132 :: x133 :: x134 :: x135 :: x136 :: x137 :: x138 :: x139 :: x140 :: x141 :: x142 :: x143 :: x144 :: x145 :: x146 :: x147 :: x148 :: x149 :: x150 :: x151 :: x152 :: x153 :: x154 :: x155 :: x156 :: x157 :: x158 :: x159 :: x160 :: x161 :: x162 :: x163 :: x164 :: x165 :: x166 :: x167 :: x168 :: x169 :: x170 :: x171 :: x172 :: x173 :: x174 :: x175 :: x176 :: x177 :: x178 :: x179 :: x180 :: x181 :: x182 :: x183 :: x184 :: x185 :: x186 :: x187 :: x188 :: x189 :: x190 :: x191 :: x192 :: x193 :: x194 :: x195 :: x196 :: x197 :: x198 :: x199 :: x200 :: x201 :: x202 :: x203 :: x204 :: x205 :: x206 :: x207 :: x208 :: x209 :: x210 :: x211 :: x212 :: x213 :: x214 :: x215 :: x216 :: x217 :: x218 :: x219 :: x220 :: x221 :: x222 :: x223 :: x224 :: x225 :: x226 :: x227 :: x228 :: x229 :: x230 :: x231 :: x232 :: x233 :: x234 :: x235 :: x236 :: x237 :: x238 :: x239 :: x240 :: x241 :: x242 :: x243 :: x244 :: x245 :: x246 :: x247 :: x248 :: x249 :: x250 :: x251 :: x252 :: x253 :: x254 :: x255 :: x256 :: x257 :: x258 :: x259 :: x260 :: x261 :: x262 :: x263 :: x264 :: x265 :: x266 :: x267 :: x268 :: x269 :: x270 :: x271 :: x272 :: x273 :: x274 :: x275 :: x276 :: x277 :: x278 :: x279 :: x280 :: x281 :: x282 :: x283 :: x284 :: x285 :: x286 :: x287 :: x288 :: x289 :: []).toArray, []⟩ wc := by
 conv => arg 2; whnf
 have D14 := zab.mk (cw_well (w := w) a0_14 s14.out HG.out)
 rcases fork (!b7) (fork (!decide (50 < (a0_14.size : Int))) (fork (okB a0_14) trivial)) with g0 | ⟨g0, g1 | ⟨g1, g2 | ⟨g2, -⟩⟩⟩ <;>
  (obtain ⟨k0, k1, k2, k3, k4, k5, k6, k7, k8, k9, k10, k11, k12, k13, k14⟩ := L.out.at; (try simp only [Bool.not_eq_false', Bool.not_eq_true'] at g0); (try replace g1 := dbF g1); (try replace g1 := dbT g1); go_wp2_with (first | (first | (go_at_call 43; with_reducible refine (CW.go D14.out L.out.b).mono ?_)); (rintro e wn ⟨rfl, hb⟩; have L1 := zab.mk (L.out.step hb); clear L hb k0 k1 k2 k3 k4 k5 k6 k7 k8 k9 k10 k11 k12 k13 k14; have L := L1; clear L1; obtain ⟨k0, k1, k2, k3, k4, k5, k6, k7, k8, k9, k10, k11, k12, k13, k14⟩ := L.out.at) | fail); go_ret; exact ⟨by rw [← HR.out]; simp [*], L.out.b⟩)
end Go.Proofs.YtfafjbolmeimmaaGreatDoor.P
namespace Go.Proofs.YtfafjbolmeimmaaGreatDoor.P
open Go.RowKit Go.Proofs.YtfafjbolmeimmaaGreatDoorW.PrintWords Go.Proofs.YtfafjbolmeimmaaGreatDoorW.PrintLast Go.Proofs.YtfafjbolmeimmaaGreatDoorW.PrintMore
set_option linter.unusedVariables false
set_option linter.unusedSimpArgs false
def zaG.f (a0_0 : ByteArray) (a0_1 : ByteArray) (a0_2 : ByteArray) (a0_3 : ByteArray) (a0_4 : ByteArray) (l0_5 : List Int) (a0_6 : Int) (l0_7 : List S58) (a0_8 : ByteArray) (a0_9 : ByteArray) (a0_10 : ByteArray) (a0_11 : ByteArray) (l0_12 : List ByteArray) (l0_13 : List ByteArray) (a0_14 : ByteArray) : Option Int := if smallLoc a0_0 a0_1 a0_2 a0_3 a0_4 l0_5 l0_7 a0_8 a0_9 a0_10 a0_11 l0_12 l0_13 a0_14 = true then some (if okLoc a0_0 a0_1 a0_2 a0_3 a0_4 l0_5 a0_6 l0_7 a0_8 a0_9 a0_10 a0_11 l0_12 l0_13 a0_14 = true then 0 else 1) else none
theorem sp_ok (a0 a1 a2 a3 a4 : ByteArray) (l5 : List Int) (a6 : Int) (l7 : List S58) (a8 a9 a10 a11 : ByteArray) (l12 l13 : List ByteArray) (a14 : ByteArray) : okLoc a0 a1 a2 a3 a4 l5 a6 l7 a8 a9 a10 a11 l12 l13 a14 = (sp1 a0 a1 a2 a3 a4 && (sp3 l5 a6 l7 a8 a9 a10 a11 l12 l13 a14 && (l5.all szB && plFrom l7 0))) := by
 unfold okLoc loc1 sp1 sp3
 simp only [List.all_cons, List.all_nil, Bool.and_true]
 ac_rfl
theorem rt_no {p x : Bool} {r : Int} (h : (if (p && x) = true then (0 : Int) else 1) = r) : p = false → r = 1 := fun e => by rw [e] at h; exact h.symm
theorem rt_yes {p x : Bool} {r : Int} (h : (if (p && x) = true then (0 : Int) else 1) = r) (e : p = true) : (if x = true then (0 : Int) else 1) = r := by rw [e, Bool.true_and] at h; exact h
theorem rt_last {p : Bool} {r : Int} (h : (if p = true then (0 : Int) else 1) = r) : p = false → r = 1 := fun e => by rw [e] at h; exact h.symm
set_option maxHeartbeats 8000000 in
set_option maxRecDepth 100000 in
theorem zaG.calls (a0_0 : ByteArray) (a0_1 : ByteArray) (a0_2 : ByteArray) (a0_3 : ByteArray) (a0_4 : ByteArray) (A0_5 : Option Addr) (c0_5 : Nat) (l0_5 : List Int) (a0_6 : Int) (A0_7 : Option Addr) (c0_7 : Nat) (l0_7 : List S58) (a0_8 : ByteArray) (a0_9 : ByteArray) (a0_10 : ByteArray) (a0_11 : ByteArray) (A0_12 : Option Addr) (c0_12 : Nat) (l0_12 : List ByteArray) (A0_13 : Option Addr) (c0_13 : Nat) (l0_13 : List ByteArray) (a0_14 : ByteArray) (r : Int) (w : World) (hr0_5 : Kd.C (Kd.int .i64) w A0_5 l0_5.length l0_5) (hc0_5 : l0_5.length ≤ c0_5) (hr0_7 : Kd.C k58 w A0_7 l0_7.length l0_7) (hc0_7 : l0_7.length ≤ c0_7) (hr0_12 : Kd.C Kd.string w A0_12 l0_12.length l0_12) (hc0_12 : l0_12.length ≤ c0_12) (hr0_13 : Kd.C Kd.string w A0_13 l0_13.length l0_13) (hc0_13 : l0_13.length ≤ c0_13) (h : zaG.f a0_0 a0_1 a0_2 a0_3 a0_4 l0_5 a0_6 l0_7 a0_8 a0_9 a0_10 a0_11 l0_12 l0_13 a0_14 = some r) :
  Calls Tryz.prog 9 #[.agg #[.string a0_0, .string a0_1, .string a0_2, .string a0_3, .string a0_4, .slice A0_5 l0_5.length c0_5, .int .i64 a0_6, .slice A0_7 l0_7.length c0_7, .string a0_8, .string a0_9, .string a0_10, .string a0_11, .slice A0_12 l0_12.length c0_12, .slice A0_13 l0_13.length c0_13, .string a0_14]] w fun e w' => e = .returned (.int .i64 r) ∧ Below w.heap.size w w' := by
 unfold zaG.f at h
 split at h
 case isFalse => cases h
 rename_i hs
 have hr := Option.some.inj h
 rw [sp_ok] at hr
 have SM := zab.mk hs
 obtain ⟨⟨s0, s1, s2, s3, s4, s8, s9, s10, s11, s14⟩, t5, t7, q7, t12, q12, t13, q13⟩ := small_parts' hs
 have K5 := zab.mk hr0_5; have K7 := zab.mk hr0_7
 go_enter Tryz.func9, Tryz.ntmps9
 refine wp_seq (lg_0 _ ?_)
 intros
 rename_i w0 L0
 change Code.wp _ _ _ _ _
 refine wp_seq (lg_A SM L0 (rt_no hr) _ (fun _ _ => rfl) ?_)
 intros
 rename_i w1 p1 L1
 change Code.wp _ _ _ _ _
 have hr1 := rt_yes hr p1
 refine wp_seq (lg_B SM hr0_12 hc0_12 hr0_13 hc0_13 L1 (rt_no hr1) _ (fun _ _ => rfl) ?_)
 intros
 rename_i w2 p2 L2
 change Code.wp _ _ _ _ _
 have hr2 := rt_yes hr1 p2
 refine wp_seq (lg_C ⟨t5⟩ K5 L2 (rt_no hr2) _ (fun _ _ => rfl) ⟨fun _ _ n _ _ h => by cases n <;> exact h⟩ ?_)
 intros
 rename_i w3 p3 L3
 change Code.wp _ _ _ _ _
 have hr3 := rt_yes hr2 p3
 refine wp_seq (lg_D SM K7 L3 (rt_last hr3) _ (fun _ _ => rfl) ⟨fun _ _ n _ _ h => by cases n <;> exact h⟩ ?_)
 intros
 rename_i w4 p4 L4
 change Code.wp _ _ _ _ _
 rw [p4] at hr3
 have hr4 : (0 : Int) = r := hr3
 clear hr hr1 hr2 hr3
 go_wp2
 go_ret
 exact ⟨by rw [← hr4]; rfl, L4.out.b⟩
end Go.Proofs.YtfafjbolmeimmaaGreatDoor.P
