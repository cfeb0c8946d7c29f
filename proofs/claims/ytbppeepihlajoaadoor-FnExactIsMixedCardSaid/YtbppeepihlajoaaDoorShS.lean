/-
  DERIVED: THE SHELF's CONTRACTS AT THIS DUMP, IN PLAIN WORDS (tools/lay-plain.mjs out of 'YtbppeepihlajoaaDoorShT.lean', which tools/lay-shelf.mjs wrote): THE SAME DECLARATIONS UNDER THE SAME NAMES: 'import', 'namespace', 'open', 'def', 'theorem' AND NOTHING ELSE: no command of the shelf's: FOR A HAND-IN. Each laying: the table of numbers ('.._ren') and one theorem, a field a fact of the dump's own or the kernel's comparison; each contract: ONE APPLICATION.
-/
import Derived.Shelf.SlGeneric
import Derived.Shelf.SortM.Plain
import Derived.Shelf.SortM.SortNone
import Derived.Ground.SlgmProg
import Derived.Shelf.SlicesE.Compact
import Derived.Shelf.SlicesE.Equal
import Derived.Shelf.SlicesE.Kit
import Derived.Ground.SlgnProg
import Derived.Test.YtbppeepihlajoaaDoorProg
namespace Go.Proofs
open Go.Shelf
def Tryd.mSort_ren : Go.Shelf.Ren := ⟨fun | 5 => 113 | 8 => 152 | 7 => 151 | 19 => 194 | 20 => 195 | 10 => 185 | 11 => 186 | 12 => 187 | 13 => 188 | 14 => 189 | 15 => 190 | 16 => 191 | 17 => 192 | 18 => 193 | 30 => 204 | 31 => 205 | 32 => 206 | 33 => 207 | 34 => 208 | 35 => 209 | 40 => 213 | n => n, fun | 23 => 67 | 25 => 2 | 3 => 3 | 32 => 150 | 22 => 67 | 0 => 0 | 44 => 168 | 46 => 104 | 4 => 4 | 36 => 175 | 35 => 174 | 41 => 179 | 5 => 5 | 9 => 9 | 53 => 186 | 57 => 190 | 63 => 194 | 64 => 195 | n => n, fun | n => n⟩
theorem Tryd.mSort : Go.Proofs.SlLaysM.n5 Tryd.prog Tryd.mSort_ren := {
  mixed := by kernel_rfl
  f5 := ⟨Tryd.f113.name, by decide, Tryd.func113.trans (congrArg some (by kernel_rfl))⟩
  f7 := ⟨Tryd.f151.name, by decide, Tryd.func151.trans (congrArg some (by kernel_rfl))⟩
  f8 := Tryd.func152.trans (congrArg some (by kernel_rfl))
  f10 := ⟨Tryd.f185.name, by decide, Tryd.func185.trans (congrArg some (by kernel_rfl))⟩
  f11 := ⟨Tryd.f186.name, by decide, Tryd.func186.trans (congrArg some (by kernel_rfl))⟩
  f12 := ⟨Tryd.f187.name, by decide, Tryd.func187.trans (congrArg some (by kernel_rfl))⟩
  f13 := ⟨Tryd.f188.name, by decide, Tryd.func188.trans (congrArg some (by kernel_rfl))⟩
  f14 := ⟨Tryd.f189.name, by decide, Tryd.func189.trans (congrArg some (by kernel_rfl))⟩
  f15 := ⟨Tryd.f190.name, by decide, Tryd.func190.trans (congrArg some (by kernel_rfl))⟩
  f16 := ⟨Tryd.f191.name, by decide, Tryd.func191.trans (congrArg some (by kernel_rfl))⟩
  f17 := ⟨Tryd.f192.name, by decide, Tryd.func192.trans (congrArg some (by kernel_rfl))⟩
  f18 := ⟨Tryd.f193.name, by decide, Tryd.func193.trans (congrArg some (by kernel_rfl))⟩
  f19 := Tryd.func194.trans (congrArg some (by kernel_rfl))
  f20 := Tryd.func195.trans (congrArg some (by kernel_rfl))
  f30 := ⟨Tryd.f204.name, by decide, Tryd.func204.trans (congrArg some (by kernel_rfl))⟩
  f31 := Tryd.func205.trans (congrArg some (by kernel_rfl))
  f32 := Tryd.func206.trans (congrArg some (by kernel_rfl))
  f33 := ⟨Tryd.f207.name, by decide, Tryd.func207.trans (congrArg some (by kernel_rfl))⟩
  f34 := ⟨Tryd.f208.name, by decide, Tryd.func208.trans (congrArg some (by kernel_rfl))⟩
  f35 := ⟨Tryd.f209.name, by decide, Tryd.func209.trans (congrArg some (by kernel_rfl))⟩
  f40 := ⟨Tryd.f213.name, by decide, Tryd.func213.trans (congrArg some (by kernel_rfl))⟩
  t0 := Tryd.underlying0
  a0 := Tryd.isAgg0
  z0 := Tryd.sizeOf0
  v0 := Tryd.zeroValue0
  t3 := Tryd.underlying3
  a3 := Tryd.isAgg3
  z3 := Tryd.sizeOf3
  v3 := Tryd.zeroValue3
  t4 := Tryd.underlying4
  a4 := Tryd.isAgg4
  z4 := Tryd.sizeOf4
  v4 := Tryd.zeroValue4
  t5 := Tryd.underlying5
  a5 := Tryd.isAgg5
  z5 := Tryd.sizeOf5
  v5 := Tryd.zeroValue5
  t9 := Tryd.underlying9
  a9 := Tryd.isAgg9
  z9 := Tryd.sizeOf9
  v9 := Tryd.zeroValue9
  t22 := Tryd.underlying67
  a22 := Tryd.isAgg67
  z22 := Tryd.sizeOf67
  v22 := Tryd.zeroValue67
  t23 := Tryd.underlying67
  a23 := Tryd.isAgg67
  z23 := Tryd.sizeOf67
  v23 := Tryd.zeroValue67
  t25 := Tryd.underlying2
  a25 := Tryd.isAgg2
  z25 := Tryd.sizeOf2
  v25 := Tryd.zeroValue2
  t32 := Tryd.underlying150
  a32 := Tryd.isAgg150
  z32 := Tryd.sizeOf150
  v32 := Tryd.zeroValue150
  t35 := Tryd.underlying174
  a35 := Tryd.isAgg174
  z35 := Tryd.sizeOf174
  v35 := Tryd.zeroValue174
  t36 := Tryd.underlying175
  a36 := Tryd.isAgg175
  z36 := Tryd.sizeOf175
  v36 := Tryd.zeroValue175
  t41 := Tryd.underlying179
  a41 := Tryd.isAgg179
  z41 := Tryd.sizeOf179
  v41 := Tryd.zeroValue179
  t44 := Tryd.underlying168
  a44 := Tryd.isAgg168
  z44 := Tryd.sizeOf168
  v44 := Tryd.zeroValue168
  t46 := Tryd.underlying104
  a46 := Tryd.isAgg104
  z46 := Tryd.sizeOf104
  v46 := Tryd.zeroValue104
  t53 := Tryd.underlying186
  a53 := Tryd.isAgg186
  z53 := Tryd.sizeOf186
  v53 := Tryd.zeroValue186
  t57 := Tryd.underlying190
  a57 := Tryd.isAgg190
  z57 := Tryd.sizeOf190
  v57 := Tryd.zeroValue190
  t63 := Tryd.underlying194
  a63 := Tryd.isAgg194
  z63 := Tryd.sizeOf194
  v63 := Tryd.zeroValue194
  t64 := Tryd.underlying195
  a64 := Tryd.isAgg195
  z64 := Tryd.sizeOf195
  v64 := Tryd.zeroValue195 }
open Go.Sort Go.RowKit Go.Lib in
theorem Tryd.slices_Sort_i64 (blk off cap : Nat) (zs : List Int) (w : World) (hH : Holds (Value.int .i64) w blk off zs.toArray) (hblk : blk < w.heap.size) (hsz : zs.length < 4611686018427387904) :
    Calls Tryd.prog 113 #[.slice (some ⟨blk, off, none⟩) zs.length cap] w fun e w' => e = .returned (.tuple #[]) ∧ ∃ n os, w' = grow (putRow (Value.int .i64) (Sort.ahead w n) blk off (zs.mergeSort fun x y => decide (x ≤ y)).toArray) os :=
  AnyM.slices_Sort_int Tryd.mSort blk off cap zs w hH hblk hsz
open Go.Sort Go.RowKit Go.Lib in
theorem Tryd.slices_Sort_i64_none (p : Option Addr) (cap : Nat) (w : World) :
    Calls Tryd.prog 113 #[.slice p 0 cap] w fun e w' => e = .returned (.tuple #[]) ∧ w' = w := AnyM.slices_Sort_int_none Tryd.mSort p cap w
def Tryd.eCompact_ren : Go.Shelf.Ren := ⟨fun | 43 => 114 | n => n, fun | 22 => 67 | 23 => 2 | 3 => 3 | 4 => 4 | 0 => 0 | n => n, fun | n => n⟩
theorem Tryd.eCompact : Go.Proofs.SlLaysE.n43 Tryd.prog Tryd.eCompact_ren := {
  mixed := by kernel_rfl
  f43 := ⟨Tryd.f114.name, by decide, Tryd.func114.trans (congrArg some (by kernel_rfl))⟩
  t0 := Tryd.underlying0
  a0 := Tryd.isAgg0
  z0 := Tryd.sizeOf0
  v0 := Tryd.zeroValue0
  t3 := Tryd.underlying3
  a3 := Tryd.isAgg3
  z3 := Tryd.sizeOf3
  v3 := Tryd.zeroValue3
  t4 := Tryd.underlying4
  a4 := Tryd.isAgg4
  z4 := Tryd.sizeOf4
  v4 := Tryd.zeroValue4
  t22 := Tryd.underlying67
  a22 := Tryd.isAgg67
  z22 := Tryd.sizeOf67
  v22 := Tryd.zeroValue67
  a23 := Tryd.isAgg2
  z23 := Tryd.sizeOf2 }
open Go.Sort Go.RowKit Go.Lib in
theorem Tryd.slices_Compact_i64 (blk off cap : Nat) (d : Array Int) (w : World) (hH : Holds (Value.int .i64) w blk off d) (hsz : d.size ≤ 9223372036854775807) (hcap : d.size ≤ cap) :
    Calls Tryd.prog 114 #[.slice (some ⟨blk, off, none⟩) d.size cap] w fun e w' => e = .returned (.slice (some ⟨blk, off, none⟩) (compactUpTo d d.size).length cap) ∧ ∃ q, w' = putRow (Value.int .i64) (Sort.ahead w q) blk off (compactUpTo d d.size ++ List.replicate (d.size - (compactUpTo d d.size).length) 0).toArray :=
  AnyE.slices_Compact Tryd.eCompact (Value.int .i64) (fun _ => rfl) (EqlAt.intD _ _ .i64) (NeqAt.intD _ _ .i64) 0 Tryd.zeroValue2 blk off cap d w hH hsz hcap
end Go.Proofs
