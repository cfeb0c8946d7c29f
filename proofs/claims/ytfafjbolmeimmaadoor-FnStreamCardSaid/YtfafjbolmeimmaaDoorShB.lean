/-
  DERIVED: THE SHELF's CONTRACTS AT THIS DUMP, IN PLAIN WORDS (tools/lay-plain.mjs out of 'YtfafjbolmeimmaaDoorShT.lean', which tools/lay-shelf.mjs wrote): THE SAME DECLARATIONS UNDER THE SAME NAMES: 'import', 'namespace', 'open', 'def', 'theorem' AND NOTHING ELSE: no command of the shelf's: FOR A HAND-IN. Each laying: the table of numbers ('.._ren') and one theorem, a field a fact of the dump's own or the kernel's comparison; each contract: ONE APPLICATION.
-/
import Derived.Shelf.Bin.BEUint16
import Derived.Shelf.Bin.BEUint32
import Derived.Shelf.Bin.LEUint16
import Derived.Shelf.Bin.LEUint32
import Derived.Ground.MnProg
import Derived.Test.YtfafjbolmeimmaaDoorProg
namespace Go.Proofs
open Go.Shelf
def Tryd.lb36_ren : Go.Shelf.Ren := ⟨fun | 36 => 61 | n => n, fun | 37 => 108 | 22 => 22 | 23 => 106 | 0 => 0 | 5 => 5 | 45 => 71 | n => n, fun | n => n⟩
theorem Tryd.lb36 : Go.Proofs.LaysBin.n36 Tryd.prog Tryd.lb36_ren := {
 mixed := by kernel_rfl
 f36 := Tryd.func61.trans (congrArg some (by kernel_rfl))
 t0 := Tryd.underlying0
 a0 := Tryd.isAgg0
 z0 := Tryd.sizeOf0
 v0 := Tryd.zeroValue0
 i0 := by kernel_rfl
 t5 := Tryd.underlying5
 a5 := Tryd.isAgg5
 z5 := Tryd.sizeOf5
 v5 := Tryd.zeroValue5
 i5 := by kernel_rfl
 t22 := Tryd.underlying22
 a22 := Tryd.isAgg22
 z22 := Tryd.sizeOf22
 v22 := Tryd.zeroValue22
 i22 := by kernel_rfl
 t23 := Tryd.underlying106
 a23 := Tryd.isAgg106
 z23 := Tryd.sizeOf106
 v23 := Tryd.zeroValue106
 i23 := by kernel_rfl
 t37 := Tryd.underlying108
 a37 := Tryd.isAgg108
 z37 := Tryd.sizeOf108
 v37 := Tryd.zeroValue108
 i37 := by kernel_rfl
 t45 := Tryd.underlying71
 a45 := Tryd.isAgg71
 z45 := Tryd.sizeOf71
 v45 := Tryd.zeroValue71
 i45 := by kernel_rfl }
open Go.RowKit in
theorem Tryd.binary_BE_Uint16 (g o n c : Nat) (b0 b1 : UInt8) (w : World) (hn : 2 ≤ n) (c0 : w.cell? ⟨g, o, none⟩ = some (.int .u8 b0.toNat)) (c1 : w.cell? ⟨g, o + 1, none⟩ = some (.int .u8 b1.toNat)) :
  Calls Tryd.prog 61 #[.agg #[], .slice (some ⟨g, o, none⟩) n c] w fun e w' => e = .returned (.int .u16 (Lib.beNat [b0, b1])) ∧ Below w.heap.size w w' := Any.binary_BE_Uint16 Tryd.lb36 g o n c b0 b1 w hn c0 c1
def Tryd.lb39_ren : Go.Shelf.Ren := ⟨fun | 39 => 63 | n => n, fun | 37 => 108 | 22 => 22 | 29 => 111 | 0 => 0 | 5 => 5 | 45 => 71 | n => n, fun | n => n⟩
theorem Tryd.lb39 : Go.Proofs.LaysBin.n39 Tryd.prog Tryd.lb39_ren := {
 mixed := by kernel_rfl
 f39 := Tryd.func63.trans (congrArg some (by kernel_rfl))
 t0 := Tryd.underlying0
 a0 := Tryd.isAgg0
 z0 := Tryd.sizeOf0
 v0 := Tryd.zeroValue0
 i0 := by kernel_rfl
 t5 := Tryd.underlying5
 a5 := Tryd.isAgg5
 z5 := Tryd.sizeOf5
 v5 := Tryd.zeroValue5
 i5 := by kernel_rfl
 t22 := Tryd.underlying22
 a22 := Tryd.isAgg22
 z22 := Tryd.sizeOf22
 v22 := Tryd.zeroValue22
 i22 := by kernel_rfl
 t29 := Tryd.underlying111
 a29 := Tryd.isAgg111
 z29 := Tryd.sizeOf111
 v29 := Tryd.zeroValue111
 i29 := by kernel_rfl
 t37 := Tryd.underlying108
 a37 := Tryd.isAgg108
 z37 := Tryd.sizeOf108
 v37 := Tryd.zeroValue108
 i37 := by kernel_rfl
 t45 := Tryd.underlying71
 a45 := Tryd.isAgg71
 z45 := Tryd.sizeOf71
 v45 := Tryd.zeroValue71
 i45 := by kernel_rfl }
open Go.RowKit in
theorem Tryd.binary_BE_Uint32 (g o n c : Nat) (b0 b1 b2 b3 : UInt8) (w : World) (hn : 4 ≤ n) (c0 : w.cell? ⟨g, o, none⟩ = some (.int .u8 b0.toNat)) (c1 : w.cell? ⟨g, o + 1, none⟩ = some (.int .u8 b1.toNat)) (c2 : w.cell? ⟨g, o + 2, none⟩ = some (.int .u8 b2.toNat)) (c3 : w.cell? ⟨g, o + 3, none⟩ = some (.int .u8 b3.toNat)) :
  Calls Tryd.prog 63 #[.agg #[], .slice (some ⟨g, o, none⟩) n c] w fun e w' => e = .returned (.int .u32 (Lib.beNat [b0, b1, b2, b3])) ∧ Below w.heap.size w w' := Any.binary_BE_Uint32 Tryd.lb39 g o n c b0 b1 b2 b3 w hn c0 c1 c2 c3
def Tryd.lb27_ren : Go.Shelf.Ren := ⟨fun | 27 => 62 | n => n, fun | 25 => 110 | 22 => 22 | 23 => 106 | 0 => 0 | 5 => 5 | 45 => 71 | n => n, fun | n => n⟩
theorem Tryd.lb27 : Go.Proofs.LaysBin.n27 Tryd.prog Tryd.lb27_ren := {
 mixed := by kernel_rfl
 f27 := Tryd.func62.trans (congrArg some (by kernel_rfl))
 t0 := Tryd.underlying0
 a0 := Tryd.isAgg0
 z0 := Tryd.sizeOf0
 v0 := Tryd.zeroValue0
 i0 := by kernel_rfl
 t5 := Tryd.underlying5
 a5 := Tryd.isAgg5
 z5 := Tryd.sizeOf5
 v5 := Tryd.zeroValue5
 i5 := by kernel_rfl
 t22 := Tryd.underlying22
 a22 := Tryd.isAgg22
 z22 := Tryd.sizeOf22
 v22 := Tryd.zeroValue22
 i22 := by kernel_rfl
 t23 := Tryd.underlying106
 a23 := Tryd.isAgg106
 z23 := Tryd.sizeOf106
 v23 := Tryd.zeroValue106
 i23 := by kernel_rfl
 t25 := Tryd.underlying110
 a25 := Tryd.isAgg110
 z25 := Tryd.sizeOf110
 v25 := Tryd.zeroValue110
 i25 := by kernel_rfl
 t45 := Tryd.underlying71
 a45 := Tryd.isAgg71
 z45 := Tryd.sizeOf71
 v45 := Tryd.zeroValue71
 i45 := by kernel_rfl }
open Go.RowKit in
theorem Tryd.binary_LE_Uint16 (g o n c : Nat) (b0 b1 : UInt8) (w : World) (hn : 2 ≤ n) (c0 : w.cell? ⟨g, o, none⟩ = some (.int .u8 b0.toNat)) (c1 : w.cell? ⟨g, o + 1, none⟩ = some (.int .u8 b1.toNat)) :
  Calls Tryd.prog 62 #[.agg #[], .slice (some ⟨g, o, none⟩) n c] w fun e w' => e = .returned (.int .u16 (Lib.leNat [b0, b1])) ∧ Below w.heap.size w w' := Any.binary_LE_Uint16 Tryd.lb27 g o n c b0 b1 w hn c0 c1
def Tryd.lb30_ren : Go.Shelf.Ren := ⟨fun | 30 => 64 | n => n, fun | 25 => 110 | 22 => 22 | 29 => 111 | 0 => 0 | 5 => 5 | 45 => 71 | n => n, fun | n => n⟩
theorem Tryd.lb30 : Go.Proofs.LaysBin.n30 Tryd.prog Tryd.lb30_ren := {
 mixed := by kernel_rfl
 f30 := Tryd.func64.trans (congrArg some (by kernel_rfl))
 t0 := Tryd.underlying0
 a0 := Tryd.isAgg0
 z0 := Tryd.sizeOf0
 v0 := Tryd.zeroValue0
 i0 := by kernel_rfl
 t5 := Tryd.underlying5
 a5 := Tryd.isAgg5
 z5 := Tryd.sizeOf5
 v5 := Tryd.zeroValue5
 i5 := by kernel_rfl
 t22 := Tryd.underlying22
 a22 := Tryd.isAgg22
 z22 := Tryd.sizeOf22
 v22 := Tryd.zeroValue22
 i22 := by kernel_rfl
 t25 := Tryd.underlying110
 a25 := Tryd.isAgg110
 z25 := Tryd.sizeOf110
 v25 := Tryd.zeroValue110
 i25 := by kernel_rfl
 t29 := Tryd.underlying111
 a29 := Tryd.isAgg111
 z29 := Tryd.sizeOf111
 v29 := Tryd.zeroValue111
 i29 := by kernel_rfl
 t45 := Tryd.underlying71
 a45 := Tryd.isAgg71
 z45 := Tryd.sizeOf71
 v45 := Tryd.zeroValue71
 i45 := by kernel_rfl }
open Go.RowKit in
theorem Tryd.binary_LE_Uint32 (g o n c : Nat) (b0 b1 b2 b3 : UInt8) (w : World) (hn : 4 ≤ n) (c0 : w.cell? ⟨g, o, none⟩ = some (.int .u8 b0.toNat)) (c1 : w.cell? ⟨g, o + 1, none⟩ = some (.int .u8 b1.toNat)) (c2 : w.cell? ⟨g, o + 2, none⟩ = some (.int .u8 b2.toNat)) (c3 : w.cell? ⟨g, o + 3, none⟩ = some (.int .u8 b3.toNat)) :
  Calls Tryd.prog 64 #[.agg #[], .slice (some ⟨g, o, none⟩) n c] w fun e w' => e = .returned (.int .u32 (Lib.leNat [b0, b1, b2, b3])) ∧ Below w.heap.size w w' := Any.binary_LE_Uint32 Tryd.lb30 g o n c b0 b1 b2 b3 w hn c0 c1 c2 c3
end Go.Proofs
