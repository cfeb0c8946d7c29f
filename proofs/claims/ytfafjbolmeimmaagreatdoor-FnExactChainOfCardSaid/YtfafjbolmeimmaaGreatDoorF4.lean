/- Parts of a proof: words of the print tool that this claim uses, or plain lists. -/
import Derived.Test.YtfafjbolmeimmaaGreatDoorAb
import Derived.Test.YtfafjbolmeimmaaGreatDoorF3
import Derived.Test.YtfafjbolmeimmaaGreatDoorProg
import Derived.Below
import Derived.Deep.Draws
import Derived.Deep.AppendLies
import Derived.Maps.AppendAt
import Derived.OwnWalk
import Derived.Laws.BytesArg
import Derived.Laws.MakeOwn
import Derived.Laws.OwnMore
import Derived.Deep.OwnRows
import Derived.Tactics
import Derived.Lib.ConvBytes
import Derived.Laws.Slices
import Derived.WalkKit
import Derived.KernelRfl
import Derived.RowKit3
import Derived.Deep.LoopGhost
import Derived.Deep.QuietTactic
import Derived.BigQuiet
import Derived.WideLaws
import Derived.Deep.DeepCutAuto
import Derived.Deep.CutBlock
import Derived.Deep.RegionHeld3
import Derived.Laws.Rows
import Derived.Lib.AppendStr
import Derived.ArgAppend
import Derived.Laws.IdiomCopy
import Derived.OrdersHeld
import Derived.Laws.BitsLemmas
import Derived.RowKit
import Derived.Test.YtfafjbolmeimmaaGreatDoorWWords
import Derived.Test.YtfafjbolmeimmaaGreatDoorF1
import Derived.Test.YtfafjbolmeimmaaGreatDoorF2
namespace Go.Proofs.YtfafjbolmeimmaaGreatDoor.P
open Go.RowKit
theorem var_below {n : String} {g : Nat} {cs : Array Value} {w w' : World} (hg : Tryz.prog.globalNamed n = some g) (h : w.var? Tryz.prog n = some cs) (hb : Below w.heap.size w w') : w'.var? Tryz.prog n = some cs := by
 unfold World.var? at h ⊢
 rw [hg] at h ⊢
 simp only [Option.bind_some] at h ⊢
 have hlt : g < w.heap.size := by
  rcases Nat.lt_or_ge g w.heap.size with h' | h'
  ·exact h'
  rw [Array.getElem?_eq_none h'] at h; cases h
 rw [hb.block g hlt]
 exact h
def GT (w : World) : Prop := (∃ tp p, w.var? Tryz.prog "strconv.ErrSyntax" = some #[.iface tp p]) ∧ (∃ tp p, w.var? Tryz.prog "strconv.ErrRange" = some #[.iface tp p]) ∧ Lib.TabIs Tryz.prog w "internal/strconv.uint64pow10" .u64 Lib.pow10Tab ∧ (∃ m, w.cell? ⟨2, 0, none⟩ = some (.int .i64 m)) ∧ Lib.Utf8Tabs 0 1 w
theorem GT.tabs {w : World} (h : GT w) : Lib.Utf8Tabs 0 1 w := h.2.2.2.2
theorem GT.maxLen {w : World} (h : GT w) : ∃ m, w.cell? ⟨2, 0, none⟩ = some (.int .i64 m) := h.2.2.2.1
theorem GT_below {w w' : World} (h : GT w) (hb : Below w.heap.size w w') : GT w' := by
 obtain ⟨⟨a, b, h1⟩, ⟨c, d, h2⟩, h3, ⟨m, h4⟩, h5⟩ := h
 exact ⟨⟨a, b, var_below (g := 3) yq10 h1 hb⟩, ⟨c, d, var_below (g := 4) yq10 h2 hb⟩, var_below (g := 5) yq10 h3 hb, ⟨m, (hb.cell (World.block_lt_of_cell? w _ h4)).trans h4⟩, Utf8Tabs_below h5 hb⟩
end Go.Proofs.YtfafjbolmeimmaaGreatDoor.P
namespace Go.Proofs.YtfafjbolmeimmaaGreatDoor.P
open Go.RowKit Go.Proofs.YtfafjbolmeimmaaGreatDoorW.PrintWords Go.Proofs.YtfafjbolmeimmaaGreatDoorW.PrintLast Go.Proofs.YtfafjbolmeimmaaGreatDoorW.PrintMore
attribute [local go_sem] zbm zbn max_two min_two za9 za8 zbk zbj
set_option linter.unusedVariables false
set_option linter.unusedSimpArgs false
def errW : Option Int → Value
 | none => .nilIface
 | some c => .iface 0 (.int .i64 c)
theorem zaj : errW none = .nilIface := rfl
theorem zak (c : Int) : errW (some c) = .iface 0 (.int .i64 c) := rfl
theorem info2 : (Tryz.prog.info? 2).map (fun i => (i.zero, i.size, i.bytes)) = some (some (.int .i64 0), 1, 8) := by kernel_rfl
theorem info5 : (Tryz.prog.info? 5).map (fun i => (i.zero, i.size, i.bytes)) = some (some (.int .u8 0), 1, 1) := by kernel_rfl
theorem info9 : (Tryz.prog.info? 9).map (fun i => (i.zero, i.size, i.bytes)) = some (some (.string ⟨#[]⟩), 1, 16) := by kernel_rfl
theorem info31 : (Tryz.prog.info? 31).map (fun i => (i.zero, i.size, i.bytes)) = some (some (.agg #[(.string ⟨#[]⟩), (.string ⟨#[]⟩), (.string ⟨#[]⟩), (.string ⟨#[]⟩), (.string ⟨#[]⟩), (.slice none 0 0), (.int .i64 0), (.slice none 0 0), (.string ⟨#[]⟩), (.string ⟨#[]⟩), (.string ⟨#[]⟩), (.string ⟨#[]⟩), (.slice none 0 0), (.slice none 0 0), (.string ⟨#[]⟩)]), 15, 264) := by kernel_rfl
theorem info58 : (Tryz.prog.info? 58).map (fun i => (i.zero, i.size, i.bytes)) = some (some (.agg #[(.string ⟨#[]⟩), (.string ⟨#[]⟩)]), 2, 32) := by kernel_rfl
theorem info89 : (Tryz.prog.info? 89).map (fun i => (i.zero, i.size, i.bytes)) = some (some (.agg #[(.int .i64 0), (.int .i64 0), (.int .i64 0), (.bool false)]), 4, 32) := by kernel_rfl
structure S79 where
 f0 : ByteArray
 f1 : ByteArray
def z79 : S79 := ⟨(⟨#[]⟩ : ByteArray), (⟨#[]⟩ : ByteArray)⟩
def k79 : Kd S79 := Kd.iso (Kd.pair Kd.string Kd.string) (fun x : S79 => (x.f0, x.f1))
theorem k79_open {w : World} {x : S79} {cs : List Value} (h : k79.K w x cs) : cs = [.string x.f0, .string x.f1] := by
 obtain ⟨_, _, rfl, rfl, rfl⟩ := h
 exact rfl
def rd_T79 (xs : List S79) (i : Int) : S79 := xs.getD i.toNat z79
theorem at_T79 {w : World} {A : Option Addr} {n : Nat} {xs : List S79} (h : Kd.C k79 w A n xs) (i : Int) (h0 : 0 ≤ i) (h1 : i < n) : ∃ ad , A = some ad ∧ w.cell? (ad.add (i.toNat * 2)) = some (.string (rd_T79 xs i).f0) ∧ w.cell? ⟨(ad.add (i.toNat * 2)).block, (ad.add (i.toNat * 2)).off + 1, none⟩ = some (.string (rd_T79 xs i).f1) := by
 obtain ⟨ad, c, e, _, hK, hc0⟩ := Kd.C_get h z79 i h0 h1
 have hc : ∀ j u, c[j]? = some u → w.cell? (ad.add (i.toNat * 2 + j)) = some u := hc0
 obtain rfl := k79_open hK
 exact ⟨ad, e, hc 0 _ rfl, by rw [← zaW _ _ 1 yq9]; exact hc 1 _ rfl⟩
structure S26 where
 f0 : ByteArray
 f1 : ByteArray
 f2 : ByteArray
 f3 : ByteArray
 f4 : ByteArray
 f5 : (List Int)
 f6 : Int
 f7 : (List S79)
 f8 : ByteArray
 f9 : ByteArray
 f10 : ByteArray
 f11 : ByteArray
 f12 : (List ByteArray)
 f13 : (List ByteArray)
 f14 : ByteArray
def z26 : S26 := ⟨(⟨#[]⟩ : ByteArray), (⟨#[]⟩ : ByteArray), (⟨#[]⟩ : ByteArray), (⟨#[]⟩ : ByteArray), (⟨#[]⟩ : ByteArray), ([] : List Int), (0 : Int), ([] : List S79), (⟨#[]⟩ : ByteArray), (⟨#[]⟩ : ByteArray), (⟨#[]⟩ : ByteArray), (⟨#[]⟩ : ByteArray), ([] : List ByteArray), ([] : List ByteArray), (⟨#[]⟩ : ByteArray)⟩
def k26 : Kd S26 := Kd.iso (Kd.pair Kd.string (Kd.pair Kd.string (Kd.pair Kd.string (Kd.pair Kd.string (Kd.pair Kd.string (Kd.pair (Kd.slice 2 (Kd.int .i64)) (Kd.pair (Kd.int .i64) (Kd.pair (Kd.slice 79 k79) (Kd.pair Kd.string (Kd.pair Kd.string (Kd.pair Kd.string (Kd.pair Kd.string (Kd.pair (Kd.slice 9 Kd.string) (Kd.pair (Kd.slice 9 Kd.string) Kd.string)))))))))))))) (fun x : S26 => (x.f0, x.f1, x.f2, x.f3, x.f4, x.f5, x.f6, x.f7, x.f8, x.f9, x.f10, x.f11, x.f12, x.f13, x.f14))
theorem k26_open {w : World} {x : S26} {cs : List Value} (h : k26.K w x cs) : ∃ A5 c5 A7 c7 A12 c12 A13 c13, cs = [.string x.f0, .string x.f1, .string x.f2, .string x.f3, .string x.f4, .slice A5 x.f5.length c5, .int .i64 x.f6, .slice A7 x.f7.length c7, .string x.f8, .string x.f9, .string x.f10, .string x.f11, .slice A12 x.f12.length c12, .slice A13 x.f13.length c13, .string x.f14] ∧ x.f5.length ≤ c5 ∧ (Kd.int .i64).C w A5 x.f5.length x.f5 ∧ x.f7.length ≤ c7 ∧ k79.C w A7 x.f7.length x.f7 ∧ x.f12.length ≤ c12 ∧ Kd.string.C w A12 x.f12.length x.f12 ∧ x.f13.length ≤ c13 ∧ Kd.string.C w A13 x.f13.length x.f13 := by
 obtain ⟨_, _, rfl, rfl, ⟨_, _, rfl, rfl, ⟨_, _, rfl, rfl, ⟨_, _, rfl, rfl, ⟨_, _, rfl, rfl, ⟨_, _, rfl, ⟨A5, c5, rfl, l5, g5⟩, ⟨_, _, rfl, rfl, ⟨_, _, rfl, ⟨A7, c7, rfl, l7, g7⟩, ⟨_, _, rfl, rfl, ⟨_, _, rfl, rfl, ⟨_, _, rfl, rfl, ⟨_, _, rfl, rfl, ⟨_, _, rfl, ⟨A12, c12, rfl, l12, g12⟩, ⟨_, _, rfl, ⟨A13, c13, rfl, l13, g13⟩, rfl⟩⟩⟩⟩⟩⟩⟩⟩⟩⟩⟩⟩⟩⟩ := h
 exact ⟨A5, c5, A7, c7, A12, c12, A13, c13, rfl, l5, g5, l7, g7, l12, g12, l13, g13⟩
def zaA (xs : List S26) (i : Int) : S26 := xs.getD i.toNat z26
theorem at_T26 {w : World} {A : Option Addr} {n : Nat} {xs : List S26} (h : Kd.C k26 w A n xs) (i : Int) (h0 : 0 ≤ i) (h1 : i < n) : ∃ ad A5 c5 A7 c7 A12 c12 A13 c13, A = some ad ∧ w.cell? (ad.add (i.toNat * 15)) = some (.string (zaA xs i).f0) ∧ w.cell? ⟨(ad.add (i.toNat * 15)).block, (ad.add (i.toNat * 15)).off + 1, none⟩ = some (.string (zaA xs i).f1) ∧ w.cell? ⟨(ad.add (i.toNat * 15)).block, (ad.add (i.toNat * 15)).off + 2, none⟩ = some (.string (zaA xs i).f2) ∧ w.cell? ⟨(ad.add (i.toNat * 15)).block, (ad.add (i.toNat * 15)).off + 3, none⟩ = some (.string (zaA xs i).f3) ∧ w.cell? ⟨(ad.add (i.toNat * 15)).block, (ad.add (i.toNat * 15)).off + 4, none⟩ = some (.string (zaA xs i).f4) ∧ w.cell? ⟨(ad.add (i.toNat * 15)).block, (ad.add (i.toNat * 15)).off + 5, none⟩ = some (.slice A5 (zaA xs i).f5.length c5) ∧ w.cell? ⟨(ad.add (i.toNat * 15)).block, (ad.add (i.toNat * 15)).off + 6, none⟩ = some (.int .i64 (zaA xs i).f6) ∧ w.cell? ⟨(ad.add (i.toNat * 15)).block, (ad.add (i.toNat * 15)).off + 7, none⟩ = some (.slice A7 (zaA xs i).f7.length c7) ∧ w.cell? ⟨(ad.add (i.toNat * 15)).block, (ad.add (i.toNat * 15)).off + 8, none⟩ = some (.string (zaA xs i).f8) ∧ w.cell? ⟨(ad.add (i.toNat * 15)).block, (ad.add (i.toNat * 15)).off + 9, none⟩ = some (.string (zaA xs i).f9) ∧ w.cell? ⟨(ad.add (i.toNat * 15)).block, (ad.add (i.toNat * 15)).off + 10, none⟩ = some (.string (zaA xs i).f10) ∧ w.cell? ⟨(ad.add (i.toNat * 15)).block, (ad.add (i.toNat * 15)).off + 11, none⟩ = some (.string (zaA xs i).f11) ∧ w.cell? ⟨(ad.add (i.toNat * 15)).block, (ad.add (i.toNat * 15)).off + 12, none⟩ = some (.slice A12 (zaA xs i).f12.length c12) ∧ w.cell? ⟨(ad.add (i.toNat * 15)).block, (ad.add (i.toNat * 15)).off + 13, none⟩ = some (.slice A13 (zaA xs i).f13.length c13) ∧ w.cell? ⟨(ad.add (i.toNat * 15)).block, (ad.add (i.toNat * 15)).off + 14, none⟩ = some (.string (zaA xs i).f14) ∧ (zaA xs i).f5.length ≤ c5 ∧ (Kd.int .i64).C w A5 (zaA xs i).f5.length (zaA xs i).f5 ∧ (zaA xs i).f7.length ≤ c7 ∧ k79.C w A7 (zaA xs i).f7.length (zaA xs i).f7 ∧ (zaA xs i).f12.length ≤ c12 ∧ Kd.string.C w A12 (zaA xs i).f12.length (zaA xs i).f12 ∧ (zaA xs i).f13.length ≤ c13 ∧ Kd.string.C w A13 (zaA xs i).f13.length (zaA xs i).f13 := by
 obtain ⟨ad, c, e, _, hK, hc0⟩ := Kd.C_get h z26 i h0 h1
 have hc : ∀ j u, c[j]? = some u → w.cell? (ad.add (i.toNat * 15 + j)) = some u := hc0
 obtain ⟨A5, c5, A7, c7, A12, c12, A13, c13, rfl, l5, g5, l7, g7, l12, g12, l13, g13⟩ := k26_open hK
 exact ⟨ad, A5, c5, A7, c7, A12, c12, A13, c13, e, hc 0 _ rfl, by rw [← zaW _ _ 1 yq9]; exact hc 1 _ rfl, by rw [← zaW _ _ 2 yq9]; exact hc 2 _ rfl, by rw [← zaW _ _ 3 yq9]; exact hc 3 _ rfl, by rw [← zaW _ _ 4 yq9]; exact hc 4 _ rfl, by rw [← zaW _ _ 5 yq9]; exact hc 5 _ rfl, by rw [← zaW _ _ 6 yq9]; exact hc 6 _ rfl, by rw [← zaW _ _ 7 yq9]; exact hc 7 _ rfl, by rw [← zaW _ _ 8 yq9]; exact hc 8 _ rfl, by rw [← zaW _ _ 9 yq9]; exact hc 9 _ rfl, by rw [← zaW _ _ 10 yq9]; exact hc 10 _ rfl, by rw [← zaW _ _ 11 yq9]; exact hc 11 _ rfl, by rw [← zaW _ _ 12 yq9]; exact hc 12 _ rfl, by rw [← zaW _ _ 13 yq9]; exact hc 13 _ rfl, by rw [← zaW _ _ 14 yq9]; exact hc 14 _ rfl, l5, g5, l7, g7, l12, g12, l13, g13⟩
structure S142 where
 f0 : Int
 f1 : Int
 f2 : Int
 f3 : Int
def z142 : S142 := ⟨(0 : Int), (0 : Int), (0 : Int), (0 : Int)⟩
def k142 : Kd S142 := Kd.iso (Kd.pair (Kd.int .i64) (Kd.pair (Kd.int .i64) (Kd.pair (Kd.int .i64) (Kd.int .i64)))) (fun x : S142 => (x.f0, x.f1, x.f2, x.f3))
theorem k142_open {w : World} {x : S142} {cs : List Value} (h : k142.K w x cs) : cs = [.int .i64 x.f0, .int .i64 x.f1, .int .i64 x.f2, .int .i64 x.f3] := by
 obtain ⟨_, _, rfl, rfl, ⟨_, _, rfl, rfl, ⟨_, _, rfl, rfl, rfl⟩⟩⟩ := h
 exact rfl
theorem za7 (w : World) (base : Nat) (ok : Nat → Prop) (x : S142)  : k142.M w base ok x [.int .i64 x.f0, .int .i64 x.f1, .int .i64 x.f2, .int .i64 x.f3] := ⟨[.int .i64 x.f0], [.int .i64 x.f1, .int .i64 x.f2, .int .i64 x.f3], rfl, rfl, ⟨[.int .i64 x.f1], [.int .i64 x.f2, .int .i64 x.f3], rfl, rfl, ⟨[.int .i64 x.f2], [.int .i64 x.f3], rfl, rfl, rfl⟩⟩⟩
def rd_T142 (xs : List S142) (i : Int) : S142 := xs.getD i.toNat z142
theorem at_T142 {w : World} {A : Option Addr} {n : Nat} {xs : List S142} (h : Kd.C k142 w A n xs) (i : Int) (h0 : 0 ≤ i) (h1 : i < n) : ∃ ad , A = some ad ∧ w.cell? (ad.add (i.toNat * 4)) = some (.int .i64 (rd_T142 xs i).f0) ∧ w.cell? ⟨(ad.add (i.toNat * 4)).block, (ad.add (i.toNat * 4)).off + 1, none⟩ = some (.int .i64 (rd_T142 xs i).f1) ∧ w.cell? ⟨(ad.add (i.toNat * 4)).block, (ad.add (i.toNat * 4)).off + 2, none⟩ = some (.int .i64 (rd_T142 xs i).f2) ∧ w.cell? ⟨(ad.add (i.toNat * 4)).block, (ad.add (i.toNat * 4)).off + 3, none⟩ = some (.int .i64 (rd_T142 xs i).f3) := by
 obtain ⟨ad, c, e, _, hK, hc0⟩ := Kd.C_get h z142 i h0 h1
 have hc : ∀ j u, c[j]? = some u → w.cell? (ad.add (i.toNat * 4 + j)) = some u := hc0
 obtain rfl := k142_open hK
 exact ⟨ad, e, hc 0 _ rfl, by rw [← zaW _ _ 1 yq9]; exact hc 1 _ rfl, by rw [← zaW _ _ 2 yq9]; exact hc 2 _ rfl, by rw [← zaW _ _ 3 yq9]; exact hc 3 _ rfl⟩
structure S89 where
 f0 : Int
 f1 : Int
 f2 : Int
 f3 : Bool
def z89 : S89 := ⟨(0 : Int), (0 : Int), (0 : Int), false⟩
def k89 : Kd S89 := Kd.iso (Kd.pair (Kd.int .i64) (Kd.pair (Kd.int .i64) (Kd.pair (Kd.int .i64) Kd.bool))) (fun x : S89 => (x.f0, x.f1, x.f2, x.f3))
theorem k89_open {w : World} {x : S89} {cs : List Value} (h : k89.K w x cs) : cs = [.int .i64 x.f0, .int .i64 x.f1, .int .i64 x.f2, .bool x.f3] := by
 obtain ⟨_, _, rfl, rfl, ⟨_, _, rfl, rfl, ⟨_, _, rfl, rfl, rfl⟩⟩⟩ := h
 exact rfl
theorem k89_mkM (w : World) (base : Nat) (ok : Nat → Prop) (x : S89)  : k89.M w base ok x [.int .i64 x.f0, .int .i64 x.f1, .int .i64 x.f2, .bool x.f3] := ⟨[.int .i64 x.f0], [.int .i64 x.f1, .int .i64 x.f2, .bool x.f3], rfl, rfl, ⟨[.int .i64 x.f1], [.int .i64 x.f2, .bool x.f3], rfl, rfl, ⟨[.int .i64 x.f2], [.bool x.f3], rfl, rfl, rfl⟩⟩⟩
def rd_T89 (xs : List S89) (i : Int) : S89 := xs.getD i.toNat z89
theorem at_T89 {w : World} {A : Option Addr} {n : Nat} {xs : List S89} (h : Kd.C k89 w A n xs) (i : Int) (h0 : 0 ≤ i) (h1 : i < n) : ∃ ad , A = some ad ∧ w.cell? (ad.add (i.toNat * 4)) = some (.int .i64 (rd_T89 xs i).f0) ∧ w.cell? ⟨(ad.add (i.toNat * 4)).block, (ad.add (i.toNat * 4)).off + 1, none⟩ = some (.int .i64 (rd_T89 xs i).f1) ∧ w.cell? ⟨(ad.add (i.toNat * 4)).block, (ad.add (i.toNat * 4)).off + 2, none⟩ = some (.int .i64 (rd_T89 xs i).f2) ∧ w.cell? ⟨(ad.add (i.toNat * 4)).block, (ad.add (i.toNat * 4)).off + 3, none⟩ = some (.bool (rd_T89 xs i).f3) := by
 obtain ⟨ad, c, e, _, hK, hc0⟩ := Kd.C_get h z89 i h0 h1
 have hc : ∀ j u, c[j]? = some u → w.cell? (ad.add (i.toNat * 4 + j)) = some u := hc0
 obtain rfl := k89_open hK
 exact ⟨ad, e, hc 0 _ rfl, by rw [← zaW _ _ 1 yq9]; exact hc 1 _ rfl, by rw [← zaW _ _ 2 yq9]; exact hc 2 _ rfl, by rw [← zaW _ _ 3 yq9]; exact hc 3 _ rfl⟩
structure S58 where
 f0 : ByteArray
 f1 : ByteArray
def z58 : S58 := ⟨(⟨#[]⟩ : ByteArray), (⟨#[]⟩ : ByteArray)⟩
def k58 : Kd S58 := Kd.iso (Kd.pair Kd.string Kd.string) (fun x : S58 => (x.f0, x.f1))
theorem k58_open {w : World} {x : S58} {cs : List Value} (h : k58.K w x cs) : cs = [.string x.f0, .string x.f1] := by
 obtain ⟨_, _, rfl, rfl, rfl⟩ := h
 exact rfl
theorem k58_openM {w : World} {base : Nat} {ok : Nat → Prop} {x : S58} {cs : List Value} (h : k58.M w base ok x cs) : cs = [.string x.f0, .string x.f1] := by
 obtain ⟨_, _, rfl, rfl, rfl⟩ := h
 exact rfl
theorem k58_mkM (w : World) (base : Nat) (ok : Nat → Prop) (x : S58)  : k58.M w base ok x [.string x.f0, .string x.f1] := ⟨[.string x.f0], [.string x.f1], rfl, rfl, rfl⟩
def rd_T58 (xs : List S58) (i : Int) : S58 := xs.getD i.toNat z58
theorem at_T58 {w : World} {A : Option Addr} {n : Nat} {xs : List S58} (h : Kd.C k58 w A n xs) (i : Int) (h0 : 0 ≤ i) (h1 : i < n) : ∃ ad , A = some ad ∧ w.cell? (ad.add (i.toNat * 2)) = some (.string (rd_T58 xs i).f0) ∧ w.cell? ⟨(ad.add (i.toNat * 2)).block, (ad.add (i.toNat * 2)).off + 1, none⟩ = some (.string (rd_T58 xs i).f1) := by
 obtain ⟨ad, c, e, _, hK, hc0⟩ := Kd.C_get h z58 i h0 h1
 have hc : ∀ j u, c[j]? = some u → w.cell? (ad.add (i.toNat * 2 + j)) = some u := hc0
 obtain rfl := k58_open hK
 exact ⟨ad, e, hc 0 _ rfl, by rw [← zaW _ _ 1 yq9]; exact hc 1 _ rfl⟩
structure S31 where
 f0 : ByteArray
 f1 : ByteArray
 f2 : ByteArray
 f3 : ByteArray
 f4 : ByteArray
 f5 : (List Int)
 f6 : Int
 f7 : (List S58)
 f8 : ByteArray
 f9 : ByteArray
 f10 : ByteArray
 f11 : ByteArray
 f12 : (List ByteArray)
 f13 : (List ByteArray)
 f14 : ByteArray
def z31 : S31 := ⟨(⟨#[]⟩ : ByteArray), (⟨#[]⟩ : ByteArray), (⟨#[]⟩ : ByteArray), (⟨#[]⟩ : ByteArray), (⟨#[]⟩ : ByteArray), ([] : List Int), (0 : Int), ([] : List S58), (⟨#[]⟩ : ByteArray), (⟨#[]⟩ : ByteArray), (⟨#[]⟩ : ByteArray), (⟨#[]⟩ : ByteArray), ([] : List ByteArray), ([] : List ByteArray), (⟨#[]⟩ : ByteArray)⟩
def k31 : Kd S31 := Kd.iso (Kd.pair Kd.string (Kd.pair Kd.string (Kd.pair Kd.string (Kd.pair Kd.string (Kd.pair Kd.string (Kd.pair (Kd.slice 2 (Kd.int .i64)) (Kd.pair (Kd.int .i64) (Kd.pair (Kd.slice 58 k58) (Kd.pair Kd.string (Kd.pair Kd.string (Kd.pair Kd.string (Kd.pair Kd.string (Kd.pair (Kd.slice 9 Kd.string) (Kd.pair (Kd.slice 9 Kd.string) Kd.string)))))))))))))) (fun x : S31 => (x.f0, x.f1, x.f2, x.f3, x.f4, x.f5, x.f6, x.f7, x.f8, x.f9, x.f10, x.f11, x.f12, x.f13, x.f14))
theorem k31_open {w : World} {x : S31} {cs : List Value} (h : k31.K w x cs) : ∃ A5 c5 A7 c7 A12 c12 A13 c13, cs = [.string x.f0, .string x.f1, .string x.f2, .string x.f3, .string x.f4, .slice A5 x.f5.length c5, .int .i64 x.f6, .slice A7 x.f7.length c7, .string x.f8, .string x.f9, .string x.f10, .string x.f11, .slice A12 x.f12.length c12, .slice A13 x.f13.length c13, .string x.f14] ∧ x.f5.length ≤ c5 ∧ (Kd.int .i64).C w A5 x.f5.length x.f5 ∧ x.f7.length ≤ c7 ∧ k58.C w A7 x.f7.length x.f7 ∧ x.f12.length ≤ c12 ∧ Kd.string.C w A12 x.f12.length x.f12 ∧ x.f13.length ≤ c13 ∧ Kd.string.C w A13 x.f13.length x.f13 := by
 obtain ⟨_, _, rfl, rfl, ⟨_, _, rfl, rfl, ⟨_, _, rfl, rfl, ⟨_, _, rfl, rfl, ⟨_, _, rfl, rfl, ⟨_, _, rfl, ⟨A5, c5, rfl, l5, g5⟩, ⟨_, _, rfl, rfl, ⟨_, _, rfl, ⟨A7, c7, rfl, l7, g7⟩, ⟨_, _, rfl, rfl, ⟨_, _, rfl, rfl, ⟨_, _, rfl, rfl, ⟨_, _, rfl, rfl, ⟨_, _, rfl, ⟨A12, c12, rfl, l12, g12⟩, ⟨_, _, rfl, ⟨A13, c13, rfl, l13, g13⟩, rfl⟩⟩⟩⟩⟩⟩⟩⟩⟩⟩⟩⟩⟩⟩ := h
 exact ⟨A5, c5, A7, c7, A12, c12, A13, c13, rfl, l5, g5, l7, g7, l12, g12, l13, g13⟩
theorem k31_openM {w : World} {base : Nat} {ok : Nat → Prop} {x : S31} {cs : List Value} (h : k31.M w base ok x cs) : ∃ v5 v7 v12 v13, cs = [.string x.f0, .string x.f1, .string x.f2, .string x.f3, .string x.f4, v5, .int .i64 x.f6, v7, .string x.f8, .string x.f9, .string x.f10, .string x.f11, v12, v13, .string x.f14] ∧ (Kd.int .i64).R 2 w base ok v5 x.f5 ∧ k58.R 58 w base ok v7 x.f7 ∧ Kd.string.R 9 w base ok v12 x.f12 ∧ Kd.string.R 9 w base ok v13 x.f13 := by
 obtain ⟨_, _, rfl, rfl, ⟨_, _, rfl, rfl, ⟨_, _, rfl, rfl, ⟨_, _, rfl, rfl, ⟨_, _, rfl, rfl, ⟨_, _, rfl, ⟨v5, rfl, g5⟩, ⟨_, _, rfl, rfl, ⟨_, _, rfl, ⟨v7, rfl, g7⟩, ⟨_, _, rfl, rfl, ⟨_, _, rfl, rfl, ⟨_, _, rfl, rfl, ⟨_, _, rfl, rfl, ⟨_, _, rfl, ⟨v12, rfl, g12⟩, ⟨_, _, rfl, ⟨v13, rfl, g13⟩, rfl⟩⟩⟩⟩⟩⟩⟩⟩⟩⟩⟩⟩⟩⟩ := h
 exact ⟨v5, v7, v12, v13, rfl, g5, g7, g12, g13⟩
theorem k31_mkM (w : World) (base : Nat) (ok : Nat → Prop) (x : S31) {v5 : Value} (g5 : (Kd.int .i64).R 2 w base ok v5 x.f5) {v7 : Value} (g7 : k58.R 58 w base ok v7 x.f7) {v12 : Value} (g12 : Kd.string.R 9 w base ok v12 x.f12) {v13 : Value} (g13 : Kd.string.R 9 w base ok v13 x.f13) : k31.M w base ok x [.string x.f0, .string x.f1, .string x.f2, .string x.f3, .string x.f4, v5, .int .i64 x.f6, v7, .string x.f8, .string x.f9, .string x.f10, .string x.f11, v12, v13, .string x.f14] := ⟨[.string x.f0], [.string x.f1, .string x.f2, .string x.f3, .string x.f4, v5, .int .i64 x.f6, v7, .string x.f8, .string x.f9, .string x.f10, .string x.f11, v12, v13, .string x.f14], rfl, rfl, ⟨[.string x.f1], [.string x.f2, .string x.f3, .string x.f4, v5, .int .i64 x.f6, v7, .string x.f8, .string x.f9, .string x.f10, .string x.f11, v12, v13, .string x.f14], rfl, rfl, ⟨[.string x.f2], [.string x.f3, .string x.f4, v5, .int .i64 x.f6, v7, .string x.f8, .string x.f9, .string x.f10, .string x.f11, v12, v13, .string x.f14], rfl, rfl, ⟨[.string x.f3], [.string x.f4, v5, .int .i64 x.f6, v7, .string x.f8, .string x.f9, .string x.f10, .string x.f11, v12, v13, .string x.f14], rfl, rfl, ⟨[.string x.f4], [v5, .int .i64 x.f6, v7, .string x.f8, .string x.f9, .string x.f10, .string x.f11, v12, v13, .string x.f14], rfl, rfl, ⟨[v5], [.int .i64 x.f6, v7, .string x.f8, .string x.f9, .string x.f10, .string x.f11, v12, v13, .string x.f14], rfl, ⟨v5, rfl, g5⟩, ⟨[.int .i64 x.f6], [v7, .string x.f8, .string x.f9, .string x.f10, .string x.f11, v12, v13, .string x.f14], rfl, rfl, ⟨[v7], [.string x.f8, .string x.f9, .string x.f10, .string x.f11, v12, v13, .string x.f14], rfl, ⟨v7, rfl, g7⟩, ⟨[.string x.f8], [.string x.f9, .string x.f10, .string x.f11, v12, v13, .string x.f14], rfl, rfl, ⟨[.string x.f9], [.string x.f10, .string x.f11, v12, v13, .string x.f14], rfl, rfl, ⟨[.string x.f10], [.string x.f11, v12, v13, .string x.f14], rfl, rfl, ⟨[.string x.f11], [v12, v13, .string x.f14], rfl, rfl, ⟨[v12], [v13, .string x.f14], rfl, ⟨v12, rfl, g12⟩, ⟨[v13], [.string x.f14], rfl, ⟨v13, rfl, g13⟩, rfl⟩⟩⟩⟩⟩⟩⟩⟩⟩⟩⟩⟩⟩⟩
def zao (xs : List S31) (i : Int) : S31 := xs.getD i.toNat z31
theorem at_T31 {w : World} {A : Option Addr} {n : Nat} {xs : List S31} (h : Kd.C k31 w A n xs) (i : Int) (h0 : 0 ≤ i) (h1 : i < n) : ∃ ad A5 c5 A7 c7 A12 c12 A13 c13, A = some ad ∧ w.cell? (ad.add (i.toNat * 15)) = some (.string (zao xs i).f0) ∧ w.cell? ⟨(ad.add (i.toNat * 15)).block, (ad.add (i.toNat * 15)).off + 1, none⟩ = some (.string (zao xs i).f1) ∧ w.cell? ⟨(ad.add (i.toNat * 15)).block, (ad.add (i.toNat * 15)).off + 2, none⟩ = some (.string (zao xs i).f2) ∧ w.cell? ⟨(ad.add (i.toNat * 15)).block, (ad.add (i.toNat * 15)).off + 3, none⟩ = some (.string (zao xs i).f3) ∧ w.cell? ⟨(ad.add (i.toNat * 15)).block, (ad.add (i.toNat * 15)).off + 4, none⟩ = some (.string (zao xs i).f4) ∧ w.cell? ⟨(ad.add (i.toNat * 15)).block, (ad.add (i.toNat * 15)).off + 5, none⟩ = some (.slice A5 (zao xs i).f5.length c5) ∧ w.cell? ⟨(ad.add (i.toNat * 15)).block, (ad.add (i.toNat * 15)).off + 6, none⟩ = some (.int .i64 (zao xs i).f6) ∧ w.cell? ⟨(ad.add (i.toNat * 15)).block, (ad.add (i.toNat * 15)).off + 7, none⟩ = some (.slice A7 (zao xs i).f7.length c7) ∧ w.cell? ⟨(ad.add (i.toNat * 15)).block, (ad.add (i.toNat * 15)).off + 8, none⟩ = some (.string (zao xs i).f8) ∧ w.cell? ⟨(ad.add (i.toNat * 15)).block, (ad.add (i.toNat * 15)).off + 9, none⟩ = some (.string (zao xs i).f9) ∧ w.cell? ⟨(ad.add (i.toNat * 15)).block, (ad.add (i.toNat * 15)).off + 10, none⟩ = some (.string (zao xs i).f10) ∧ w.cell? ⟨(ad.add (i.toNat * 15)).block, (ad.add (i.toNat * 15)).off + 11, none⟩ = some (.string (zao xs i).f11) ∧ w.cell? ⟨(ad.add (i.toNat * 15)).block, (ad.add (i.toNat * 15)).off + 12, none⟩ = some (.slice A12 (zao xs i).f12.length c12) ∧ w.cell? ⟨(ad.add (i.toNat * 15)).block, (ad.add (i.toNat * 15)).off + 13, none⟩ = some (.slice A13 (zao xs i).f13.length c13) ∧ w.cell? ⟨(ad.add (i.toNat * 15)).block, (ad.add (i.toNat * 15)).off + 14, none⟩ = some (.string (zao xs i).f14) ∧ (zao xs i).f5.length ≤ c5 ∧ (Kd.int .i64).C w A5 (zao xs i).f5.length (zao xs i).f5 ∧ (zao xs i).f7.length ≤ c7 ∧ k58.C w A7 (zao xs i).f7.length (zao xs i).f7 ∧ (zao xs i).f12.length ≤ c12 ∧ Kd.string.C w A12 (zao xs i).f12.length (zao xs i).f12 ∧ (zao xs i).f13.length ≤ c13 ∧ Kd.string.C w A13 (zao xs i).f13.length (zao xs i).f13 := by
 obtain ⟨ad, c, e, _, hK, hc0⟩ := Kd.C_get h z31 i h0 h1
 have hc : ∀ j u, c[j]? = some u → w.cell? (ad.add (i.toNat * 15 + j)) = some u := hc0
 obtain ⟨A5, c5, A7, c7, A12, c12, A13, c13, rfl, l5, g5, l7, g7, l12, g12, l13, g13⟩ := k31_open hK
 exact ⟨ad, A5, c5, A7, c7, A12, c12, A13, c13, e, hc 0 _ rfl, by rw [← zaW _ _ 1 yq9]; exact hc 1 _ rfl, by rw [← zaW _ _ 2 yq9]; exact hc 2 _ rfl, by rw [← zaW _ _ 3 yq9]; exact hc 3 _ rfl, by rw [← zaW _ _ 4 yq9]; exact hc 4 _ rfl, by rw [← zaW _ _ 5 yq9]; exact hc 5 _ rfl, by rw [← zaW _ _ 6 yq9]; exact hc 6 _ rfl, by rw [← zaW _ _ 7 yq9]; exact hc 7 _ rfl, by rw [← zaW _ _ 8 yq9]; exact hc 8 _ rfl, by rw [← zaW _ _ 9 yq9]; exact hc 9 _ rfl, by rw [← zaW _ _ 10 yq9]; exact hc 10 _ rfl, by rw [← zaW _ _ 11 yq9]; exact hc 11 _ rfl, by rw [← zaW _ _ 12 yq9]; exact hc 12 _ rfl, by rw [← zaW _ _ 13 yq9]; exact hc 13 _ rfl, by rw [← zaW _ _ 14 yq9]; exact hc 14 _ rfl, l5, g5, l7, g7, l12, g12, l13, g13⟩
end Go.Proofs.YtfafjbolmeimmaaGreatDoor.P
