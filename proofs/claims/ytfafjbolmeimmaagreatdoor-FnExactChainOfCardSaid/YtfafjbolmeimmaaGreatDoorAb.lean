/- Closing steps that stand often in these texts, each once. -/
import Derived.Below
import Derived.Deep.Draws
import Derived.Deep.AppendLies
import Derived.Maps.AppendAt
import Derived.OwnWalk
import Derived.Laws.BytesArg
import Derived.Laws.MakeOwn
import Derived.Laws.OwnMore
import Derived.Deep.OwnRows
import Derived.Tactics
import Derived.Lib.ConvBytes
import Derived.Laws.Slices
import Derived.WalkKit
import Derived.KernelRfl
import Derived.RowKit3
import Derived.Deep.LoopGhost
import Derived.Deep.QuietTactic
import Derived.BigQuiet
import Derived.WideLaws
import Derived.Deep.DeepCutAuto
import Derived.Deep.CutBlock
import Derived.Deep.RegionHeld3
import Derived.Laws.Rows
import Derived.Lib.AppendStr
import Derived.ArgAppend
import Derived.Laws.IdiomCopy
import Derived.RowKit
namespace Go.Proofs
theorem yq0 {p : Prop} {p0_ : Prop} (y0_ : p0_) (h : p0_ → p := by intro x0_; repeat (first | (with_reducible first | exact x0_ | apply zad | apply zab | apply zac) | exact x0_)) : p := h y0_
theorem yq1 {p : Prop} (h : p := by first | (with_reducible assumption) | assumption) : p := h
theorem yq2 {p : Prop} (h : p := by (try simp only [List.map_toArray, List.map_cons, List.map_nil]); first | done | rfl | (simp only [List.length_drop, List.length_take]; rfl)) : p := h
theorem yq3 {p : Prop} (h : p := by first | rfl | (simp; done) | (simp [*]; done)) : p := h
theorem yq4 {p : Prop} (h : p := by first | rfl | (simp [zaj, zak] <;> rfl) | (simp [*, zaj, zak] <;> rfl)) : p := h
theorem yq5 {p : Prop} {p0_ : Prop} (y0_ : p0_) (h : p0_ → p := by intro x0_; (with_reducible repeat (first | refine blk_drewN ?_ _ | refine zar ?_ | refine blk_alloc ?_ _)); exact x0_) : p := h y0_
theorem yq6 {p : Prop} {p0_ : Prop} (y0_ : p0_) (h : p0_ → p := by intro x0_; repeat (first | (with_reducible first | exact x0_ | apply KeepBut.set_ | apply zay | apply keep_drew | apply keep_alloc) | exact x0_)) : p := h y0_
theorem yq7 {p : Prop} {p0_ : Prop} (y0_ : p0_) (h : p0_ → p := by intro x0_; (with_reducible repeat (first | apply Kd.R_alloc | apply Kd.R_drewN | apply Kd.R_drew)); exact x0_) : p := h y0_
theorem yq8 {p : Prop} {p0_ : Prop} (y0_ : p0_) {p1_ : Prop} (y1_ : p1_) {p2_ : Prop} (y2_ : p2_) (h : p0_ → p1_ → p2_ → p := by intro x0_ x1_ x2_; repeat (first | (with_reducible first | exact x0_ | apply KeepBut.set_ | apply zay | apply keep_drew | apply keep_alloc | refine zaO ?_ x1_ _ | refine zaO ?_ x2_ _) | exact x0_)) : p := h y0_ y1_ y2_
theorem yq9 {p : Prop} (h : p := by omega) : p := h
theorem yq10 {p : Prop} (h : p := by kernel_rfl) : p := h
theorem yq11 {p : Prop} (h : p := by repeat (first | exact zas.refl _ | apply zas.step)) : p := h
theorem yq12 {p : Prop} {p0_ : Prop} (y0_ : p0_) (h : p0_ → p := by intro x0_; repeat (first | (with_reducible first | exact x0_ | apply zae.alloc | apply zae.drewN | apply zae.drew | apply zae.set_0 | apply zae.set_1 | apply zae.set_2) | exact x0_)) : p := h y0_
theorem yq13 {p : Prop} {p0_ : Prop} (y0_ : p0_) {p1_ : Prop} (y1_ : p1_) (h : p0_ → p1_ → p := by intro x0_ x1_; repeat (first | (with_reducible first | exact x0_ | apply zad | apply zab | apply zac | refine zai ?_ (zae.ge x1_)) | exact x0_)) : p := h y0_ y1_
theorem yq14 {p : Prop} (h : p := by (try simp only [List.map_toArray, List.map_cons, List.map_nil]); first | done | rfl) : p := h
theorem yq15 {p : Prop} {p0_ : Prop} (y0_ : p0_) (h : p0_ → p := by intro x0_; have := x0_; omega) : p := h y0_
theorem yq16 {p : Prop} {p0_ : Prop} (y0_ : p0_) {p1_ : Prop} (y1_ : p1_) {p2_ : Prop} (y2_ : p2_) (h : p0_ → p1_ → p2_ → p := by intro x0_ x1_ x2_; repeat (first | (with_reducible first | exact x0_ | apply zae.alloc | apply zae.drewN | apply zae.drew | apply zae.set_0 | apply zae.set_1 | apply zae.set_2 | refine zae.far ?_ x1_ _ | refine zae.far ?_ x2_ _) | exact x0_)) : p := h y0_ y1_ y2_
theorem yq17 {p : Prop} {p0_ : Prop} (y0_ : p0_) {p1_ : Prop} (y1_ : p1_) (h : p0_ → p1_ → p := by intro x0_ x1_; repeat (first | (with_reducible first | exact x0_ | apply zad | apply zab | apply zac | refine zai ?_ x1_) | exact x0_)) : p := h y0_ y1_
theorem yq18 {p : Prop} {p0_ : Prop} (y0_ : p0_) {p1_ : Prop} (y1_ : p1_) {p2_ : Prop} (y2_ : p2_) {p3_ : Prop} (y3_ : p3_) (h : p0_ → p1_ → p2_ → p3_ → p := by intro x0_ x1_ x2_ x3_; repeat (first | (with_reducible first | exact x0_ | apply zad | apply zab | apply zac | refine zai ?_ (zae.ge x1_) | refine zai ?_ x2_ | refine zai ?_ x3_) | exact x0_)) : p := h y0_ y1_ y2_ y3_
theorem yq19 {p : Prop} {p0_ : Prop} (y0_ : p0_) {p1_ : Prop} (y1_ : p1_) (h : p0_ → p1_ → p := by intro x0_ x1_; have := x0_; have := x1_; omega) : p := h y0_ y1_
theorem yq20 {p : Prop} {p0_ : Prop} (y0_ : p0_) {p1_ : Prop} (y1_ : p1_) (h : p0_ → p1_ → p := by intro x0_ x1_; (with_reducible repeat (first | refine blk_drewN ?_ _ | refine zar ?_ | refine blk_alloc ?_ _)); refine blk_far ?_ x0_ _; (with_reducible repeat (first | refine blk_drewN ?_ _ | refine zar ?_ | refine blk_alloc ?_ _)); exact x1_) : p := h y0_ y1_
theorem yq21 {p : Prop} (h : p := by simp) : p := h
theorem yq22 {p : Prop} {p0_ : Prop} (y0_ : p0_) {p1_ : Prop} (y1_ : p1_) {p2_ : Prop} (y2_ : p2_) (h : p0_ → p1_ → p2_ → p := by intro x0_ x1_ x2_; repeat (first | (with_reducible first | exact x0_ | apply zad | apply zab | apply zac | refine zai ?_ x1_ | refine zai ?_ x2_) | exact x0_)) : p := h y0_ y1_ y2_
theorem yq23 {p : Prop} (h : p := by first | rw [hw] | exact congrArg _ yq9) : p := h
theorem yq24 {p : Prop} {p0_ : Prop} (y0_ : p0_) (h : p0_ → p := by intro x0_; have := x0_; first | omega | exact Nat.le_refl _) : p := h y0_
theorem yq25 {p : Prop} {p0_ : Prop} (y0_ : p0_) (h : p0_ → p := by intro x0_; repeat (first | exact x0_ | apply zad | apply zab | apply zac)) : p := h y0_
theorem yq26 {p : Prop} {p0_ : Prop} (y0_ : p0_) (h : p0_ → p := by intro x0_; (with_reducible repeat (first | refine blk_drewN ?_ _ | refine zar ?_ | refine blk_alloc ?_ _)); refine zbb (cs := #[.int .u8 zaw, .int .i64 zaJ, .bool t221, .int .i64 t228, .int .i64 0]) ?_ 4 _ rfl; (with_reducible repeat (first | refine blk_drewN ?_ _ | refine zar ?_ | refine blk_alloc ?_ _)); refine zbb (cs := #[.int .u8 zaw, .int .i64 zaJ, .bool t221, .int .i64 0, .int .i64 0]) ?_ 3 _ rfl; (with_reducible repeat (first | refine blk_drewN ?_ _ | refine zar ?_ | refine blk_alloc ?_ _)); exact x0_) : p := h y0_
theorem yq27 {p : Prop} {p0_ : Prop} (y0_ : p0_) (h : p0_ → p := by intro x0_; have := x0_.1; omega) : p := h y0_
theorem yq28 {p : Prop} {p0_ : Prop} (y0_ : p0_) (h : p0_ → p := by intro x0_; repeat (first | (with_reducible first | exact x0_ | apply Kept.alloc | apply Kept.drewN | apply Kept.drew) | exact x0_)) : p := h y0_
theorem yq29 {p : Prop} (h : p := by revert go; cases otherB f0 <;> simp) : p := h
theorem yq30 {p : Prop} (h : p := by rfl) : p := h
theorem yq31 {p : Prop} {p0_ : Prop} (y0_ : p0_) {p1_ : Prop} (y1_ : p1_) (h : p0_ → p1_ → p := by intro x0_ x1_; (with_reducible repeat (first | refine blk_drewN ?_ _ | refine zar ?_ | refine blk_alloc ?_ _)); refine blk_far ?_ x0_ _; (with_reducible repeat (first | refine blk_drewN ?_ _ | refine zar ?_ | refine blk_alloc ?_ _)); refine blk_far ?_ x0_ _; (with_reducible repeat (first | refine blk_drewN ?_ _ | refine zar ?_ | refine blk_alloc ?_ _)); exact x1_) : p := h y0_ y1_
theorem yq32 {p : Prop} {p0_ : Prop} (y0_ : p0_) {p1_ : Prop} (y1_ : p1_) {p2_ : Prop} (y2_ : p2_) (h : p0_ → p1_ → p2_ → p := by intro x0_ x1_ x2_; rw [bs_size]; have := x0_; have := x1_; have := x2_; omega) : p := h y0_ y1_ y2_
theorem yq33 {p : Prop} {p0_ : Prop} (y0_ : p0_) {p1_ : Prop} (y1_ : p1_) {p2_ : Prop} (y2_ : p2_) (h : p0_ → p1_ → p2_ → p := by intro x0_ x1_ x2_; have := x0_; have := x1_; have := x2_; omega) : p := h y0_ y1_ y2_
theorem yq34 {p : Prop} (h : p := by first | omega | exact Nat.le_refl _) : p := h
theorem yq35 {p : Prop} {p0_ : Prop} (y0_ : p0_) (h : p0_ → p := by intro x0_; (with_reducible repeat (first | refine blk_drewN ?_ _ | refine zar ?_ | refine blk_alloc ?_ _)); refine zbb (cs := #[.int .u8 zaw, .int .i64 zaJ, .bool false, .int .i64 0, .int .i64 0]) ?_ 2 _ rfl; (with_reducible repeat (first | refine blk_drewN ?_ _ | refine zar ?_ | refine blk_alloc ?_ _)); exact x0_) : p := h y0_
theorem yq36 {p : Prop} {p0_ : Prop} (y0_ : p0_) (h : p0_ → p := by intro x0_; (with_reducible repeat (first | refine blk_drewN ?_ _ | refine zar ?_ | refine blk_alloc ?_ _)); refine zbb (cs := #[.int .u8 zaw, .int .i64 0, .bool false, .int .i64 0, .int .i64 0]) ?_ 1 _ rfl; (with_reducible repeat (first | refine blk_drewN ?_ _ | refine zar ?_ | refine blk_alloc ?_ _)); exact x0_) : p := h y0_
theorem yq37 {p : Prop} {p0_ : Prop} (y0_ : p0_) {p1_ : Prop} (y1_ : p1_) (h : p0_ → p1_ → p := by intro x0_ x1_; repeat (first | (with_reducible first | exact x0_ | apply KeepBut.set_ | apply zay | apply keep_drew | apply keep_alloc | refine zaO ?_ x1_ _) | exact x0_)) : p := h y0_ y1_
theorem yq38 {p : Prop} (h : p := by decide) : p := h
theorem yq39 {p : Prop} {p0_ : Prop} (y0_ : p0_) (h : p0_ → p := by intro x0_; have := x0_; rw [gr] at this; exact this) : p := h y0_
theorem yq40 {p : Prop} {p0_ : Prop} (y0_ : p0_) (h : p0_ → p := by intro x0_; (with_reducible repeat (first | apply Kd.S_alloc | apply Kd.S_drewN | apply Kd.S_drew)); exact x0_) : p := h y0_
theorem yq41 {p : Prop} (h : p := by rw [R]; first | done | rfl) : p := h
theorem yq42 {p : Prop} (h : p := by have := of_decide_eq_true hs; omega) : p := h
theorem yq43 {p : Prop} {p0_ : Prop} (y0_ : p0_) (h : p0_ → p := by intro x0_; rw [List.length_append, show 10 - (out.length + [n0].length) = 9 - out.length by show 10 - (out.length + 1) = _; omega]; exact x0_.1) : p := h y0_
theorem yq44 {p : Prop} {p0_ : Prop} (y0_ : p0_) (h : p0_ → p := by intro x0_; rw [List.length_append]; have := x0_.2.2.2; show 11 ≤ k1 + (out.length + 1); omega) : p := h y0_
end Go.Proofs
