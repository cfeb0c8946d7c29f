/- Closing steps that stand often in these texts, each once. -/
import Derived.Below
import Derived.Deep.Draws
import Derived.Deep.AppendLies
import Derived.Maps.AppendAt
import Derived.OwnWalk
import Derived.Laws.BytesArg
import Derived.Laws.MakeOwn
import Derived.Laws.OwnMore
import Derived.Deep.OwnRows
import Derived.Tactics
import Derived.Lib.ConvBytes
import Derived.Laws.Slices
import Derived.WalkKit
import Derived.KernelRfl
import Derived.RowKit3
import Derived.Deep.LoopGhost
import Derived.Deep.QuietTactic
import Derived.BigQuiet
import Derived.WideLaws
import Derived.Deep.DeepCutAuto
import Derived.Deep.CutBlock
import Derived.Deep.RegionHeld3
import Derived.Laws.Rows
import Derived.Lib.AppendStr
import Derived.ArgAppend
import Derived.Laws.IdiomCopy
import Derived.RowKit
namespace Go.Proofs
theorem yq0 {p : Prop} {p0_ : Prop} (y0_ : p0_) (h : p0_ → p := by intro x0_; repeat (first | (with_reducible first | exact x0_ | apply zad | apply zab | apply zac) | exact x0_)) : p := h y0_
theorem yq1 {p : Prop} (h : p := by first | (with_reducible assumption) | assumption) : p := h
theorem yq2 {p : Prop} (h : p := by first | rfl | (simp; done) | (simp [*]; done)) : p := h
theorem yq3 {p : Prop} (h : p := by (try simp only [List.map_toArray, List.map_cons, List.map_nil]); first | done | rfl | (simp only [List.length_drop, List.length_take]; rfl)) : p := h
theorem yq4 {p : Prop} {p0_ : Prop} (y0_ : p0_) (h : p0_ → p := by intro x0_; (with_reducible repeat (first | refine zak ?_ _ | refine zan ?_ | refine blk_alloc ?_ _)); exact x0_) : p := h y0_
theorem yq5 {p : Prop} {p0_ : Prop} (y0_ : p0_) (h : p0_ → p := by intro x0_; repeat (first | (with_reducible first | exact x0_ | apply KeepBut.set_ | apply zay | apply keep_drew | apply keep_alloc) | exact x0_)) : p := h y0_
theorem yq6 {p : Prop} (h : p := by first | rfl | (simp [zao, zaq] <;> rfl) | (simp [*, zao, zaq] <;> rfl)) : p := h
theorem yq7 {p : Prop} {p0_ : Prop} (y0_ : p0_) {p1_ : Prop} (y1_ : p1_) {p2_ : Prop} (y2_ : p2_) (h : p0_ → p1_ → p2_ → p := by intro x0_ x1_ x2_; repeat (first | (with_reducible first | exact x0_ | apply KeepBut.set_ | apply zay | apply keep_drew | apply keep_alloc | refine zaR ?_ x1_ _ | refine zaR ?_ x2_ _) | exact x0_)) : p := h y0_ y1_ y2_
theorem yq8 {p : Prop} (h : p := by repeat (first | exact zas.refl _ | apply zas.step)) : p := h
theorem yq9 {p : Prop} {p0_ : Prop} (y0_ : p0_) (h : p0_ → p := by intro x0_; (with_reducible repeat (first | apply Kd.R_alloc | apply Kd.R_drewN | apply Kd.R_drew)); exact x0_) : p := h y0_
theorem yq10 {p : Prop} (h : p := by omega) : p := h
theorem yq11 {p : Prop} (h : p := by kernel_rfl) : p := h
theorem yq12 {p : Prop} {p0_ : Prop} (y0_ : p0_) (h : p0_ → p := by intro x0_; repeat (first | (with_reducible first | exact x0_ | apply zaf.alloc | apply zaf.drewN | apply zaf.drew | apply zaf.set_0 | apply zaf.set_1 | apply zaf.set_2) | exact x0_)) : p := h y0_
theorem yq13 {p : Prop} {p0_ : Prop} (y0_ : p0_) {p1_ : Prop} (y1_ : p1_) (h : p0_ → p1_ → p := by intro x0_ x1_; (with_reducible repeat (first | refine zak ?_ _ | refine zan ?_ | refine blk_alloc ?_ _)); refine zaZ ?_ x0_ _; (with_reducible repeat (first | refine zak ?_ _ | refine zan ?_ | refine blk_alloc ?_ _)); refine zaZ ?_ x0_ _; (with_reducible repeat (first | refine zak ?_ _ | refine zan ?_ | refine blk_alloc ?_ _)); refine zaZ ?_ x0_ _; (with_reducible repeat (first | refine zak ?_ _ | refine zan ?_ | refine blk_alloc ?_ _)); refine zaZ ?_ x0_ _; (with_reducible repeat (first | refine zak ?_ _ | refine zan ?_ | refine blk_alloc ?_ _)); refine zaZ ?_ x0_ _; (with_reducible repeat (first | refine zak ?_ _ | refine zan ?_ | refine blk_alloc ?_ _)); exact x1_) : p := h y0_ y1_
theorem yq14 {p : Prop} {p0_ : Prop} (y0_ : p0_) {p1_ : Prop} (y1_ : p1_) (h : p0_ → p1_ → p := by intro x0_ x1_; repeat (first | (with_reducible first | exact x0_ | apply zad | apply zab | apply zac | refine zaj ?_ (zaf.ge x1_)) | exact x0_)) : p := h y0_ y1_
theorem yq15 {p : Prop} (h : p := by (try simp only [List.map_toArray, List.map_cons, List.map_nil]); first | done | rfl) : p := h
theorem yq16 {p : Prop} {p0_ : Prop} (y0_ : p0_) {p1_ : Prop} (y1_ : p1_) (h : p0_ → p1_ → p := by intro x0_ x1_; repeat (first | (with_reducible first | exact x0_ | apply zad | apply zab | apply zac | refine zaj ?_ x1_) | exact x0_)) : p := h y0_ y1_
theorem yq17 {p : Prop} {p0_ : Prop} (y0_ : p0_) {p1_ : Prop} (y1_ : p1_) {p2_ : Prop} (y2_ : p2_) (h : p0_ → p1_ → p2_ → p := by intro x0_ x1_ x2_; repeat (first | (with_reducible first | exact x0_ | apply zaf.alloc | apply zaf.drewN | apply zaf.drew | apply zaf.set_0 | apply zaf.set_1 | apply zaf.set_2 | refine zaf.far ?_ x1_ _ | refine zaf.far ?_ x2_ _) | exact x0_)) : p := h y0_ y1_ y2_
theorem yq18 {p : Prop} {p0_ : Prop} (y0_ : p0_) {p1_ : Prop} (y1_ : p1_) {p2_ : Prop} (y2_ : p2_) {p3_ : Prop} (y3_ : p3_) (h : p0_ → p1_ → p2_ → p3_ → p := by intro x0_ x1_ x2_ x3_; repeat (first | (with_reducible first | exact x0_ | apply zad | apply zab | apply zac | refine zaj ?_ x1_ | refine zaj ?_ x2_ | refine zaj ?_ x3_) | exact x0_)) : p := h y0_ y1_ y2_ y3_
theorem yq19 {p : Prop} {p0_ : Prop} (y0_ : p0_) {p1_ : Prop} (y1_ : p1_) {p2_ : Prop} (y2_ : p2_) {p3_ : Prop} (y3_ : p3_) (h : p0_ → p1_ → p2_ → p3_ → p := by intro x0_ x1_ x2_ x3_; repeat (first | (with_reducible first | exact x0_ | apply zad | apply zab | apply zac | refine zaj ?_ (zaf.ge x1_) | refine zaj ?_ x2_ | refine zaj ?_ x3_) | exact x0_)) : p := h y0_ y1_ y2_ y3_
theorem yq20 {p : Prop} {p0_ : Prop} (y0_ : p0_) {p1_ : Prop} (y1_ : p1_) {p2_ : Prop} (y2_ : p2_) (h : p0_ → p1_ → p2_ → p := by intro x0_ x1_ x2_; (with_reducible repeat (first | apply Kd.R_alloc | apply Kd.R_drewN | apply Kd.R_drew)); exact Kd.R_mono (Kd.zbd (p := ⟨zbj, 14, none⟩) (Kd.zbd (p := ⟨zbj, 13, none⟩) (Kd.zbd (p := ⟨zbj, 12, none⟩) (Kd.zbd (p := ⟨zbj, 11, none⟩) (Kd.zbd (p := ⟨zbj, 10, none⟩) (Kd.zbd (p := ⟨zbj, 9, none⟩) (Kd.zbd (p := ⟨zbj, 8, none⟩) (Kd.zbd (p := ⟨zbj, 7, none⟩) (Kd.zbd (p := ⟨zbj, 6, none⟩) (Kd.zbd (p := ⟨zbj, 5, none⟩) (Kd.zbd (p := ⟨zbj, 4, none⟩) (Kd.zbd (p := ⟨zbj, 3, none⟩) (Kd.zbd (p := ⟨zbj, 2, none⟩) (Kd.zbd (p := ⟨zbj, 1, none⟩) (Kd.zbd (p := ⟨zbj, 0, none⟩) (Kd.zbd (p := ⟨za4, 14, none⟩) (Kd.zbd (p := ⟨za4, 13, none⟩) (Kd.R_types (Kd.R_types x0_ x1_ (by decide)) x2_ (by decide)) (fun _ hk => hk.1.2) (.slice Ao27 t298.length co27)) (fun _ hk => hk.1.2) (.string a0_14)) (fun _ hk => hk.2) (.string a0_0)) (fun _ hk => hk.2) (.string a0_1)) (fun _ hk => hk.2) (.string a0_2)) (fun _ hk => hk.2) (.string a0_3)) (fun _ hk => hk.2) (.string a0_4)) (fun _ hk => hk.2) (.slice Ao15 t289.length co15)) (fun _ hk => hk.2) (.int .i64 a0_6)) (fun _ hk => hk.2) (.slice Ao19 t292.length co19)) (fun _ hk => hk.2) (.string a0_8)) (fun _ hk => hk.2) (.string a0_9)) (fun _ hk => hk.2) (.string a0_10)) (fun _ hk => hk.2) (.string a0_11)) (fun _ hk => hk.2) (.slice Ao23 t295.length co23)) (fun _ hk => hk.2) (.slice Ao27 t298.length co27)) (fun _ hk => hk.2) (.string a0_14)) (fun _ hk => hk.1.1.2)) : p := h y0_ y1_ y2_
theorem yq21 {p : Prop} {p0_ : Prop} (y0_ : p0_) {p1_ : Prop} (y1_ : p1_) {p2_ : Prop} (y2_ : p2_) (h : p0_ → p1_ → p2_ → p := by intro x0_ x1_ x2_; (with_reducible repeat (first | apply Kd.R_alloc | apply Kd.R_drewN | apply Kd.R_drew)); exact Kd.R_mono (Kd.zbd (p := ⟨zbj, 14, none⟩) (Kd.zbd (p := ⟨zbj, 13, none⟩) (Kd.zbd (p := ⟨zbj, 12, none⟩) (Kd.zbd (p := ⟨zbj, 11, none⟩) (Kd.zbd (p := ⟨zbj, 10, none⟩) (Kd.zbd (p := ⟨zbj, 9, none⟩) (Kd.zbd (p := ⟨zbj, 8, none⟩) (Kd.zbd (p := ⟨zbj, 7, none⟩) (Kd.zbd (p := ⟨zbj, 6, none⟩) (Kd.zbd (p := ⟨zbj, 5, none⟩) (Kd.zbd (p := ⟨zbj, 4, none⟩) (Kd.zbd (p := ⟨zbj, 3, none⟩) (Kd.zbd (p := ⟨zbj, 2, none⟩) (Kd.zbd (p := ⟨zbj, 1, none⟩) (Kd.zbd (p := ⟨zbj, 0, none⟩) (Kd.zbd (p := ⟨za4, 14, none⟩) (Kd.zbd (p := ⟨za4, 13, none⟩) (Kd.R_types (Kd.R_types x0_ x1_ (by decide)) x2_ (by decide)) (fun _ hk => hk.1.2) (.slice Ao27 t298.length co27)) (fun _ hk => hk.1.2) (.string a0_14)) (fun _ hk => hk.2) (.string a0_0)) (fun _ hk => hk.2) (.string a0_1)) (fun _ hk => hk.2) (.string a0_2)) (fun _ hk => hk.2) (.string a0_3)) (fun _ hk => hk.2) (.string a0_4)) (fun _ hk => hk.2) (.slice Ao15 t289.length co15)) (fun _ hk => hk.2) (.int .i64 a0_6)) (fun _ hk => hk.2) (.slice Ao19 t292.length co19)) (fun _ hk => hk.2) (.string a0_8)) (fun _ hk => hk.2) (.string a0_9)) (fun _ hk => hk.2) (.string a0_10)) (fun _ hk => hk.2) (.string a0_11)) (fun _ hk => hk.2) (.slice Ao23 t295.length co23)) (fun _ hk => hk.2) (.slice Ao27 t298.length co27)) (fun _ hk => hk.2) (.string a0_14)) (fun _ hk => trivial)) : p := h y0_ y1_ y2_
theorem yq22 {p : Prop} {p0_ : Prop} (y0_ : p0_) {p1_ : Prop} (y1_ : p1_) (h : p0_ → p1_ → p := by intro x0_ x1_; (with_reducible repeat (first | refine zak ?_ _ | refine zan ?_ | refine blk_alloc ?_ _)); refine zaZ ?_ x0_ _; (with_reducible repeat (first | refine zak ?_ _ | refine zan ?_ | refine blk_alloc ?_ _)); exact x1_) : p := h y0_ y1_
theorem yq23 {p : Prop} {p0_ : Prop} (y0_ : p0_) (h : p0_ → p := by intro x0_; have := x0_; omega) : p := h y0_
theorem yq24 {p : Prop} {p0_ : Prop} (y0_ : p0_) {p1_ : Prop} (y1_ : p1_) {p2_ : Prop} (y2_ : p2_) (h : p0_ → p1_ → p2_ → p := by intro x0_ x1_ x2_; repeat (first | (with_reducible first | exact x0_ | apply zad | apply zab | apply zac | refine zaj ?_ x1_ | refine zaj ?_ x2_) | exact x0_)) : p := h y0_ y1_ y2_
theorem yq25 {p : Prop} {p0_ : Prop} (y0_ : p0_) {p1_ : Prop} (y1_ : p1_) (h : p0_ → p1_ → p := by intro x0_ x1_; have := x0_; have := x1_; omega) : p := h y0_ y1_
theorem yq26 {p : Prop} {p0_ : Prop} (y0_ : p0_) {p1_ : Prop} (y1_ : p1_) (h : p0_ → p1_ → p := by intro x0_ x1_; (with_reducible repeat (first | refine zak ?_ _ | refine zan ?_ | refine blk_alloc ?_ _)); refine zaZ ?_ x0_ _; (with_reducible repeat (first | refine zak ?_ _ | refine zan ?_ | refine blk_alloc ?_ _)); refine zaZ ?_ x0_ _; (with_reducible repeat (first | refine zak ?_ _ | refine zan ?_ | refine blk_alloc ?_ _)); exact x1_) : p := h y0_ y1_
theorem yq27 {p : Prop} (h : p := by simp) : p := h
theorem yq28 {p : Prop} {p0_ : Prop} (y0_ : p0_) {p1_ : Prop} (y1_ : p1_) (h : p0_ → p1_ → p := by intro x0_ x1_; (with_reducible repeat (first | apply Kd.R_alloc | apply Kd.R_drewN | apply Kd.R_drew)); exact (Kd.R_mono (Kd.zbd (p := ⟨za4, 12, none⟩) (Kd.R_types x0_ x1_ (by decide)) (fun _ hk => hk.2) (.slice Ao23 t295.length co23)) (fun _ h_ => h_.1))) : p := h y0_ y1_
theorem yq29 {p : Prop} (h : p := by first | rw [hw] | exact congrArg _ yq10) : p := h
theorem yq30 {p : Prop} {p0_ : Prop} (y0_ : p0_) (h : p0_ → p := by intro x0_; have := x0_; first | omega | exact Nat.le_refl _) : p := h y0_
theorem yq31 {p : Prop} (h : p := by rw [hg]; exact Nat.le_refl _) : p := h
theorem yq32 {p : Prop} {p0_ : Prop} (y0_ : p0_) (h : p0_ → p := by intro x0_; have := x0_.1; omega) : p := h y0_
theorem yq33 {p : Prop} {p0_ : Prop} (y0_ : p0_) {p1_ : Prop} (y1_ : p1_) (h : p0_ → p1_ → p := by intro x0_ x1_; (with_reducible repeat (first | apply Kd.R_alloc | apply Kd.R_drewN | apply Kd.R_drew)); exact (Kd.R_mono (Kd.zbd (p := ⟨za4, 11, none⟩) (Kd.zbd (p := ⟨za4, 10, none⟩) (Kd.zbd (p := ⟨za4, 9, none⟩) (Kd.zbd (p := ⟨za4, 8, none⟩) (Kd.zbd (p := ⟨za4, 7, none⟩) (Kd.R_types x0_ x1_ (by decide)) (fun _ hk => hk.2) (.slice Ao19 t292.length co19)) (fun _ hk => hk.2) (.string a0_8)) (fun _ hk => hk.2) (.string a0_9)) (fun _ hk => hk.2) (.string a0_10)) (fun _ hk => hk.2) (.string a0_11)) (fun _ h_ => h_.1))) : p := h y0_ y1_
theorem yq34 {p : Prop} {p0_ : Prop} (y0_ : p0_) (h : p0_ → p := by intro x0_; (with_reducible repeat (first | refine zak ?_ _ | refine zan ?_ | refine blk_alloc ?_ _)); refine zaV (cs := #[.int .u8 zaw, .int .i64 zaP, .bool t221, .int .i64 t228, .int .i64 0]) ?_ 4 _ rfl; (with_reducible repeat (first | refine zak ?_ _ | refine zan ?_ | refine blk_alloc ?_ _)); refine zaV (cs := #[.int .u8 zaw, .int .i64 zaP, .bool t221, .int .i64 0, .int .i64 0]) ?_ 3 _ rfl; (with_reducible repeat (first | refine zak ?_ _ | refine zan ?_ | refine blk_alloc ?_ _)); exact x0_) : p := h y0_
theorem yq35 {p : Prop} (h : p := by revert go; cases otherB f0 <;> simp) : p := h
theorem yq36 {p : Prop} (h : p := by first | omega | exact Nat.le_refl _) : p := h
theorem yq37 {p : Prop} {p0_ : Prop} (y0_ : p0_) {p1_ : Prop} (y1_ : p1_) {p2_ : Prop} (y2_ : p2_) (h : p0_ → p1_ → p2_ → p := by intro x0_ x1_ x2_; rw [bs_size]; have := x0_; have := x1_; have := x2_; omega) : p := h y0_ y1_ y2_
theorem yq38 {p : Prop} (h : p := by rfl) : p := h
theorem yq39 {p : Prop} {p0_ : Prop} (y0_ : p0_) {p1_ : Prop} (y1_ : p1_) {p2_ : Prop} (y2_ : p2_) (h : p0_ → p1_ → p2_ → p := by intro x0_ x1_ x2_; rw [x0_.1]; show wrap64 _ = _; rw [w64 yq10 (yq25 x1_ x2_)]; omega) : p := h y0_ y1_ y2_
theorem yq40 {p : Prop} {p0_ : Prop} (y0_ : p0_) {p1_ : Prop} (y1_ : p1_) (h : p0_ → p1_ → p := by intro x0_ x1_; repeat (first | (with_reducible first | exact x0_ | apply KeepBut.set_ | apply zay | apply keep_drew | apply keep_alloc | refine zaR ?_ x1_ _) | exact x0_)) : p := h y0_ y1_
theorem yq41 {p : Prop} (h : p := by decide) : p := h
theorem yq42 {p : Prop} {p0_ : Prop} (y0_ : p0_) (h : p0_ → p := by intro x0_; (with_reducible repeat (first | refine zak ?_ _ | refine zan ?_ | refine blk_alloc ?_ _)); refine zaV (cs := #[.int .u8 zaw, .int .i64 zaP, .bool false, .int .i64 0, .int .i64 0]) ?_ 2 _ rfl; (with_reducible repeat (first | refine zak ?_ _ | refine zan ?_ | refine blk_alloc ?_ _)); exact x0_) : p := h y0_
theorem yq43 {p : Prop} {p0_ : Prop} (y0_ : p0_) (h : p0_ → p := by intro x0_; (with_reducible repeat (first | refine zak ?_ _ | refine zan ?_ | refine blk_alloc ?_ _)); refine zaV (cs := #[.int .u8 zaw, .int .i64 0, .bool false, .int .i64 0, .int .i64 0]) ?_ 1 _ rfl; (with_reducible repeat (first | refine zak ?_ _ | refine zan ?_ | refine blk_alloc ?_ _)); exact x0_) : p := h y0_
theorem yq44 {p : Prop} {p0_ : Prop} (y0_ : p0_) (h : p0_ → p := by intro x0_; have := x0_; rw [gr] at this; exact this) : p := h y0_
theorem yq45 {p : Prop} (h : p := by rw [R]; first | done | rfl) : p := h
theorem yq46 {p : Prop} (h : p := by have := of_decide_eq_true hs; omega) : p := h
theorem yq47 {p : Prop} (h : p := by refine Ev.step (fun k => by rw [zal.j3]) ?_; refine Ev.bind (Ev.done a1) ?_; refine Ev.bind (Ev.done b1) ?_; refine Ev.bind c1 ?_; refine Ev.bind (Ev.done d1) ?_; refine Ev.pos rfl ?_; refine Ev.bind (Ev.done e1) ?_; refine Ev.bind f1 ?_; exact Ev.now _) : p := h
end Go.Proofs
