/- Parts of a proof: words of the print tool that this claim uses, or plain lists. -/
import Derived.Test.YtfafjbolmeimmaaGreatDoorAb
import Derived.Test.YtfafjbolmeimmaaGreatDoorF16
import Derived.Test.YtfafjbolmeimmaaGreatDoorF7
import Derived.Test.YtfafjbolmeimmaaGreatDoorJ27
import Derived.Test.YtfafjbolmeimmaaGreatDoorJ24
import Derived.Test.YtfafjbolmeimmaaGreatDoorXZl
namespace Go.Proofs.YtfafjbolmeimmaaGreatDoor.P
open Go.RowKit Go.Proofs.YtfafjbolmeimmaaGreatDoorW.PrintWords Go.Proofs.YtfafjbolmeimmaaGreatDoorW.PrintLast Go.Proofs.YtfafjbolmeimmaaGreatDoorW.PrintMore
set_option linter.unusedVariables false
set_option linter.unusedSimpArgs false
theorem za4.same_l (l : List ByteArray) (hl : l.length ≤ 1073741824) : ∀ (d i : Nat), l.length - i = d → i ≤ l.length → Ev (fun k => za4.l0 k l l (i : Int)) true := by
 intro d
 induction d with
 | zero =>
  intro i hd hi
  refine Ev.step (fun k => by rw [za4.l0]) ?_
  exact Ev.neg yq12 (Ev.now _)
 | succ d ih =>
  intro i hd hi
  refine Ev.step (fun k => by rw [za4.l0]) ?_
  refine Ev.pos yq12 (Ev.pos yq12 (Ev.pos yq12 ?_))
  rw [w_succ i yq12]
  exact Ev.pos rfl (ih (i + 1) yq12 yq12)
theorem za4.same (l : List ByteArray) (hl : l.length ≤ 1073741824) : Ev (fun k => za4.f k l l) true := Ev.pos rfl (za4.same_l l hl _ 0 rfl yq12)
theorem zbl.same_l (l : List Int) (hl : l.length ≤ 1073741824) : ∀ (d i : Nat), l.length - i = d → i ≤ l.length → Ev (fun k => zbl.l0 k l l (i : Int)) true := by
 intro d
 induction d with
 | zero =>
  intro i hd hi
  refine Ev.step (fun k => by rw [zbl.l0]) ?_
  exact Ev.neg yq12 (Ev.now _)
 | succ d ih =>
  intro i hd hi
  refine Ev.step (fun k => by rw [zbl.l0]) ?_
  refine Ev.pos yq12 (Ev.pos yq12 (Ev.pos yq12 ?_))
  rw [w_succ i yq12]
  exact Ev.pos rfl (ih (i + 1) yq12 yq12)
theorem zbl.same (l : List Int) (hl : l.length ≤ 1073741824) : Ev (fun k => zbl.f k l l) true := Ev.pos rfl (zbl.same_l l hl _ 0 rfl yq12)
theorem zaE.same_l (l : List S58) (hl : l.length ≤ 1073741824) : ∀ (d i : Nat), l.length - i = d → i ≤ l.length → Ev (fun k => zaE.l0 k l l (i : Int)) true := by
 intro d
 induction d with
 | zero =>
  intro i hd hi
  refine Ev.step (fun k => by rw [zaE.l0]) ?_
  exact Ev.neg yq12 (Ev.now _)
 | succ d ih =>
  intro i hd hi
  refine Ev.step (fun k => by rw [zaE.l0]) ?_
  refine Ev.pos yq12 (Ev.pos yq12 (Ev.pos yq12 ?_))
  rw [w_succ i yq12]
  refine Ev.bind (r := true) (Ev.done (by unfold laws_eqPluralRule.f; rw [if_pos rfl, if_pos rfl])) ?_
  exact Ev.pos rfl (ih (i + 1) yq12 yq12)
theorem zaE.same (l : List S58) (hl : l.length ≤ 1073741824) : Ev (fun k => zaE.f k l l) true := Ev.pos rfl (zaE.same_l l hl _ 0 rfl yq12)
set_option maxHeartbeats 8000000 in
set_option maxRecDepth 100000 in
theorem eqLoc_same (a0_0 : ByteArray) (a0_1 : ByteArray) (a0_2 : ByteArray) (a0_3 : ByteArray) (a0_4 : ByteArray) (A0_5 : Option Addr) (c0_5 : Nat) (l0_5 : List Int) (a0_6 : Int) (A0_7 : Option Addr) (c0_7 : Nat) (l0_7 : List S58) (a0_8 : ByteArray) (a0_9 : ByteArray) (a0_10 : ByteArray) (a0_11 : ByteArray) (A0_12 : Option Addr) (c0_12 : Nat) (l0_12 : List ByteArray) (A0_13 : Option Addr) (c0_13 : Nat) (l0_13 : List ByteArray) (a0_14 : ByteArray) (A1_5 : Option Addr) (c1_5 : Nat) (A1_7 : Option Addr) (c1_7 : Nat) (A1_12 : Option Addr) (c1_12 : Nat) (A1_13 : Option Addr) (c1_13 : Nat) (w : World) (hr0_5 : Kd.C (Kd.int .i64) w A0_5 l0_5.length l0_5) (hc0_5 : l0_5.length ≤ c0_5) (hr0_7 : Kd.C k58 w A0_7 l0_7.length l0_7) (hc0_7 : l0_7.length ≤ c0_7) (hr0_12 : Kd.C Kd.string w A0_12 l0_12.length l0_12) (hc0_12 : l0_12.length ≤ c0_12) (hr0_13 : Kd.C Kd.string w A0_13 l0_13.length l0_13) (hc0_13 : l0_13.length ≤ c0_13) (hr1_5 : Kd.C (Kd.int .i64) w A1_5 l0_5.length l0_5) (hc1_5 : l0_5.length ≤ c1_5) (hr1_7 : Kd.C k58 w A1_7 l0_7.length l0_7) (hc1_7 : l0_7.length ≤ c1_7) (hr1_12 : Kd.C Kd.string w A1_12 l0_12.length l0_12) (hc1_12 : l0_12.length ≤ c1_12) (hr1_13 : Kd.C Kd.string w A1_13 l0_13.length l0_13) (hc1_13 : l0_13.length ≤ c1_13) (n5 : l0_5.length ≤ 1073741824) (n7 : l0_7.length ≤ 1073741824) (n12 : l0_12.length ≤ 1073741824) (n13 : l0_13.length ≤ 1073741824) :
  Calls Tryz.prog 12 #[.agg #[.string a0_0, .string a0_1, .string a0_2, .string a0_3, .string a0_4, .slice A0_5 l0_5.length c0_5, .int .i64 a0_6, .slice A0_7 l0_7.length c0_7, .string a0_8, .string a0_9, .string a0_10, .string a0_11, .slice A0_12 l0_12.length c0_12, .slice A0_13 l0_13.length c0_13, .string a0_14], .agg #[.string a0_0, .string a0_1, .string a0_2, .string a0_3, .string a0_4, .slice A1_5 l0_5.length c1_5, .int .i64 a0_6, .slice A1_7 l0_7.length c1_7, .string a0_8, .string a0_9, .string a0_10, .string a0_11, .slice A1_12 l0_12.length c1_12, .slice A1_13 l0_13.length c1_13, .string a0_14]] w fun e w' => e = .returned (.bool true) ∧ Below w.heap.size w w' := by
 have E5 : zaa (CW w 50 #[.slice A0_5 l0_5.length c0_5, .slice A1_5 l0_5.length c1_5] (.bool true)) := ⟨fun w1 hb => by
  obtain ⟨k, h⟩ := ev_some (zbl.same l0_5 n5)
  exact (zbl.calls k A0_5 c0_5 l0_5 A1_5 c1_5 l0_5 true w1 (Kd.za3 hr0_5 hb) hc0_5 (Kd.za3 hr1_5 hb) hc1_5 h).mono fun _ _ h => ⟨h.1, drawn_bl h.2⟩⟩
 have E7 : zaa (CW w 51 #[.slice A0_7 l0_7.length c0_7, .slice A1_7 l0_7.length c1_7] (.bool true)) := ⟨fun w1 hb => by
  obtain ⟨k, h⟩ := ev_some (zaE.same l0_7 n7)
  exact (zaE.calls k A0_7 c0_7 l0_7 A1_7 c1_7 l0_7 true w1 (Kd.za3 hr0_7 hb) hc0_7 (Kd.za3 hr1_7 hb) hc1_7 h)⟩
 have E12 : zaa (CW w 22 #[.slice A0_12 l0_12.length c0_12, .slice A1_12 l0_12.length c1_12] (.bool true)) := ⟨fun w1 hb => by
  obtain ⟨k, h⟩ := ev_some (za4.same l0_12 n12)
  exact (za4.calls k A0_12 c0_12 l0_12 A1_12 c1_12 l0_12 true w1 (Kd.za3 hr0_12 hb) hc0_12 (Kd.za3 hr1_12 hb) hc1_12 h).mono fun _ _ h => ⟨h.1, drawn_bl h.2⟩⟩
 have E13 : zaa (CW w 22 #[.slice A0_13 l0_13.length c0_13, .slice A1_13 l0_13.length c1_13] (.bool true)) := ⟨fun w1 hb => by
  obtain ⟨k, h⟩ := ev_some (za4.same l0_13 n13)
  exact (za4.calls k A0_13 c0_13 l0_13 A1_13 c1_13 l0_13 true w1 (Kd.za3 hr0_13 hb) hc0_13 (Kd.za3 hr1_13 hb) hc1_13 h).mono fun _ _ h => ⟨h.1, drawn_bl h.2⟩⟩
 clear hr0_5 hc0_5 hr0_7 hc0_7 hr0_12 hc0_12 hr0_13 hc0_13 hr1_5 hc1_5 hr1_7 hc1_7 hr1_12 hc1_12 hr1_13 hc1_13 n5 n7 n12 n13
 go_enter Tryz.func12, Tryz.ntmps12
 go_upto_region 1 with (first | ((with_reducible refine zaO (N := 2) rfl ?_); refine zaT ?hg (N := 2) ?hd (cs := #[.string a0_0, .string a0_1, .string a0_2, .string a0_3, .string a0_4, .slice A0_5 l0_5.length c0_5, .int .i64 a0_6, .slice A0_7 l0_7.length c0_7, .string a0_8, .string a0_9, .string a0_10, .string a0_11, .slice A0_12 l0_12.length c0_12, .slice A0_13 l0_13.length c0_13, .string a0_14]) (t := 31) ?hr ?_; (case hd => rfl); (case hg => rfl); (case hr => first | (go_simp; done) | (go_simp; rfl)); intro gb hg wb hbox hb; have L : zaa (LS w wb gb (locV a0_0 a0_1 a0_2 a0_3 a0_4 (.slice A0_5 l0_5.length c0_5) a0_6 (.slice A0_7 l0_7.length c0_7) a0_8 a0_9 a0_10 a0_11 (.slice A0_12 l0_12.length c0_12) (.slice A0_13 l0_13.length c0_13) a0_14)) := ⟨⟨zao (Below.refl _ _) hb, hbox, by rw [hg]; exact Nat.le_refl _⟩⟩; clear hb hbox hg) | ((with_reducible refine zaO (N := 3) rfl ?_); refine zaT ?hg (N := 3) ?hd (cs := #[.string a0_0, .string a0_1, .string a0_2, .string a0_3, .string a0_4, .slice A1_5 l0_5.length c1_5, .int .i64 a0_6, .slice A1_7 l0_7.length c1_7, .string a0_8, .string a0_9, .string a0_10, .string a0_11, .slice A1_12 l0_12.length c1_12, .slice A1_13 l0_13.length c1_13, .string a0_14]) (t := 31) ?hr ?_; (case hd => rfl); (case hg => rfl); (case hr => first | (go_simp; done) | (go_simp; rfl)); intro gc hg wc hbox hb; have M : zaa (LS w wc gc (locV a0_0 a0_1 a0_2 a0_3 a0_4 (.slice A1_5 l0_5.length c1_5) a0_6 (.slice A1_7 l0_7.length c1_7) a0_8 a0_9 a0_10 a0_11 (.slice A1_12 l0_12.length c1_12) (.slice A1_13 l0_13.length c1_13) a0_14)) := ⟨⟨zao L.out.b hb, hbox, by rw [hg]; exact zar L.out.b⟩⟩; have L1 := zaa.mk (L.out.step hb); clear L; have L := L1; clear L1 hb hbox hg) | fail)
 obtain ⟨k0, k1, k2, k3, k4, k5, k6, k7, k8, k9, k10, k11, k12, k13, k14⟩ := L.out.at
 obtain ⟨j0, j1, j2, j3, j4, j5, j6, j7, j8, j9, j10, j11, j12, j13, j14⟩ := M.out.at
 go_wp2_with (first | ((first | (go_at_call 50; with_reducible refine (CW.go E5.out L.out.b).mono ?_) | (go_at_call 51; with_reducible refine (CW.go E7.out L.out.b).mono ?_) | (go_at_call 22; with_reducible refine (CW.go E12.out L.out.b).mono ?_) | (go_at_call 22; with_reducible refine (CW.go E13.out L.out.b).mono ?_)); (rintro e wn ⟨rfl, hb⟩; have L1 := zaa.mk (L.out.step hb); have M1 := zaa.mk (M.out.step hb); clear L M hb k0 k1 k2 k3 k4 k5 k6 k7 k8 k9 k10 k11 k12 k13 k14 j0 j1 j2 j3 j4 j5 j6 j7 j8 j9 j10 j11 j12 j13 j14; have L := L1; have M := M1; clear L1 M1; obtain ⟨k0, k1, k2, k3, k4, k5, k6, k7, k8, k9, k10, k11, k12, k13, k14⟩ := L.out.at; obtain ⟨j0, j1, j2, j3, j4, j5, j6, j7, j8, j9, j10, j11, j12, j13, j14⟩ := M.out.at)) | fail)
 go_ret
 exact ⟨rfl, L.out.b⟩
end Go.Proofs.YtfafjbolmeimmaaGreatDoor.P
namespace Go.Proofs.YtfafjbolmeimmaaGreatDoor.P
open Go.RowKit Go.Proofs.YtfafjbolmeimmaaGreatDoorW.PrintWords
set_option linter.unusedVariables false
theorem toI_l (l : List Int) (hl : l.length ≤ 1099511627776) : ∀ (d i : Nat), l.length - i = d → i ≤ l.length →
  Ev (fun k => zbj.l0 k l (l.take i ++ List.replicate (l.length - i) (0 : Int)) (i : Int)) l := by
 intro d
 induction d with
 | zero =>
  intro i hd hi
  obtain rfl : i = l.length := by omega
  refine Ev.step (fun k => by rw [zbj.l0]) (Ev.neg yq12 ((Ev.now _).to ?_))
  simp
 | succ d ih =>
  intro i hd hi
  have hlt : i < l.length := by omega
  have e2 := w_succ i yq12
  refine Ev.step (fun k => by rw [zbj.l0]) (Ev.pos yq12 (Ev.pos yq12 (Ev.pos (by simp; omega) ?_)))
  rw [rd_get hlt, e2, Int.toNat_natCast, copy_step l _ i hlt]
  exact ih (i + 1) yq12 yq12
theorem toI_f (l : List Int) (hl : l.length ≤ 1099511627776) : Ev (fun k => zbj.f k l) l := by
 have h := toI_l l hl _ 0 rfl yq12
 refine Ev.pos yq12 (Ev.pos yq12 ?_)
 rw [Int.toNat_natCast]
 simpa using h
def plOf (x : S79) : S58 := ⟨x.f0, x.f1⟩
theorem copy_map {α β : Type} (f : α → β) (l : List α) (d : β) (i : Nat) (h : i < l.length) : (((l.map f).take i ++ List.replicate (l.length - i) d).set i (f l[i])) = (l.map f).take (i + 1) ++ List.replicate (l.length - (i + 1)) d := by
 have := copy_step (l.map f) d i (by simpa using h)
 simpa using this
theorem toP_l (l : List S79) (hl : l.length ≤ 1099511627776) : ∀ (d i : Nat), l.length - i = d → i ≤ l.length →
  Ev (fun k => zaQ.l0 k l ((l.map plOf).take i ++ List.replicate (l.length - i) z58) (i : Int)) (l.map plOf) := by
 intro d
 induction d with
 | zero =>
  intro i hd hi
  obtain rfl : i = l.length := by omega
  refine Ev.step (fun k => by rw [zaQ.l0]) (Ev.neg yq12 ((Ev.now _).to ?_))
  rw [Nat.sub_self, List.replicate_zero, List.append_nil]
  exact List.take_of_length_le yq26
 | succ d ih =>
  intro i hd hi
  have hlt : i < l.length := by omega
  have e2 := w_succ i yq12
  have e3 : rd_T79 l (i : Int) = l[i] := by simp [rd_T79, hlt]
  refine Ev.step (fun k => by rw [zaQ.l0]) ?_
  rw [e3, e2, Int.toNat_natCast]
  refine Ev.pos yq12 (Ev.pos yq12 (Ev.bind (a := (l[i].f0, l[i].f1)) (Ev.done rfl) (Ev.pos (by simp; omega) ?_)))
  have hc := copy_map plOf l z58 i hlt
  show Ev (fun k => zaQ.l0 k l (List.set _ i (plOf l[i])) _) _
  rw [hc]
  exact ih (i + 1) yq12 yq12
theorem toP_f (l : List S79) (hl : l.length ≤ 1099511627776) : Ev (fun k => zaQ.f k l) (l.map plOf) := by
 have h := toP_l l hl _ 0 rfl yq12
 refine Ev.pos yq12 (Ev.pos yq12 ?_)
 rw [Int.toNat_natCast]
 simpa using h
theorem toLoc_f (a0 a1 a2 a3 a4 : ByteArray) (l5 : List Int) (a6 : Int) (l7 : List S79) (a8 a9 a10 a11 : ByteArray) (l12 l13 : List ByteArray) (a14 : ByteArray) (h5 : l5.length ≤ 1099511627776) (h7 : l7.length ≤ 1099511627776) (h12 : l12.length ≤ 1099511627776) (h13 : l13.length ≤ 1099511627776) :
  Ev (fun k => laws_toLocale.f k a0 a1 a2 a3 a4 l5 a6 l7 a8 a9 a10 a11 l12 l13 a14) (a0, a1, a2, a3, a4, l5, a6, l7.map plOf, a8, a9, a10, a11, l12, l13, a14) :=
 Ev.bind (toI_f l5 h5) (Ev.bind (toP_f l7 h7) (Ev.bind (toS_f l12 h12) (Ev.bind (toS_f l13 h13) (Ev.now _))))
def bigT (s : ByteArray) : Prop := s.size ≤ 9223372036854775807
theorem szP1 (s t : ByteArray) (hs : bigT s) (ht : bigT t) (a : Int) (h0 : 0 ≤ a) (h1 : a ≤ 1048576) : ∃ r, laws_szPluralRule.f s t a = some r ∧ r ≤ a ∧ (0 ≤ r → s.size ≤ 1048576 ∧ t.size ≤ 1048576) := by
 unfold bigT at hs ht
 have e1 : wrap64 (a - (s.size : Int)) = a - (s.size : Int) := w64 yq12 yq12
 unfold laws_szPluralRule.f
 rw [e1]
 by_cases c1 : a - (s.size : Int) < 0
 ·rw [if_pos c1]
  exact ⟨-1, rfl, yq12, fun h => by omega⟩
 rw [if_neg c1]
 have e2 : wrap64 (a - (s.size : Int) - (t.size : Int)) = a - (s.size : Int) - (t.size : Int) := w64 yq12 yq12
 rw [e2]
 by_cases c2 : a - (s.size : Int) - (t.size : Int) < 0
 ·rw [if_pos c2]
  exact ⟨-1, rfl, yq12, fun h => by omega⟩
 rw [if_neg c2]
 exact ⟨_, rfl, yq12, fun h => by omega⟩
theorem szP_l (l : List S79) (hl : l.length ≤ 9223372036854775807) (hs : ∀ x ∈ l, bigT x.f0 ∧ bigT x.f1) : ∀ (d i : Nat), l.length - i = d → i ≤ l.length → ∀ a : Int, 0 ≤ a → a ≤ 1048576 →
  ∃ r, Ev (fun k => zaW.l0 k l a (i : Int)) r ∧ r ≤ a ∧ (0 ≤ r → ∀ x ∈ l.drop i, x.f0.size ≤ 1048576 ∧ x.f1.size ≤ 1048576) := by
 intro d
 induction d with
 | zero =>
  intro i hd hi a h0 h1
  refine ⟨a, Ev.step (fun k => by rw [zaW.l0]) (Ev.neg yq12 (Ev.now _)), Int.le_refl _, fun _ s hm => ?_⟩
  rw [List.drop_eq_nil_of_le yq12] at hm
  cases hm
 | succ d ih =>
  intro i hd hi a h0 h1
  have hlt : i < l.length := by omega
  have hz := hs l[i] (List.getElem_mem hlt)
  have e3 : rd_T79 l (i : Int) = l[i] := by simp [rd_T79, hlt]
  have e2 : wrap64 ((i : Int) + 1) = ((i + 1 : Nat) : Int) := by rw [w64 yq12 yq12]; omega
  obtain ⟨r1, hr1, hle, hsm⟩ := szP1 l[i].f0 l[i].f1 hz.1 hz.2 a h0 h1
  by_cases hn : r1 < 0
  ·refine ⟨-1, Ev.step (fun k => by rw [zaW.l0]) (Ev.pos yq12 (Ev.pos yq12 ?_)), yq12, fun h => by omega⟩
   rw [e3]
   exact Ev.bind (Ev.done hr1) (Ev.pos hn (Ev.now _))
  obtain ⟨r, hr, hra, hrs⟩ := ih (i + 1) yq12 yq12 r1 yq12 yq12
  refine ⟨r, Ev.step (fun k => by rw [zaW.l0]) (Ev.pos yq12 (Ev.pos yq12 ?_)), yq12, fun h s hm => ?_⟩
  ·rw [e3, e2]
   exact Ev.bind (Ev.done hr1) (Ev.neg hn hr)
  rw [List.drop_eq_getElem_cons hlt] at hm
  rcases List.mem_cons.1 hm with rfl | h2
  ·exact hsm yq12
  exact hrs h s h2
theorem szP_f (l : List S79) (hl : l.length ≤ 9223372036854775807) (hs : ∀ x ∈ l, bigT x.f0 ∧ bigT x.f1) (a : Int) (h0 : 0 ≤ a) (h1 : a ≤ 1048576) :
  ∃ r, Ev (fun k => zaW.f k l a) r ∧ r ≤ a ∧ (0 ≤ r → l.length ≤ 1048576 ∧ ∀ x ∈ l, x.f0.size ≤ 1048576 ∧ x.f1.size ≤ 1048576) := by
 have e3 : wrap64 (a - (l.length : Int)) = a - (l.length : Int) := w64 yq12 yq12
 by_cases hn : a - (l.length : Int) < 0
 ·refine ⟨-1, ?_, yq12, fun h => by omega⟩
  unfold zaW.f
  rw [e3]
  exact Ev.pos hn (Ev.now _)
 obtain ⟨r, hr, hra, hrs⟩ := szP_l l hl hs _ 0 rfl yq12 (a - (l.length : Int)) yq12 yq12
 refine ⟨r, ?_, yq12, fun h => ⟨yq12, fun s hm => hrs h s (by simpa using hm)⟩⟩
 unfold zaW.f
 rw [e3]
 exact Ev.neg hn hr
theorem szI_f (l : List Int) (hl : l.length ≤ 9223372036854775807) (a : Int) (h0 : 0 ≤ a) (h1 : a ≤ 1048576) : ∃ r, laws_szInt64S.f l a = some r ∧ r ≤ a ∧ (0 ≤ r → l.length ≤ 1048576) := by
 have e3 : wrap64 (a - (l.length : Int)) = a - (l.length : Int) := w64 yq12 yq12
 unfold laws_szInt64S.f
 rw [e3]
 by_cases hn : a - (l.length : Int) < 0
 ·rw [if_pos hn]; exact ⟨-1, rfl, yq12, fun h => by omega⟩
 rw [if_neg hn]; exact ⟨_, rfl, yq12, fun h => by omega⟩
end Go.Proofs.YtfafjbolmeimmaaGreatDoor.P
namespace Go.Proofs.YtfafjbolmeimmaaGreatDoor.P
open Go.RowKit Go.Proofs.YtfafjbolmeimmaaGreatDoorW.PrintWords
set_option linter.unusedVariables false
theorem sz_neg {c : Prop} [Decidable c] {A B : Nat → Option Int} {p : Int → Prop} (h : ¬ c) (hB : ∃ r, Ev B r ∧ p r) : ∃ r, Ev (fun k => if c then A k else B k) r ∧ p r := by
 obtain ⟨r, h1, h2⟩ := hB
 exact ⟨r, Ev.neg h h1, h2⟩
theorem sz_bind {g : Nat → Option Int} {f : Nat → Int → Option Int} {a : Int} {p : Int → Prop} (h : Ev g a) (hB : ∃ r, Ev (fun k => f k a) r ∧ p r) : ∃ r, Ev (fun k => (g k).bind (f k)) r ∧ p r := by
 obtain ⟨r, h1, h2⟩ := hB
 exact ⟨r, Ev.bind h h1, h2⟩
theorem small_of {s : ByteArray} (h : s.size ≤ 1048576) : smallT s = true := decide_eq_true yq12
theorem szLoc_g (a0 a1 a2 a3 a4 : ByteArray) (l5 : List Int) (a6 : Int) (l7 : List S79) (a8 a9 a10 a11 : ByteArray) (l12 l13 : List ByteArray) (a14 : ByteArray) (b0 : bigT a0) (b1 : bigT a1) (b2 : bigT a2) (b3 : bigT a3) (b4 : bigT a4) (b8 : bigT a8) (b9 : bigT a9) (b10 : bigT a10) (b11 : bigT a11) (b14 : bigT a14) (b5 : l5.length ≤ 9223372036854775807) (b7 : l7.length ≤ 9223372036854775807) (c7 : ∀ x ∈ l7, bigT x.f0 ∧ bigT x.f1) (b12 : l12.length ≤ 9223372036854775807) (c12 : ∀ s ∈ l12, s.size ≤ 9223372036854775807) (b13 : l13.length ≤ 9223372036854775807) (c13 : ∀ s ∈ l13, s.size ≤ 9223372036854775807) (y : Int) (y0 : 0 ≤ y) (y1 : y ≤ 1048576) :
  ∃ r, Ev (fun k => laws_szLocale.f k a0 a1 a2 a3 a4 l5 a6 l7 a8 a9 a10 a11 l12 l13 a14 y) r ∧ (r ≤ y ∧ (0 ≤ r → smallLoc a0 a1 a2 a3 a4 l5 (l7.map plOf) a8 a9 a10 a11 l12 l13 a14 = true)) := by
 unfold bigT at b0 b1 b2 b3 b4 b8 b9 b10 b11 b14
 unfold laws_szLocale.f
 have e1 : wrap64 (y - (a0.size : Int)) = y - (a0.size : Int) := w64 yq12 yq12
 obtain ⟨x1, h1⟩ : ∃ x : Int, x = y - (a0.size : Int) := ⟨_, rfl⟩
 rw [e1, ← h1]
 by_cases d1 : x1 < 0
 ·exact ⟨-1, Ev.pos d1 (Ev.now _), yq12, fun h => by omega⟩
 refine sz_neg d1 ?_
 have e2 : wrap64 (x1 - (a1.size : Int)) = x1 - (a1.size : Int) := w64 yq12 yq12
 obtain ⟨x2, h2⟩ : ∃ x : Int, x = x1 - (a1.size : Int) := ⟨_, rfl⟩
 rw [e2, ← h2]
 by_cases d2 : x2 < 0
 ·exact ⟨-1, Ev.pos d2 (Ev.now _), yq12, fun h => by omega⟩
 refine sz_neg d2 ?_
 have e3 : wrap64 (x2 - (a2.size : Int)) = x2 - (a2.size : Int) := w64 yq12 yq12
 obtain ⟨x3, h3⟩ : ∃ x : Int, x = x2 - (a2.size : Int) := ⟨_, rfl⟩
 rw [e3, ← h3]
 by_cases d3 : x3 < 0
 ·exact ⟨-1, Ev.pos d3 (Ev.now _), yq12, fun h => by omega⟩
 refine sz_neg d3 ?_
 have e4 : wrap64 (x3 - (a3.size : Int)) = x3 - (a3.size : Int) := w64 yq12 yq12
 obtain ⟨x4, h4⟩ : ∃ x : Int, x = x3 - (a3.size : Int) := ⟨_, rfl⟩
 rw [e4, ← h4]
 by_cases d4 : x4 < 0
 ·exact ⟨-1, Ev.pos d4 (Ev.now _), yq12, fun h => by omega⟩
 refine sz_neg d4 ?_
 have e5 : wrap64 (x4 - (a4.size : Int)) = x4 - (a4.size : Int) := w64 yq12 yq12
 obtain ⟨x5, h5⟩ : ∃ x : Int, x = x4 - (a4.size : Int) := ⟨_, rfl⟩
 rw [e5, ← h5]
 by_cases d5 : x5 < 0
 ·exact ⟨-1, Ev.pos d5 (Ev.now _), yq12, fun h => by omega⟩
 refine sz_neg d5 ?_
 obtain ⟨x6, r6, q6, s6⟩ := szI_f l5 b5 x5 yq12 yq12
 refine sz_bind (Ev.done r6) ?_
 by_cases d6 : x6 < 0
 ·exact ⟨-1, Ev.pos d6 (Ev.now _), yq12, fun h => by omega⟩
 refine sz_neg d6 ?_
 obtain ⟨x7, r7, q7, s7⟩ := szP_f l7 b7 c7 x6 yq12 yq12
 refine sz_bind r7 ?_
 by_cases d7 : x7 < 0
 ·exact ⟨-1, Ev.pos d7 (Ev.now _), yq12, fun h => by omega⟩
 refine sz_neg d7 ?_
 have e8 : wrap64 (x7 - (a8.size : Int)) = x7 - (a8.size : Int) := w64 yq12 yq12
 obtain ⟨x8, h8⟩ : ∃ x : Int, x = x7 - (a8.size : Int) := ⟨_, rfl⟩
 rw [e8, ← h8]
 by_cases d8 : x8 < 0
 ·exact ⟨-1, Ev.pos d8 (Ev.now _), yq12, fun h => by omega⟩
 refine sz_neg d8 ?_
 have e9 : wrap64 (x8 - (a9.size : Int)) = x8 - (a9.size : Int) := w64 yq12 yq12
 obtain ⟨x9, h9⟩ : ∃ x : Int, x = x8 - (a9.size : Int) := ⟨_, rfl⟩
 rw [e9, ← h9]
 by_cases d9 : x9 < 0
 ·exact ⟨-1, Ev.pos d9 (Ev.now _), yq12, fun h => by omega⟩
 refine sz_neg d9 ?_
 have e10 : wrap64 (x9 - (a10.size : Int)) = x9 - (a10.size : Int) := w64 yq12 yq12
 obtain ⟨x10, h10⟩ : ∃ x : Int, x = x9 - (a10.size : Int) := ⟨_, rfl⟩
 rw [e10, ← h10]
 by_cases d10 : x10 < 0
 ·exact ⟨-1, Ev.pos d10 (Ev.now _), yq12, fun h => by omega⟩
 refine sz_neg d10 ?_
 have e11 : wrap64 (x10 - (a11.size : Int)) = x10 - (a11.size : Int) := w64 yq12 yq12
 obtain ⟨x11, h11⟩ : ∃ x : Int, x = x10 - (a11.size : Int) := ⟨_, rfl⟩
 rw [e11, ← h11]
 by_cases d11 : x11 < 0
 ·exact ⟨-1, Ev.pos d11 (Ev.now _), yq12, fun h => by omega⟩
 refine sz_neg d11 ?_
 obtain ⟨x12, r12, q12, s12⟩ := szS_f l12 b12 c12 x11 yq12 yq12
 refine sz_bind r12 ?_
 by_cases d12 : x12 < 0
 ·exact ⟨-1, Ev.pos d12 (Ev.now _), yq12, fun h => by omega⟩
 refine sz_neg d12 ?_
 obtain ⟨x13, r13, q13, s13⟩ := szS_f l13 b13 c13 x12 yq12 yq12
 refine sz_bind r13 ?_
 by_cases d13 : x13 < 0
 ·exact ⟨-1, Ev.pos d13 (Ev.now _), yq12, fun h => by omega⟩
 refine sz_neg d13 ?_
 have e14 : wrap64 (x13 - (a14.size : Int)) = x13 - (a14.size : Int) := w64 yq12 yq12
 obtain ⟨x14, h14⟩ : ∃ x : Int, x = x13 - (a14.size : Int) := ⟨_, rfl⟩
 rw [e14, ← h14]
 by_cases d14 : x14 < 0
 ·exact ⟨-1, Ev.pos d14 (Ev.now _), yq12, fun h => by omega⟩
 refine sz_neg d14 ?_
 refine ⟨x14, Ev.now _, yq12, fun _ => ?_⟩
 obtain ⟨u7, v7⟩ := s7 yq12
 obtain ⟨u12, v12⟩ := s12 yq12
 obtain ⟨u13, v13⟩ := s13 yq12
 have u5 := s6 yq12
 unfold smallLoc
 simp only [List.all_cons, List.all_nil, Bool.and_true, Bool.and_eq_true, decide_eq_true_eq, List.length_map]
 refine ⟨⟨⟨⟨⟨⟨⟨⟨small_of yq12, small_of yq12, small_of yq12, small_of yq12, small_of yq12, small_of yq12, small_of yq12, small_of yq12, small_of yq12, small_of yq12⟩, yq12⟩, yq12⟩, ?_⟩, yq12⟩, ?_⟩, yq12⟩, ?_⟩
 ·rw [List.all_eq_true]
  intro x hx
  obtain ⟨y, hy, rfl⟩ := List.mem_map.1 hx
  have := v7 y hy
  rw [Bool.and_eq_true]
  exact ⟨small_of this.1, small_of this.2⟩
 ·exact List.all_eq_true.2 (fun s hs => small_of (v12 s hs))
 exact List.all_eq_true.2 (fun s hs => small_of (v13 s hs))
end Go.Proofs.YtfafjbolmeimmaaGreatDoor.P
