/- Parts of a proof: words of the print tool that this claim uses, or plain lists. -/
import Derived.Test.YtfafjbolmeimmaaGreatDoorY1
import Derived.Test.YtfafjbolmeimmaaGreatDoorY15
import Derived.Test.YtfafjbolmeimmaaGreatDoorF6
import Derived.Test.YtfafjbolmeimmaaGreatDoorF5
import Derived.Test.YtfafjbolmeimmaaGreatDoorF4
import Derived.Test.YtfafjbolmeimmaaGreatDoorXKi
namespace Go.Proofs.YtfafjbolmeimmaaGreatDoor.P
open Go.RowKit Go.Proofs.YtfafjbolmeimmaaGreatDoorW.PrintWords
set_option linter.unusedVariables false
theorem rdS (l : List ByteArray) (i : Nat) (h : i < l.length) : rdOf ByteArray.empty l (i : Int) = l[i] := by simp [rdOf, h]
theorem szS_l (l : List ByteArray) (hl : l.length ≤ 9223372036854775807) (hs : ∀ s ∈ l, s.size ≤ 9223372036854775807) : ∀ (d i : Nat), l.length - i = d → i ≤ l.length → ∀ a : Int, 0 ≤ a → a ≤ 1048576 →
  ∃ r, Ev (fun k => zaI.l0 k l a (i : Int)) r ∧ r ≤ a ∧ (0 ≤ r → ∀ s ∈ l.drop i, s.size ≤ 1048576) := by
 intro d
 induction d with
 | zero =>
  intro i hd hi a h0 h1
  refine ⟨a, Ev.step (fun k => by rw [zaI.l0]) (Ev.neg (by omega) (Ev.now _)), Int.le_refl _, fun _ s hm => ?_⟩
  rw [List.drop_eq_nil_of_le (by omega)] at hm
  cases hm
 | succ d ih =>
  intro i hd hi a h0 h1
  have hlt : i < l.length := by omega
  have hz := hs l[i] (List.getElem_mem hlt)
  have e3 : wrap64 (a - (l[i].size : Int)) = a - (l[i].size : Int) := w64 (by omega) (by omega)
  have e2 : wrap64 ((i : Int) + 1) = ((i + 1 : Nat) : Int) := by rw [w64 (by omega) (by omega)]; omega
  by_cases hn : a - (l[i].size : Int) < 0
  ·refine ⟨-1, Ev.step (fun k => by rw [zaI.l0]) (Ev.pos (by omega) (Ev.pos (by omega) ?_)), by omega, fun h => by omega⟩
   rw [rdS l i hlt, e3]
   exact Ev.pos hn (Ev.now _)
  obtain ⟨r, hr, hra, hrs⟩ := ih (i + 1) (by omega) (by omega) (a - (l[i].size : Int)) (by omega) (by omega)
  refine ⟨r, Ev.step (fun k => by rw [zaI.l0]) (Ev.pos (by omega) (Ev.pos (by omega) ?_)), by omega, fun h s hm => ?_⟩
  ·rw [rdS l i hlt, e3, e2]
   exact Ev.neg hn hr
  rw [List.drop_eq_getElem_cons hlt] at hm
  rcases List.mem_cons.1 hm with rfl | h2
  ·omega
  exact hrs h s h2
theorem szS_f (l : List ByteArray) (hl : l.length ≤ 9223372036854775807) (hs : ∀ s ∈ l, s.size ≤ 9223372036854775807) (a : Int) (h0 : 0 ≤ a) (h1 : a ≤ 1048576) :
  ∃ r, Ev (fun k => zaI.f k l a) r ∧ r ≤ a ∧ (0 ≤ r → l.length ≤ 1048576 ∧ ∀ s ∈ l, s.size ≤ 1048576) := by
 have e3 : wrap64 (a - (l.length : Int)) = a - (l.length : Int) := w64 (by omega) (by omega)
 by_cases hn : a - (l.length : Int) < 0
 ·refine ⟨-1, ?_, by omega, fun h => by omega⟩
  unfold zaI.f
  rw [e3]
  exact Ev.pos hn (Ev.now _)
 obtain ⟨r, hr, hra, hrs⟩ := szS_l l hl hs _ 0 rfl (by omega) (a - (l.length : Int)) (by omega) (by omega)
 refine ⟨r, ?_, by omega, fun h => ⟨by omega, fun s hm => hrs h s (by simpa using hm)⟩⟩
 unfold zaI.f
 rw [e3]
 exact Ev.neg hn hr
theorem copy_step {α : Type} (l : List α) (d : α) (i : Nat) (h : i < l.length) : ((l.take i ++ List.replicate (l.length - i) d).set i l[i]) = l.take (i + 1) ++ List.replicate (l.length - (i + 1)) d := by
 apply List.ext_getElem
 ·simp; omega
 intro j h1 h2
 simp at h1
 rw [List.getElem_set]
 by_cases e : i = j
 ·subst e
  rw [if_pos rfl, List.getElem_append_left (by simp; omega)]
  simp
 rw [if_neg e]
 by_cases c : j < i
 ·rw [List.getElem_append_left (by simp; omega), List.getElem_append_left (by simp; omega)]
  simp
 rw [List.getElem_append_right (by simp; omega), List.getElem_append_right (by simp; omega)]
 simp
theorem toS_l (l : List ByteArray) (hl : l.length ≤ 1099511627776) : ∀ (d i : Nat), l.length - i = d → i ≤ l.length →
  Ev (fun k => zaU.l0 k l (l.take i ++ List.replicate (l.length - i) (⟨#[]⟩ : ByteArray)) (i : Int)) l := by
 intro d
 induction d with
 | zero =>
  intro i hd hi
  obtain rfl : i = l.length := by omega
  refine Ev.step (fun k => by rw [zaU.l0]) (Ev.neg (by omega) ((Ev.now _).to ?_))
  simp
 | succ d ih =>
  intro i hd hi
  have hlt : i < l.length := by omega
  have e2 := w_succ i (by omega)
  refine Ev.step (fun k => by rw [zaU.l0]) (Ev.pos (by omega) (Ev.pos (by omega) (Ev.pos (by simp; omega) ?_)))
  rw [rdS l i hlt, e2, Int.toNat_natCast, copy_step l _ i hlt]
  exact ih (i + 1) (by omega) (by omega)
theorem toS_f (l : List ByteArray) (hl : l.length ≤ 1099511627776) : Ev (fun k => zaU.f k l) l := by
 have h := toS_l l hl _ 0 rfl (by omega)
 refine Ev.pos (by omega) (Ev.pos (by omega) ?_)
 rw [Int.toNat_natCast]
 simpa using h
end Go.Proofs.YtfafjbolmeimmaaGreatDoor.P
namespace Go.Proofs.YtfafjbolmeimmaaGreatDoor.P
open Go.RowKit Go.Proofs.YtfafjbolmeimmaaGreatDoorW.PrintWords Go.Proofs.YtfafjbolmeimmaaGreatDoorW.PrintLast Go.Proofs.YtfafjbolmeimmaaGreatDoorW.PrintMore
attribute [local go_sem] max2_int min2_int max_two min_two zbk zbl max_four min_four
set_option linter.unusedVariables false
set_option linter.unusedSimpArgs false
def impl_Category.f (k : Nat) (a0 : Int) : Option (Int) := (impl_kind.f k a0).bind fun bt298 => (some bt298.1)
set_option maxHeartbeats 8000000 in
set_option maxRecDepth 100000 in
theorem impl_Category.calls (k : Nat) (a0 : Int) (r : Int) (w : World) (h : impl_Category.f k a0 = some r) :
  Calls Tryz.prog 79 #[.int .i64 a0] w fun e w' => e = .returned (.int .i64 r) ∧ zau w w' := by
 have H : ((impl_kind.f k a0).bind fun bt298 => (some bt298.1)) = some r := h
 clear h; replace H := Option.bind_eq_some_iff.mp H
 obtain ⟨⟨t298, t299⟩, A20, H⟩ := H
 replace H : (some t298) = some r := H
 have A2 := zab.mk A20; clear A20; obtain rfl := Option.some.inj H
 go_enter Tryz.func79, Tryz.ntmps79
 go_wp2_with (first | ((with_reducible refine zav (f := 104) rfl ?_); refine za3 (some 7) rfl rfl Tryz.func104 (by kernel_rfl) rfl #[.int .i64 a0] rfl (by (try simp only [List.map_toArray, List.map_cons, List.map_nil]); first | done | rfl | (simp only [List.length_drop, List.length_take]; rfl)) ?_; (with_reducible refine (impl_kind.calls k a0 t298 t299 _ A2.out).mono ?_); rintro e w' ⟨rfl, ⟨nd, rfl⟩⟩; refine ⟨_, rfl, ?_⟩))
 go_ret
 exact ⟨by first | rfl | (simp; done) | (simp [*]; done), by repeat (first | exact zau.refl _ | apply zau.step)⟩
def impl_isDigit.f (k : Nat) (a0 : Int) : Option (Bool) := (impl_Category.f k a0).bind fun t300 => (some (t300 == 8))
set_option maxHeartbeats 8000000 in
set_option maxRecDepth 100000 in
theorem impl_isDigit.calls (k : Nat) (a0 : Int) (r : Bool) (w : World) (h : impl_isDigit.f k a0 = some r) :
  Calls Tryz.prog 45 #[.int .i64 a0] w fun e w' => e = .returned (.bool r) ∧ zau w w' := by
 have H : ((impl_Category.f k a0).bind fun t300 => (some (t300 == 8))) = some r := h
 clear h; replace H := Option.bind_eq_some_iff.mp H
 obtain ⟨t300, A20, H⟩ := H
 replace H : (some (t300 == 8)) = some r := H
 have A2 := zab.mk A20; clear A20; obtain rfl := Option.some.inj H
 go_enter Tryz.func45, Tryz.ntmps45
 go_wp2_with (first | ((with_reducible refine zav (f := 79) rfl ?_); refine za3 (some 4) rfl rfl Tryz.func79 (by kernel_rfl) rfl #[.int .i64 a0] rfl (by (try simp only [List.map_toArray, List.map_cons, List.map_nil]); first | done | rfl | (simp only [List.length_drop, List.length_take]; rfl)) ?_; (with_reducible refine (impl_Category.calls k a0 t300 _ A2.out).mono ?_); rintro e w' ⟨rfl, ⟨nd, rfl⟩⟩; refine ⟨_, rfl, ?_⟩))
 go_ret
 exact ⟨by first | rfl | (simp; done) | (simp [*]; done), by repeat (first | exact zau.refl _ | apply zau.step)⟩
end Go.Proofs.YtfafjbolmeimmaaGreatDoor.P
namespace Go.Proofs.YtfafjbolmeimmaaGreatDoor.P
open Go.RowKit Go.Proofs.YtfafjbolmeimmaaGreatDoorW.PrintWords Go.Proofs.YtfafjbolmeimmaaGreatDoorW.PrintLast Go.Proofs.YtfafjbolmeimmaaGreatDoorW.PrintMore
attribute [local go_sem] max2_int min2_int max_two min_two zbk zbl max_four min_four
set_option linter.unusedVariables false
set_option linter.unusedSimpArgs false
def impl_well.f (a0 : ByteArray) : Option (Bool) := (utf8_ValidString.f a0).bind fun t297 => (some t297)
set_option maxHeartbeats 8000000 in
set_option maxRecDepth 100000 in
theorem impl_well.calls (a0 : ByteArray) (r : Bool) (w : World) (hG : GT w) (h : impl_well.f a0 = some r) :
  Calls Tryz.prog 43 #[.string a0] w fun e w' => e = .returned (.bool r) ∧ Below w.heap.size w w' := by
 have HG := zab.mk hG; clear hG
 have HB := zab.mk (Below.refl w.heap.size w)
 have H : ((utf8_ValidString.f a0).bind fun t297 => (some t297)) = some r := h
 clear h; replace H := Option.bind_eq_some_iff.mp H
 obtain ⟨t297, A20, H⟩ := H
 replace H : (some t297) = some r := H
 have A2 := zab.mk A20; clear A20; obtain rfl := Option.some.inj H
 go_enter Tryz.func43, Tryz.ntmps43
 go_wp2_with (first | ((with_reducible refine zav (f := 77) rfl ?_); refine za3 (some 4) rfl rfl Tryz.func77 (by kernel_rfl) rfl #[.string a0] rfl (by (try simp only [List.map_toArray, List.map_cons, List.map_nil]); first | done | rfl | (simp only [List.length_drop, List.length_take]; rfl)) ?_; (with_reducible refine (utf8_ValidString.calls a0 t297 _ ?side1 A2.out).mono ?_); (case side1 => exact GT_below HG.out (by repeat (first | (with_reducible first | exact HB.out | apply zaf | apply zac | apply zae) | exact HB.out))); rintro e w3 ⟨rfl, hb⟩; refine ⟨_, rfl, ?_⟩; have n0_ := zab.mk (zaq (by repeat (first | (with_reducible first | exact HB.out | apply zaf | apply zac | apply zae) | exact HB.out)) hb); clear HB; have HB := n0_; clear n0_; (try clear hb); (try clear hb2); (try clear hk); (try clear hi)))
 go_ret
 exact ⟨by first | rfl | (simp [zam, zan] <;> rfl) | (simp [*, zam, zan] <;> rfl), by repeat (first | (with_reducible first | exact HB.out | apply zaf | apply zac | apply zae) | exact HB.out)⟩
end Go.Proofs.YtfafjbolmeimmaaGreatDoor.P
