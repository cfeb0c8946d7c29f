/- Locales, plain: signs, frames, labels; what is asked of a locale. -/
import Derived.Test.YtfafjbolmeimmaaGreatDoorF13
import Derived.Test.YtfafjbolmeimmaaGreatDoorF10
import Derived.Test.YtfafjbolmeimmaaGreatDoorF12
import Derived.Test.YtfafjbolmeimmaaGreatDoorF7
import Derived.Test.YtfafjbolmeimmaaGreatDoorF11
namespace Go.Proofs.YtfafjbolmeimmaaGreatDoor.P
open Go.RowKit Go.Proofs.YtfafjbolmeimmaaGreatDoorW.PrintWords
set_option linter.unusedVariables false
theorem sCat_ev (p : Int) (h0 : 0 ≤ p) (h1 : p < 1000000000) : Ev (fun k => spec_l01Cat.f k p) (kd p).1 := by
 unfold spec_l01Cat.f
 exact Ev.bind (known_ev p h0 h1) (Ev.now _)
def digB (p : Int) : Bool := (kd p).1 == 8
theorem isDigit_ev (p : Int) (h0 : 0 ≤ p) : Ev (fun k => impl_isDigit.f k p) (digB p) := by
 unfold impl_isDigit.f impl_Category.f
 exact Ev.bind (Ev.bind (kind_ev p h0) (Ev.now _)) (Ev.now _)
def okB (s : ByteArray) : Bool := goodFrom s 0
theorem tl_eq (a b : ByteArray) : (a.toList == b.toList) = decide (a = b) := by
 by_cases h : a = b
 ·subst h; simp
 rw [decide_eq_false h]
 refine beq_eq_false_iff_ne.2 (fun e => h ?_)
 rw [ByteArray.toList_eq, ByteArray.toList_eq] at e
 exact ByteArray.ext (Array.toList_inj.1 e)
theorem txt_tl (s : ByteArray) : ((txt (pts s)).toList == s.toList) = okB s := by
 rw [tl_eq]
 unfold okB
 cases h : goodFrom s 0 with
 | true => exact decide_eq_true ((txt_back s).2 h)
 | false => exact decide_eq_false (fun e => by rw [(txt_back s).1 e] at h; cases h)
theorem pts_len' (s : ByteArray) : (pts s).length ≤ s.size := by have := pts_len s 0; unfold pts; omega
def signB (s : ByteArray) : Bool := decide ((pts s).length ≤ 3) && okB s && !(pts s).any digB
theorem sign_l (s : ByteArray) (hs : s.size ≤ 1099511627776) : ∀ (d i : Nat), (pts s).length - i = d → i ≤ (pts s).length → Ev (fun k => zbm.l0 k s (pts s) (i : Int)) (if ((pts s).drop i).any digB = true then false else decide ((pts s).length ≤ 3) && okB s) := by
 have hl := pts_len' s
 intro d
 induction d with
 | zero =>
  intro i hd hi
  refine Ev.step (fun k => by rw [zbm.l0]) ?_
  refine Ev.neg (by omega) ?_
  rw [List.drop_eq_nil_of_le (by omega)]
  show Ev _ (decide ((pts s).length ≤ 3) && okB s)
  by_cases h : ((pts s).length : Int) ≤ 3
  ·refine Ev.pos h (Ev.bind (text_f (pts s) (by omega)) ((Ev.now _).to ?_))
   rw [txt_tl, decide_eq_true (by omega), Bool.true_and]
  refine Ev.neg h ((Ev.now _).to ?_)
  rw [decide_eq_false (by omega), Bool.false_and]
 | succ d ih =>
  intro i hd hi
  have hlt : i < (pts s).length := by omega
  have hr := pts_range s 0 ((pts s)[i]) (List.getElem_mem hlt)
  have e3 : rd (pts s) (i : Int) = (pts s)[i] := by simp [rd, hlt]
  refine Ev.step (fun k => by rw [zbm.l0]) ?_
  rw [e3]
  refine Ev.pos (by omega) (Ev.pos (by omega) (Ev.bind (sCat_ev _ hr.1 (by omega)) ?_))
  rw [List.drop_eq_getElem_cons hlt, List.any_cons]
  cases h : digB ((pts s)[i]) with
  | true => exact Ev.pos (beq_iff_eq.1 h) ((Ev.now _).to rfl)
  | false =>
   refine Ev.neg (fun e => by unfold digB at h; rw [e] at h; cases h) ?_
   rw [w_succ i (by omega), Bool.false_or]
   exact ih (i + 1) (by omega) (by omega)
theorem sign_ev (s : ByteArray) (hs : s.size ≤ 1099511627776) : Ev (fun k => zbm.f k s) (signB s) := by
 unfold zbm.f
 refine Ev.bind (spoints_f s hs) ((sign_l s hs _ 0 rfl (by omega)).to ?_)
 rw [List.drop_zero]
 unfold signB
 cases (pts s).any digB <;> simp
theorem swell_ev (s : ByteArray) (hs : s.size ≤ 1099511627776) : Ev (fun k => za2.f k s) (okB s) := by
 unfold za2.f
 have hl := pts_len' s
 exact Ev.bind (spoints_f s hs) (Ev.bind (text_f (pts s) (by omega)) ((Ev.now _).to (txt_tl s)))
theorem well_f (s : ByteArray) (hs : s.size ≤ 1099511627776) : impl_well.f s = some (okB s) := by
 unfold impl_well.f utf8_ValidString.f
 rw [if_pos (by omega), valid_eq]
 rfl
def frameB (s : ByteArray) : Bool := nilB s || (decide (s.size ≤ 50) && okB s && cnt3 s 48 == 1 && cnt3 s 49 == 1 && !decide (idx3 s 49 < idx3 s 48))
theorem frame_ev (s : ByteArray) (hs : s.size ≤ 1099511627776) : Ev (fun k => spec_l17Frame.f k s) (frameB s) := by
 unfold spec_l17Frame.f frameB nilB
 by_cases h1 : s.toList = ([] : List UInt8)
 ·rw [beq_iff_eq.2 h1]
  exact Ev.pos h1 (Ev.now _)
 rw [beq_eq_false_iff_ne.2 h1, Bool.false_or]
 refine Ev.neg h1 ?_
 by_cases h2 : (s.size : Int) ≤ 50
 case neg => exact Ev.neg h2 ((Ev.now _).to (by rw [show decide (s.size ≤ 50) = false from decide_eq_false (by omega)]; rfl))
 rw [show decide (s.size ≤ 50) = true from decide_eq_true (by omega), Bool.true_and]
 refine Ev.pos h2 (Ev.bind (swell_ev s hs) ?_)
 cases okB s with
 | false => exact Ev.neg (by simp) ((Ev.now _).to rfl)
 | true =>
  refine Ev.pos rfl (Ev.bind (cnt_ev s 48 (by decide) hs) ?_)
  show Ev _ (true && cnt3 s 48 == 1 && cnt3 s 49 == 1 && !decide (idx3 s 49 < idx3 s 48))
  by_cases h3 : cnt3 s 48 = 1
  case neg => exact Ev.neg h3 ((Ev.now _).to (by rw [beq_eq_false_iff_ne.2 h3]; rfl))
  rw [beq_iff_eq.2 h3]
  refine Ev.pos h3 (Ev.bind (cnt_ev s 49 (by decide) hs) ?_)
  by_cases h4 : cnt3 s 49 = 1
  case neg => exact Ev.neg h4 ((Ev.now _).to (by rw [beq_eq_false_iff_ne.2 h4]; rfl))
  rw [beq_iff_eq.2 h4]
  refine Ev.pos h4 (Ev.bind (idx_ev s 48 hs) (Ev.bind (idx_ev s 49 hs) ((Ev.now _).to ?_)))
  have hne := idx_ne s h3
  show decide (idx3 s 48 < idx3 s 49) = !decide (idx3 s 49 < idx3 s 48)
  by_cases h5 : idx3 s 49 < idx3 s 48
  ·rw [decide_eq_true h5]; exact decide_eq_false (by omega)
  rw [decide_eq_false h5]; exact decide_eq_true (by omega)
def labB (s : ByteArray) : Bool := decide (1 ≤ s.size) && decide (s.size ≤ 30) && okB s
def labelsB (l : List ByteArray) (n : Int) : Bool := l.all labB && (decide (l.length = 0) || decide ((l.length : Int) = n))
theorem labels_l (l : List ByteArray) (n : Int) (hl : l.length ≤ 1099511627776) (hs : ∀ s ∈ l, s.size ≤ 1099511627776) : ∀ (d i : Nat), l.length - i = d → i ≤ l.length → Ev (fun k => zbd.l0 k l n (i : Int)) ((l.drop i).all labB && (decide (l.length = 0) || decide ((l.length : Int) = n))) := by
 intro d
 induction d with
 | zero =>
  intro i hd hi
  refine Ev.step (fun k => by rw [zbd.l0]) ?_
  refine Ev.neg (by omega) ?_
  rw [List.drop_eq_nil_of_le (by omega), List.all_nil, Bool.true_and]
  by_cases h : (l.length : Int) = 0
  ·refine Ev.pos h ((Ev.now _).to ?_)
   rw [show decide (l.length = 0) = true from decide_eq_true (by omega)]
   rfl
  refine Ev.neg h ((Ev.now _).to ?_)
  rw [show decide (l.length = 0) = false from decide_eq_false (by omega), Bool.false_or]
  rfl
 | succ d ih =>
  intro i hd hi
  have hlt : i < l.length := by omega
  have e3 : rdOf ByteArray.empty l (i : Int) = l[i] := by simp [rdOf, hlt]
  refine Ev.step (fun k => by rw [zbd.l0]) ?_
  rw [e3]
  refine Ev.pos (by omega) (Ev.pos (by omega) ?_)
  rw [List.drop_eq_getElem_cons hlt, List.all_cons]
  have hs1 := hs _ (List.getElem_mem hlt)
  generalize l[i] = s at hs1 ⊢
  unfold labB
  by_cases h1 : (s.size : Int) < 1
  ·exact Ev.pos h1 ((Ev.now _).to (by rw [show decide (1 ≤ s.size) = false from decide_eq_false (by omega)]; rfl))
  rw [show decide (1 ≤ s.size) = true from decide_eq_true (by omega)]
  refine Ev.neg h1 ?_
  by_cases h2 : (s.size : Int) > 30
  ·exact Ev.pos h2 ((Ev.now _).to (by rw [show decide (s.size ≤ 30) = false from decide_eq_false (by omega)]; rfl))
  rw [show decide (s.size ≤ 30) = true from decide_eq_true (by omega)]
  refine Ev.neg h2 (Ev.bind (swell_ev s hs1) ?_)
  cases okB s with
  | false => exact Ev.neg (by simp) ((Ev.now _).to rfl)
  | true =>
   refine Ev.pos rfl ?_
   rw [w_succ i (by omega)]
   exact (ih (i + 1) (by omega) (by omega)).to rfl
theorem labels_ev (l : List ByteArray) (n : Int) (hl : l.length ≤ 1099511627776) (hs : ∀ s ∈ l, s.size ≤ 1099511627776) : Ev (fun k => zbd.f k l n) (labelsB l n) :=
 (labels_l l n hl hs _ 0 rfl (by omega)).to (by rw [List.drop_zero]; rfl)
end Go.Proofs.YtfafjbolmeimmaaGreatDoor.P
