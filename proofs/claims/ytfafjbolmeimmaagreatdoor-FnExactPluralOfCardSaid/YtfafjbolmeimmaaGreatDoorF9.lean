/- Parts of a proof: words of the print tool that this claim uses, or plain lists. -/
import Derived.Test.YtfafjbolmeimmaaGreatDoorAb
import Derived.Test.YtfafjbolmeimmaaGreatDoorF4
import Derived.Test.YtfafjbolmeimmaaGreatDoorF7
import Derived.Test.YtfafjbolmeimmaaGreatDoorF8
import Derived.Lib.RuneCountTail
namespace Go.Proofs.YtfafjbolmeimmaaGreatDoor.P
open Go.RowKit Go.Proofs.YtfafjbolmeimmaaGreatDoorW.PrintWords Go.Proofs.YtfafjbolmeimmaaGreatDoorW.PrintLast Go.Proofs.YtfafjbolmeimmaaGreatDoorW.PrintMore
attribute [local go_sem] zbn zbp max_two min_two zba zbb zbo zbm
set_option linter.unusedVariables false
set_option linter.unusedSimpArgs false
def za3.l0 : Nat → List ByteArray → List ByteArray → Int → Option (Bool)
 | 0, _, _, _ => none
 | k + 1, x0, x1, x5 => if x5 < (x0.length : Int) then (if 0 ≤ x5 then (if x5 < (x1.length : Int) then (if (rdOf ByteArray.empty x0 x5).toList = (rdOf ByteArray.empty x1 x5).toList then (za3.l0 k x0 x1 (wrap64 (x5 + 1))) else (some false)) else (none)) else (none)) else (some true)
def za3.f (k : Nat) (l0 : List ByteArray) (l1 : List ByteArray) : Option (Bool) := if (l0.length : Int) = (l1.length : Int) then (za3.l0 k l0 l1 0) else (some false)
set_option maxHeartbeats 8000000 in
set_option maxRecDepth 100000 in
theorem za3.calls (k : Nat) (A0 : Option Addr) (c0 : Nat) (l0 : List ByteArray) (A1 : Option Addr) (c1 : Nat) (l1 : List ByteArray) (r : Bool) (w : World) (hr0 : Kd.C Kd.string w A0 l0.length l0) (hc0 : l0.length ≤ c0) (hr1 : Kd.C Kd.string w A1 l1.length l1) (hc1 : l1.length ≤ c1) (h : za3.f k l0 l1 = some r) :
  Calls Tryz.prog 22 #[.slice A0 l0.length c0, .slice A1 l1.length c1] w fun e w' => e = .returned (.bool r) ∧ zas w w' := by
 have HR0 := zaa.mk hr0; have HC0 := zaa.mk hc0; clear hr0 hc0; have HR1 := zaa.mk hr1; have HC1 := zaa.mk hc1; clear hr1 hc1
 have H : (if (l0.length : Int) = (l1.length : Int) then (za3.l0 k l0 l1 0) else (some false)) = some r := h
 clear h
 by_cases c3 : (l0.length : Int) = (l1.length : Int)
 ·rw [if_pos c3] at H
  have c3b0 : ((l0.length : Int) == (l1.length : Int)) = true := beq_iff_eq.mpr c3
  have c3b1 : ((l0.length : Int) != (l1.length : Int)) = false := bne_eq_false_iff_eq.mpr c3
  have c3b2 : (l0.length == l1.length) = true := by first | simpa using c3 | (simp at c3 ⊢; omega)
  clear c3; have H' := zaa.mk H; clear H
  go_enter Tryz.func22, Tryz.ntmps22
  go_wp2
  repeat (go_quiet (fail); try go_wp2)
  go_loopg [5] k (fun kq v5 w' => ∃ (x5_1 : Int), v5 = .int .i64 x5_1 ∧ zaa (za3.l0 kq l0 l1 x5_1 = some r) ∧ zaa (kq ≤ k) ∧ zas w w')
  case atStart => exact ⟨(0), yq2, H', ⟨Nat.le_refl _⟩, yq8⟩
  case round =>
   clear H'
   try clear c1
   try clear c3b0
   try clear c3b1
   try clear c3b2
   obtain ⟨x5_1, rfl, HA, HK1, ⟨m1, rfl⟩⟩ := hrel
   cases gk with
   | zero => exact absurd HA.out (by simp [za3.l0])
   | succ k1 =>
    have H := HA.out; clear HA
    simp only [za3.l0] at H
    by_cases c4 : x5_1 < (l0.length : Int)
    ·rw [if_pos c4] at H
     have c4b0 : decide (x5_1 < (l0.length : Int)) = true := decide_eq_true c4
     clear c4
     by_cases c5 : 0 ≤ x5_1
     ·rw [if_pos c5] at H
      have c5b0 : decide (0 ≤ x5_1) = true := decide_eq_true c5
      clear c5
      by_cases c6 : x5_1 < (l1.length : Int)
      ·rw [if_pos c6] at H
       have c6b0 : decide (x5_1 < (l1.length : Int)) = true := decide_eq_true c6
       clear c6
       by_cases c7 : (rdOf ByteArray.empty l0 x5_1).toList = (rdOf ByteArray.empty l1 x5_1).toList
       ·rw [if_pos c7] at H
        have c7b0 : ((rdOf ByteArray.empty l0 x5_1).toList == (rdOf ByteArray.empty l1 x5_1).toList) = true := beq_iff_eq.mpr c7
        have c7b1 : ((rdOf ByteArray.empty l0 x5_1).toList != (rdOf ByteArray.empty l1 x5_1).toList) = false := bne_eq_false_iff_eq.mpr c7
        clear c7; have H' := zaa.mk H; clear H
        have p329 : 0 ≤ (x5_1 : Int) := of_decide_eq_true yq1
        have q329 : x5_1 < (l0.length : Int) := of_decide_eq_true yq1
        obtain ⟨ad329, e329, hx329_0⟩ := Kd.at_string HR0.out x5_1 p329 q329
        cases e329
        replace p329 := eq_true p329
        replace q329 := eq_true q329
        have p330 : 0 ≤ (x5_1 : Int) := of_decide_eq_true yq1
        have q330 : x5_1 < (l1.length : Int) := of_decide_eq_true yq1
        obtain ⟨ad330, e330, hx330_0⟩ := Kd.at_string HR1.out x5_1 p330 q330
        cases e330
        replace p330 := eq_true p330
        replace q330 := eq_true q330
        go_wp2
        repeat (go_quiet (fail); try go_wp2)
        go_roundg k1
        case measure => have := HK1.out; omega
        case rel => exact ⟨(wrap64 (x5_1 + 1)), yq2, H', ⟨yq23 HK1.out⟩, yq8⟩
       rw [if_neg c7] at H
       have c7b0 : ((rdOf ByteArray.empty l0 x5_1).toList == (rdOf ByteArray.empty l1 x5_1).toList) = false := beq_eq_false_iff_ne.mpr c7
       have c7b1 : ((rdOf ByteArray.empty l0 x5_1).toList != (rdOf ByteArray.empty l1 x5_1).toList) = true := bne_iff_ne.mpr c7
       obtain rfl := Option.some.inj H
       have p329 : 0 ≤ (x5_1 : Int) := of_decide_eq_true yq1
       have q329 : x5_1 < (l0.length : Int) := of_decide_eq_true yq1
       obtain ⟨ad329, e329, hx329_0⟩ := Kd.at_string HR0.out x5_1 p329 q329
       cases e329
       replace p329 := eq_true p329
       replace q329 := eq_true q329
       have p330 : 0 ≤ (x5_1 : Int) := of_decide_eq_true yq1
       have q330 : x5_1 < (l1.length : Int) := of_decide_eq_true yq1
       obtain ⟨ad330, e330, hx330_0⟩ := Kd.at_string HR1.out x5_1 p330 q330
       cases e330
       replace p330 := eq_true p330
       replace q330 := eq_true q330
       go_wp2
       repeat (go_quiet (fail); try go_wp2)
       go_ret
       exact ⟨yq2, yq8⟩
      rw [if_neg c6] at H
      exact absurd H yq27
     rw [if_neg c5] at H
     exact absurd H yq27
    rw [if_neg c4] at H
    have c4b0 : decide (x5_1 < (l0.length : Int)) = false := decide_eq_false c4
    clear c4; obtain rfl := Option.some.inj H
    go_wp2
    repeat (go_quiet (fail); try go_wp2)
    go_ret
    exact ⟨yq2, yq8⟩
 rw [if_neg c3] at H
 have c3b0 : ((l0.length : Int) == (l1.length : Int)) = false := beq_eq_false_iff_ne.mpr c3
 have c3b1 : ((l0.length : Int) != (l1.length : Int)) = true := bne_iff_ne.mpr c3
 have c3b2 : (l0.length == l1.length) = false := by first | simpa using c3 | (simp at c3 ⊢; omega)
 obtain rfl := Option.some.inj H
 go_enter Tryz.func22, Tryz.ntmps22
 go_wp2
 repeat (go_quiet (fail); try go_wp2)
 go_ret
 exact ⟨yq2, yq8⟩
end Go.Proofs.YtfafjbolmeimmaaGreatDoor.P
namespace Go.Proofs.YtfafjbolmeimmaaGreatDoor.P
open Go.RowKit Go.Proofs.YtfafjbolmeimmaaGreatDoorW.PrintWords Go.Proofs.YtfafjbolmeimmaaGreatDoorW.PrintLast Go.Proofs.YtfafjbolmeimmaaGreatDoorW.PrintMore
attribute [local go_sem] zbn zbp max_two min_two zba zbb zbo zbm
set_option linter.unusedVariables false
set_option linter.unusedSimpArgs false
def spec_l01IsPoint.f (a0 : Int) : Option (Bool) := if a0 ≥ 0 then (if a0 ≤ 1114111 then (if a0 < 55296 then (some true) else (some (decide (a0 > 57343)))) else (some false)) else (some false)
set_option maxHeartbeats 8000000 in
set_option maxRecDepth 100000 in
theorem spec_l01IsPoint.calls (a0 : Int) (r : Bool) (w : World) (h : spec_l01IsPoint.f a0 = some r) :
  Calls Tryz.prog 118 #[.int .i64 a0] w fun e w' => e = .returned (.bool r) ∧ zas w w' := by
 have H : (if a0 ≥ 0 then (if a0 ≤ 1114111 then (if a0 < 55296 then (some true) else (some (decide (a0 > 57343)))) else (some false)) else (some false)) = some r := h
 clear h
 by_cases c2 : a0 ≥ 0
 ·rw [if_pos c2] at H
  have c2b0 : decide (0 ≤ a0) = true := decide_eq_true c2
  clear c2
  by_cases c3 : a0 ≤ 1114111
  ·rw [if_pos c3] at H
   have c3b0 : decide (a0 ≤ 1114111) = true := decide_eq_true c3
   clear c3
   by_cases c4 : a0 < 55296
   ·rw [if_pos c4] at H
    have c4b0 : decide (a0 < 55296) = true := decide_eq_true c4
    clear c4; obtain rfl := Option.some.inj H
    go_enter Tryz.func118, Tryz.ntmps118
    go_wp2
    go_ret
    exact ⟨yq2, yq8⟩
   rw [if_neg c4] at H
   have c4b0 : decide (a0 < 55296) = false := decide_eq_false c4
   clear c4; obtain rfl := Option.some.inj H
   go_enter Tryz.func118, Tryz.ntmps118
   go_wp2
   go_ret
   exact ⟨yq2, yq8⟩
  rw [if_neg c3] at H
  have c3b0 : decide (a0 ≤ 1114111) = false := decide_eq_false c3
  clear c3; obtain rfl := Option.some.inj H
  go_enter Tryz.func118, Tryz.ntmps118
  go_wp2
  go_ret
  exact ⟨yq2, yq8⟩
 rw [if_neg c2] at H
 have c2b0 : decide (0 ≤ a0) = false := decide_eq_false c2
 clear c2; obtain rfl := Option.some.inj H
 go_enter Tryz.func118, Tryz.ntmps118
 go_wp2
 go_ret
 exact ⟨yq2, yq8⟩
end Go.Proofs.YtfafjbolmeimmaaGreatDoor.P
namespace Go.Proofs.YtfafjbolmeimmaaGreatDoor.P
open Go.RowKit Go.Proofs.YtfafjbolmeimmaaGreatDoorW.PrintWords Go.Proofs.YtfafjbolmeimmaaGreatDoorW.PrintLast Go.Proofs.YtfafjbolmeimmaaGreatDoorW.PrintMore
attribute [local go_sem] zbn zbp max_two min_two zba zbb zbo zbm
set_option linter.unusedVariables false
set_option linter.unusedSimpArgs false
def impl_block.f (a0 : Int) : Option (Int × Int) := if a0 ≥ 512 then (if a0 < 1280 then (some (Go.bits .andNot .i64 a0 255, Go.bits .and .i64 a0 255)) else (some (0, 0))) else (some (0, 0))
set_option maxHeartbeats 8000000 in
set_option maxRecDepth 100000 in
theorem impl_block.calls (a0 : Int) (r1 : Int) (r2 : Int) (w : World) (h : impl_block.f a0 = some (r1, r2)) :
  Calls Tryz.prog 126 #[.int .i64 a0] w fun e w' => e = .returned (.tuple #[.int .i64 r1, .int .i64 r2]) ∧ zas w w' := by
 have H : (if a0 ≥ 512 then (if a0 < 1280 then (some (Go.bits .andNot .i64 a0 255, Go.bits .and .i64 a0 255)) else (some (0, 0))) else (some (0, 0))) = some (r1, r2) := h
 clear h
 by_cases c2 : a0 ≥ 512
 ·rw [if_pos c2] at H
  have c2b0 : decide (512 ≤ a0) = true := decide_eq_true c2
  clear c2
  by_cases c3 : a0 < 1280
  ·rw [if_pos c3] at H
   have c3b0 : decide (a0 < 1280) = true := decide_eq_true c3
   clear c3
   simp only [Option.some.injEq, Prod.mk.injEq] at H
   obtain ⟨rfl, rfl⟩ := H
   go_enter Tryz.func126, Tryz.ntmps126
   go_wp2
   go_ret2
   exact ⟨yq2, yq8⟩
  rw [if_neg c3] at H
  have c3b0 : decide (a0 < 1280) = false := decide_eq_false c3
  clear c3
  simp only [Option.some.injEq, Prod.mk.injEq] at H
  obtain ⟨rfl, rfl⟩ := H
  go_enter Tryz.func126, Tryz.ntmps126
  go_wp2
  go_ret2
  exact ⟨yq2, yq8⟩
 rw [if_neg c2] at H
 have c2b0 : decide (512 ≤ a0) = false := decide_eq_false c2
 clear c2
 simp only [Option.some.injEq, Prod.mk.injEq] at H
 obtain ⟨rfl, rfl⟩ := H
 go_enter Tryz.func126, Tryz.ntmps126
 go_wp2
 go_ret2
 exact ⟨yq2, yq8⟩
end Go.Proofs.YtfafjbolmeimmaaGreatDoor.P
namespace Go.Proofs.YtfafjbolmeimmaaGreatDoor.P
open Go.RowKit Go.Proofs.YtfafjbolmeimmaaGreatDoorW.PrintWords
set_option linter.unusedVariables false
theorem bt_get (s : ByteArray) (i : Nat) : bt s (i : Int) = ((s.get! i).toNat : Int) := by
 unfold bt
 rw [Int.toNat_natCast]
 by_cases h : i < s.size
 ·rw [dif_pos h, Utf8W.get!_of_lt s i h]
 rw [dif_neg h]
 cases s with
 | mk d =>
  have : d.size ≤ i := Nat.le_of_not_lt h
  show (0 : Int) = ((d[i]!).toNat : Int)
  rw [getElem!_neg d i yq10]
  rfl
def dec (s : ByteArray) (i : Nat) : Nat × Nat := Utf8.decode s i
theorem dec_eq (s : ByteArray) (i : Nat) : dec s i = Lib.decodeN (s.size - i) (s.get! i).toNat (s.get! (i + 1)).toNat (s.get! (i + 2)).toNat (s.get! (i + 3)).toNat := Lib.decode_at s i
theorem decodeN_bd (n b0 b1 b2 b3 : Nat) (hn : 1 ≤ n) : 1 ≤ (Lib.decodeN n b0 b1 b2 b3).2 ∧ (Lib.decodeN n b0 b1 b2 b3).2 ≤ 4 ∧ (Lib.decodeN n b0 b1 b2 b3).2 ≤ n ∧ (Lib.decodeN n b0 b1 b2 b3).1 ≤ 1114111 ∧ ((Lib.decodeN n b0 b1 b2 b3).1 < 55296 ∨ 57344 ≤ (Lib.decodeN n b0 b1 b2 b3).1) := by
 unfold Lib.decodeN
 repeat' split
 all_goals (simp only []; omega)
theorem dec_bd (s : ByteArray) (i : Nat) (h : i < s.size) : 1 ≤ (dec s i).2 ∧ (dec s i).2 ≤ 4 ∧ (dec s i).2 ≤ s.size - i ∧ (dec s i).1 ≤ 1114111 ∧ ((dec s i).1 < 55296 ∨ 57344 ≤ (dec s i).1) := by
 rw [dec_eq]
 exact decodeN_bd _ _ _ _ _ yq10
def badAt (s : ByteArray) (i : Nat) : Bool := (dec s i).1 == 65533 && (dec s i).2 == 1
def ptsFrom (s : ByteArray) (i : Nat) : List Int :=
 if h : i < s.size then ((dec s i).1 : Int) :: ptsFrom s (i + (dec s i).2) else []
termination_by s.size - i
decreasing_by have := dec_bd s i h; omega
def pts (s : ByteArray) : List Int := ptsFrom s 0
theorem ptsFrom_lt {s : ByteArray} {i : Nat} (h : i < s.size) : ptsFrom s i = ((dec s i).1 : Int) :: ptsFrom s (i + (dec s i).2) := by rw [ptsFrom, dif_pos h]
theorem ptsFrom_ge {s : ByteArray} {i : Nat} (h : ¬ i < s.size) : ptsFrom s i = [] := by rw [ptsFrom, dif_neg h]
def atsFrom (s : ByteArray) (i : Nat) : List S89 :=
 if h : i < s.size then ⟨((dec s i).1 : Int), (i : Int), ((i + (dec s i).2 : Nat) : Int), badAt s i⟩ :: atsFrom s (i + (dec s i).2) else []
termination_by s.size - i
decreasing_by have := dec_bd s i h; omega
def ats (s : ByteArray) : List S89 := atsFrom s 0
theorem atsFrom_lt {s : ByteArray} {i : Nat} (h : i < s.size) : atsFrom s i = ⟨((dec s i).1 : Int), (i : Int), ((i + (dec s i).2 : Nat) : Int), badAt s i⟩ :: atsFrom s (i + (dec s i).2) := by rw [atsFrom, dif_pos h]
theorem atsFrom_ge {s : ByteArray} {i : Nat} (h : ¬ i < s.size) : atsFrom s i = [] := by rw [atsFrom, dif_neg h]
theorem rec_places (s : ByteArray) {motive : Nat → Prop} (end_ : ∀ i, ¬ i < s.size → motive i) (step : ∀ i, i < s.size → motive (i + (dec s i).2) → motive i) : ∀ i, motive i := by
 have : ∀ d i, s.size - i ≤ d → motive i := by
  intro d
  induction d with
  | zero => intro i hi; exact end_ i yq10
  | succ d ih =>
   intro i hi
   by_cases h : i < s.size
   ·have := dec_bd s i h
    exact step i h (ih _ yq10)
   exact end_ i h
 exact fun i => this _ i (Nat.le_refl _)
theorem ats_pts (s : ByteArray) : ∀ i, (atsFrom s i).map (·.f0) = ptsFrom s i := by
 refine rec_places s (motive := fun i => (atsFrom s i).map (·.f0) = ptsFrom s i) ?_ ?_
 ·intro i h; show _ = _; rw [atsFrom_ge h, ptsFrom_ge h]; rfl
 intro i h ih; show _ = _; rw [atsFrom_lt h, ptsFrom_lt h, List.map_cons, ih]
theorem pts_len (s : ByteArray) : ∀ i, (ptsFrom s i).length ≤ s.size - i := by
 refine rec_places s (motive := fun i => (ptsFrom s i).length ≤ s.size - i) ?_ ?_
 ·intro i h; show _ ≤ _; rw [ptsFrom_ge h]; simp
 intro i h ih
 have := dec_bd s i h
 show _ ≤ _
 rw [ptsFrom_lt h, List.length_cons]; omega
theorem ats_len (s : ByteArray) : ∀ i, (atsFrom s i).length ≤ s.size - i := by
 intro i
 have := pts_len s i
 rw [← ats_pts, List.length_map] at this
 exact this
theorem pts_range (s : ByteArray) : ∀ i, ∀ p ∈ ptsFrom s i, 0 ≤ p ∧ p ≤ 1114111 ∧ (p < 55296 ∨ 57344 ≤ p) := by
 refine rec_places s (motive := fun i => ∀ p ∈ ptsFrom s i, 0 ≤ p ∧ p ≤ 1114111 ∧ (p < 55296 ∨ 57344 ≤ p)) ?_ ?_
 ·intro i h p hp; rw [ptsFrom_ge h] at hp; cases hp
 intro i h ih p hp
 have := dec_bd s i h
 rw [ptsFrom_lt h] at hp
 rcases List.mem_cons.1 hp with rfl | h2
 ·omega
 exact ih p h2
theorem decodeGo_at (s : ByteArray) (i : Nat) (h : i < s.size) : Lib.decodeGo (s.extract i s.size) = dec s i := by
 unfold Lib.decodeGo
 rw [if_neg (by rw [Lib.tail_size]; omega), Lib.tail_decode, Nat.add_zero]
 rfl
theorem read_ev (s : ByteArray) (hs : s.size ≤ 1099511627776) : ∀ i, ∀ acc : List S89, acc.length + (s.size - i) ≤ 1099511627776 → Ev (fun k => impl_read.l0 k s acc (i : Int)) (acc ++ atsFrom s i) := by
 refine rec_places s (motive := fun i => ∀ acc : List S89, acc.length + (s.size - i) ≤ 1099511627776 → Ev (fun k => impl_read.l0 k s acc (i : Int)) (acc ++ atsFrom s i)) ?_ ?_
 ·intro i h acc ha
  refine Ev.step (fun k => by rw [impl_read.l0]) ?_
  rw [atsFrom_ge h, List.append_nil]
  exact Ev.neg yq10 (Ev.now _)
 intro i h ih acc ha
 have hb := dec_bd s i h
 refine Ev.step (fun k => by rw [impl_read.l0]) ?_
 refine Ev.pos yq10 (Ev.pos yq10 (Ev.pos yq10 ?_))
 rw [Int.toNat_natCast]
 refine Ev.bind (Ev.done (r := (((dec s i).1 : Int), ((dec s i).2 : Int))) (by unfold utf8_DecodeRuneInString.f; rw [decodeGo_at s i h])) ?_
 have e1 : wrap64 ((dec s i).1 : Int) = ((dec s i).1 : Int) := w64 yq10 yq10
 have e2 : wrap64 ((i : Int) + ((dec s i).2 : Int)) = ((i + (dec s i).2 : Nat) : Int) := by rw [w64 yq10 yq10]; omega
 simp only [e1, e2]
 rw [atsFrom_lt h]
 have key : ∀ b : Bool, b = badAt s i → Ev (fun k => if acc.length < 4398046511104 then impl_read.l0 k s (acc ++ [(⟨((dec s i).1 : Int), (i : Int), ((i + (dec s i).2 : Nat) : Int), b⟩ : S89)]) ((i + (dec s i).2 : Nat) : Int) else none) (acc ++ (⟨((dec s i).1 : Int), (i : Int), ((i + (dec s i).2 : Nat) : Int), badAt s i⟩ :: atsFrom s (i + (dec s i).2))) := by
  rintro b rfl
  refine Ev.pos yq10 ?_
  refine (ih _ ?_).to yq27
  rw [List.length_append, List.length_singleton]
  omega
 by_cases h3 : (dec s i).1 = 65533
 ·refine Ev.pos yq10 (key _ ?_)
  unfold badAt
  rw [h3]
  by_cases h4 : (dec s i).2 = 1
  ·rw [h4]; rfl
  have : ¬ (((dec s i).2 : Int) = 1) := by omega
  rw [beq_eq_false_iff_ne.2 this, beq_eq_false_iff_ne.2 h4]
  rfl
 refine Ev.neg yq10 (key _ ?_)
 unfold badAt
 rw [beq_eq_false_iff_ne.2 h3]
 rfl
theorem read_f (s : ByteArray) (hs : s.size ≤ 1099511627776) : Ev (fun k => impl_read.f k s) (ats s) :=
 (read_ev s hs 0 [] (by simp; omega)).to (by simp [ats])
end Go.Proofs.YtfafjbolmeimmaaGreatDoor.P
namespace Go.Proofs.YtfafjbolmeimmaaGreatDoor.P
open Go.RowKit Go.Proofs.YtfafjbolmeimmaaGreatDoorW.PrintWords Go.Proofs.YtfafjbolmeimmaaGreatDoorW.PrintLast Go.Proofs.YtfafjbolmeimmaaGreatDoorW.PrintMore
attribute [local go_sem] zbn zbp max_two min_two zba zbb zbo zbm
set_option linter.unusedVariables false
set_option linter.unusedSimpArgs false
def zaM.l0 : Nat → Int → ByteArray → Option (ByteArray)
 | 0, _, _ => none
 | k + 1, x0, x3 => if x0 > 9 then ((some (([(wrap64 (48 + (Int.tmod x0 10))) % 256] : List Int) : List Int)).bind fun y101 => (if (strOfNums y101).size + x3.size ≤ 9223372036854775807 then (zaM.l0 k (wrap64 (Int.tdiv x0 10)) ((strOfNums y101) ++ x3)) else (none))) else ((some (([(wrap64 (48 + x0)) % 256] : List Int) : List Int)).bind fun y104 => (if (strOfNums y104).size + x3.size ≤ 9223372036854775807 then (some ((strOfNums y104) ++ x3)) else (none)))
def zaM.f (k : Nat) (a0 : Int) : Option (ByteArray) := if a0 < 0 then (some (⟨#[57, 50, 50, 51, 51, 55, 50, 48, 51, 54, 56, 53, 52, 55, 55, 53, 56, 48, 56]⟩ : ByteArray)) else (zaM.l0 k a0 (⟨#[]⟩ : ByteArray))
set_option maxHeartbeats 8000000 in
set_option maxRecDepth 100000 in
theorem zaM.calls (k : Nat) (a0 : Int) (r : ByteArray) (w : World) (h : zaM.f k a0 = some r) :
  Calls Tryz.prog 113 #[.int .i64 a0] w fun e w' => e = .returned (.string r) ∧ Below w.heap.size w w' := by
 have HB := zaa.mk (Below.refl w.heap.size w)
 have H : (if a0 < 0 then (some (⟨#[57, 50, 50, 51, 51, 55, 50, 48, 51, 54, 56, 53, 52, 55, 55, 53, 56, 48, 56]⟩ : ByteArray)) else (zaM.l0 k a0 (⟨#[]⟩ : ByteArray))) = some r := h
 clear h
 by_cases c2 : a0 < 0
 ·rw [if_pos c2] at H
  have c2b0 : decide (a0 < 0) = true := decide_eq_true c2
  clear c2; obtain rfl := Option.some.inj H
  go_enter Tryz.func113, Tryz.ntmps113
  go_wp2
  go_ret
  exact ⟨yq6, yq0 HB.out⟩
 rw [if_neg c2] at H
 have c2b0 : decide (a0 < 0) = false := decide_eq_false c2
 clear c2; have H' := zaa.mk H; clear H
 go_enter Tryz.func113, Tryz.ntmps113
 go_wp2
 go_loopg [0, 3] k (fun kq v0 v3 w' => ∃ (x0_1 : Int) (x3_1 : ByteArray), v0 = .int .i64 x0_1 ∧ v3 = .string x3_1 ∧ zaa (zaM.l0 kq x0_1 x3_1 = some r) ∧ zaa (kq ≤ k) ∧ zaa (Below w.heap.size w w'))
 case atStart => exact ⟨(a0), ((⟨#[]⟩ : ByteArray)), yq2, yq2, H', ⟨Nat.le_refl _⟩, ⟨yq0 HB.out⟩⟩
 case round =>
  clear H'
  try clear c2b0
  obtain ⟨x0_1, x3_1, rfl, rfl, HA, HK1, HB⟩ := hrel
  cases gk with
  | zero => exact absurd HA.out (by simp [zaM.l0])
  | succ k1 =>
   have H := HA.out; clear HA
   simp only [zaM.l0] at H
   by_cases c3 : x0_1 > 9
   ·rw [if_pos c3] at H
    have c3b0 : decide (9 < x0_1) = true := decide_eq_true c3
    clear c3
    obtain ⟨y101, hy101⟩ : ∃ y_ : List Int, y_ = (([(wrap64 (48 + (Int.tmod x0_1 10))) % 256] : List Int)) := ⟨_, rfl⟩
    replace H : (if (strOfNums y101).size + x3_1.size ≤ 9223372036854775807 then (zaM.l0 k1 (wrap64 (Int.tdiv x0_1 10)) ((strOfNums y101) ++ x3_1)) else (none)) = some r := by first | (rw [hy101]; with_reducible exact H) | (have H2_ := (Option.bind_some _ _).symm.trans H; rw [hy101]; with_reducible exact H2_) | (have H2_ := (Option.bind_some _ _).symm.trans H; with_reducible exact H2_) | with_reducible exact H | (rw [hy101]; exact H) | exact H
    have Ny101 := zaa.mk hy101; clear hy101
    by_cases c4 : (strOfNums y101).size + x3_1.size ≤ 9223372036854775807
    ·rw [if_pos c4] at H
     have c4b0 := eq_true c4
     have c4b1 : decide ((strOfNums y101).size + x3_1.size ≤ 9223372036854775807) = true := decide_eq_true c4
     try have c4b2 : (9223372036854775807 < (strOfNums y101).size + x3_1.size) = False := eq_false (Nat.not_lt.2 c4)
     have H' := zaa.mk H; clear H
     go_wp2_with (first | ((with_reducible refine zaF (N := 12) rfl ?_); refine Kd.R_lit (Kd.int .u8) _ 5 ?hg (N := 12) ?hd (xs := ([(wrap64 (48 + (Int.tmod x0_1 10))) % 256] : List Int)) (inner := [.int .u8 ((wrap64 (48 + (Int.tmod x0_1 10))) % 256)]) (ok := fun _ => True) (okp := fun _ => True) ?hr ?hp (fun _ hk => hk) trivial (Below.refl _ _) (Nat.le_refl _) yq27 ?_; (case hd => rfl); (case hg => rfl); (case hr => first | (go_simp; done) | (go_simp; rfl)); (case hp => exact (Reps.one (show Kd.M (Kd.int .u8) _ _ _ ((wrap64 (48 + (Int.tmod x0_1 10))) % 256) [.int .u8 ((wrap64 (48 + (Int.tmod x0_1 10))) % 256)] from rfl) (Reps.none _ _))); intro v102 w5 ho6 hb hg_ hnew_; clear hg_ hnew_; (first | rw [← Ny101.out] at ho6 | (simp only [Int.reduceToNat] at ho6; rw [← Ny101.out] at ho6)); have n0_ := zaa.mk (Kd.R_lower ho6 (zav (yq0 HB.out))); have n1_ := zaa.mk (zam (yq0 HB.out) hb); clear HB; have HO103 := n0_; have HB := n1_; clear n0_ n1_ hb ho6; have hcv7 := own_string (P := Tryz.prog) Tryz.underlying111 Tryz.underlying5 Tryz.underlying9 (Kd.own_of_R HO103.out)))
     go_roundg k1
     case measure => have := HK1.out; omega
     case rel => exact ⟨(wrap64 (Int.tdiv x0_1 10)), ((strOfNums y101) ++ x3_1), yq2, yq2, H', ⟨yq23 HK1.out⟩, ⟨yq0 HB.out⟩⟩
    rw [if_neg c4] at H
    exact absurd H yq27
   rw [if_neg c3] at H
   have c3b0 : decide (9 < x0_1) = false := decide_eq_false c3
   clear c3
   obtain ⟨y104, hy104⟩ : ∃ y_ : List Int, y_ = (([(wrap64 (48 + x0_1)) % 256] : List Int)) := ⟨_, rfl⟩
   replace H : (if (strOfNums y104).size + x3_1.size ≤ 9223372036854775807 then (some ((strOfNums y104) ++ x3_1)) else (none)) = some r := by first | (rw [hy104]; with_reducible exact H) | (have H2_ := (Option.bind_some _ _).symm.trans H; rw [hy104]; with_reducible exact H2_) | (have H2_ := (Option.bind_some _ _).symm.trans H; with_reducible exact H2_) | with_reducible exact H | (rw [hy104]; exact H) | exact H
   have Ny104 := zaa.mk hy104; clear hy104
   by_cases c8 : (strOfNums y104).size + x3_1.size ≤ 9223372036854775807
   ·rw [if_pos c8] at H
    have c8b0 := eq_true c8
    have c8b1 : decide ((strOfNums y104).size + x3_1.size ≤ 9223372036854775807) = true := decide_eq_true c8
    try have c8b2 : (9223372036854775807 < (strOfNums y104).size + x3_1.size) = False := eq_false (Nat.not_lt.2 c8)
    obtain rfl := Option.some.inj H
    go_wp2_with (first | ((with_reducible refine zaF (N := 21) rfl ?_); refine Kd.R_lit (Kd.int .u8) _ 5 ?hg (N := 21) ?hd (xs := ([(wrap64 (48 + x0_1)) % 256] : List Int)) (inner := [.int .u8 ((wrap64 (48 + x0_1)) % 256)]) (ok := fun _ => True) (okp := fun _ => True) ?hr ?hp (fun _ hk => hk) trivial (Below.refl _ _) (Nat.le_refl _) yq27 ?_; (case hd => rfl); (case hg => rfl); (case hr => first | (go_simp; done) | (go_simp; rfl)); (case hp => exact (Reps.one (show Kd.M (Kd.int .u8) _ _ _ ((wrap64 (48 + x0_1)) % 256) [.int .u8 ((wrap64 (48 + x0_1)) % 256)] from rfl) (Reps.none _ _))); intro v105 w9 ho10 hb hg_ hnew_; clear hg_ hnew_; (first | rw [← Ny104.out] at ho10 | (simp only [Int.reduceToNat] at ho10; rw [← Ny104.out] at ho10)); have n0_ := zaa.mk (Kd.R_lower ho10 (zav (yq0 HB.out))); have n1_ := zaa.mk (zam (yq0 HB.out) hb); clear HB; have HO106 := n0_; have HB := n1_; clear n0_ n1_ hb ho10; have hcv11 := own_string (P := Tryz.prog) Tryz.underlying111 Tryz.underlying5 Tryz.underlying9 (Kd.own_of_R HO106.out)))
    go_ret
    exact ⟨yq6, yq0 HB.out⟩
   rw [if_neg c8] at H
   exact absurd H yq27
mutual
def zaT.j0 : Nat → Int → ByteArray → Option (ByteArray × ByteArray)
 | 0, _, _ => none
 | k + 1, x1, x6 => zaT.l0 k x1 x6
def zaT.l0 : Nat → Int → ByteArray → Option (ByteArray × ByteArray)
 | 0, _, _ => none
 | k + 1, x1, x6 => if (x6.size : Int) ≤ x1 then (if 1 + x6.size ≤ 9223372036854775807 then (zaT.l0 k x1 ((⟨#[48]⟩ : ByteArray) ++ x6)) else (none)) else (if 0 ≤ (wrap64 ((x6.size : Int) - x1)) then (if (wrap64 ((x6.size : Int) - x1)) ≤ (x6.size : Int) then (some (x6.extract 0 ((wrap64 ((x6.size : Int) - x1)) : Int).toNat, x6.extract ((wrap64 ((x6.size : Int) - x1)) : Int).toNat x6.size)) else (none)) else (none))
end
def zaT.f (k : Nat) (a0 : Int) (a1 : Int) : Option (ByteArray × ByteArray) := (zaM.f k a0).bind fun t107 => (if a0 < 0 then ((zaM.f k (wrap64 (-a0))).bind fun t108 => (zaT.j0 k a1 t108)) else (zaT.j0 k a1 t107))
set_option maxHeartbeats 8000000 in
set_option maxRecDepth 100000 in
theorem zaT.calls (k : Nat) (a0 : Int) (a1 : Int) (r1 : ByteArray) (r2 : ByteArray) (w : World) (h : zaT.f k a0 a1 = some (r1, r2)) :
  Calls Tryz.prog 89 #[.int .i64 a0, .int .i64 a1] w fun e w' => e = .returned (.tuple #[.string r1, .string r2]) ∧ Below w.heap.size w w' := by
 have HB := zaa.mk (Below.refl w.heap.size w)
 have H : ((zaM.f k a0).bind fun t107 => (if a0 < 0 then ((zaM.f k (wrap64 (-a0))).bind fun t108 => (zaT.j0 k a1 t108)) else (zaT.j0 k a1 t107))) = some (r1, r2) := h
 clear h; replace H := Option.bind_eq_some_iff.mp H
 obtain ⟨t107, A30, H⟩ := H
 replace H : (if a0 < 0 then ((zaM.f k (wrap64 (-a0))).bind fun t108 => (zaT.j0 k a1 t108)) else (zaT.j0 k a1 t107)) = some (r1, r2) := H
 have A3 := zaa.mk A30; clear A30; have HC4 := zaa.mk H; clear H
 go_enter Tryz.func89, Tryz.ntmps89
 go_upto_if 11 with (first | (go_at_call 113; (with_reducible refine (zaM.calls k a0 t107 _ A3.out).mono ?_); rintro e w5 ⟨rfl, hb⟩; have n0_ := zaa.mk (zam (yq0 HB.out) hb); clear HB; have HB := n0_; clear n0_; (try clear hb); (try clear hb2); (try clear hk); (try clear hi)))
 repeat (go_quiet (first | (go_at_call 113; (with_reducible refine (zaM.calls k a0 t107 _ A3.out).mono ?_); rintro e w5 ⟨rfl, hb⟩; have n0_ := zaa.mk (zam (yq0 HB.out) hb); clear HB; have HB := n0_; clear n0_; (try clear hb); (try clear hb2); (try clear hk); (try clear hi))); go_upto_if 11 with (first | (go_at_call 113; (with_reducible refine (zaM.calls k a0 t107 _ A3.out).mono ?_); rintro e w5 ⟨rfl, hb⟩; have n0_ := zaa.mk (zam (yq0 HB.out) hb); clear HB; have HB := n0_; clear n0_; (try clear hb); (try clear hb2); (try clear hk); (try clear hi))))
 (try simp only [Act.put, List.setIfInBounds_toArray, List.set_cons_zero, List.set_cons_succ])
 go_cut [6] (fun v6 wc => ∃ (kq : Nat) (x6_3 : ByteArray), v6 = .string x6_3 ∧ zaa (zaT.j0 kq a1 x6_3 = some (r1, r2)) ∧ zaa (kq ≤ k) ∧ zaa (Below w.heap.size w wc))
 case first =>
  have H := HC4.out; clear HC4
  by_cases c6 : a0 < 0
  ·rw [if_pos c6] at H
   have c6b0 : decide (a0 < 0) = true := decide_eq_true c6
   clear c6
   (first | rw [c6b0] | rw [c6b1] | (simp only [zaL, zaQ]; rw [c6b0]) | skip)
   replace H := Option.bind_eq_some_iff.mp H
   obtain ⟨t108, A70, H⟩ := H
   replace H : (zaT.j0 k a1 t108) = some (r1, r2) := H
   have A7 := zaa.mk A70; clear A70; have H' := zaa.mk H; clear H
   go_wp2_with (first | (go_at_call 113; (with_reducible refine (zaM.calls k (wrap64 (-a0)) t108 _ A7.out).mono ?_); rintro e w8 ⟨rfl, hb⟩; have n0_ := zaa.mk (zam (yq0 HB.out) hb); clear HB; have HB := n0_; clear n0_; (try clear hb); (try clear hb2); (try clear hk); (try clear hi)))
   repeat (go_quiet (first | (go_at_call 113; (with_reducible refine (zaM.calls k (wrap64 (-a0)) t108 _ A7.out).mono ?_); rintro e w8 ⟨rfl, hb⟩; have n0_ := zaa.mk (zam (yq0 HB.out) hb); clear HB; have HB := n0_; clear n0_; (try clear hb); (try clear hb2); (try clear hk); (try clear hi))); try go_wp2_with (first | (go_at_call 113; (with_reducible refine (zaM.calls k (wrap64 (-a0)) t108 _ A7.out).mono ?_); rintro e w8 ⟨rfl, hb⟩; have n0_ := zaa.mk (zam (yq0 HB.out) hb); clear HB; have HB := n0_; clear n0_; (try clear hb); (try clear hb2); (try clear hk); (try clear hi))))
   go_meet
   case rel => exact ⟨_, (t108), yq2, H', ⟨yq36⟩, ⟨yq0 HB.out⟩⟩
  rw [if_neg c6] at H
  have c6b0 : decide (a0 < 0) = false := decide_eq_false c6
  clear c6
  (first | rw [c6b0] | rw [c6b1] | (simp only [zaL, zaQ]; rw [c6b0]) | skip)
  have H' := zaa.mk H; clear H
  go_wp2
  repeat (go_quiet (fail); try go_wp2)
  go_meet
  case rel => exact ⟨_, (t107), yq2, H', ⟨yq36⟩, ⟨yq0 HB.out⟩⟩
 case rest =>
  clear HC4
  obtain ⟨kq, x6_3, rfl, HA, HJ3, HB⟩ := hcut
  cases kq with
  | zero => exact absurd HA.out (by simp [zaT.j0])
  | succ kj3 =>
   have H := HA.out; clear HA
   simp only [zaT.j0] at H
   have H' := zaa.mk H; clear H
   go_wp2
   repeat (go_quiet (fail); try go_wp2)
   go_loopg [6] kj3 (fun kq v6 w' => ∃ (x6_2 : ByteArray), v6 = .string x6_2 ∧ zaa (zaT.l0 kq a1 x6_2 = some (r1, r2)) ∧ zaa (kq ≤ kj3) ∧ zaa (Below w.heap.size w w'))
   case atStart => exact ⟨(x6_3), yq2, H', ⟨Nat.le_refl _⟩, ⟨yq0 HB.out⟩⟩
   case round =>
    clear H'
    obtain ⟨x6_2, rfl, HA, HK2, HB⟩ := hrel
    cases gk with
    | zero => exact absurd HA.out (by simp [zaT.l0])
    | succ k2 =>
     have H := HA.out; clear HA
     simp only [zaT.l0] at H
     by_cases c9 : (x6_2.size : Int) ≤ a1
     ·rw [if_pos c9] at H
      have c9b0 : decide ((x6_2.size : Int) ≤ a1) = true := decide_eq_true c9
      clear c9
      by_cases c10 : 1 + x6_2.size ≤ 9223372036854775807
      ·rw [if_pos c10] at H
       have c10b0 := eq_true c10
       have c10b1 : decide (1 + x6_2.size ≤ 9223372036854775807) = true := decide_eq_true c10
       try have c10b2 : (9223372036854775807 < 1 + x6_2.size) = False := eq_false (Nat.not_lt.2 c10)
       have H' := zaa.mk H; clear H
       go_wp2
       repeat (go_quiet (fail); try go_wp2)
       go_roundg k2
       case measure => have := HJ3.out; have := HK2.out; omega
       case rel => exact ⟨((⟨#[48]⟩ : ByteArray) ++ x6_2), yq2, H', ⟨yq25 HJ3.out HK2.out⟩, ⟨yq0 HB.out⟩⟩
      rw [if_neg c10] at H
      exact absurd H yq27
     rw [if_neg c9] at H
     have c9b0 : decide ((x6_2.size : Int) ≤ a1) = false := decide_eq_false c9
     clear c9
     obtain ⟨ji11, hji11⟩ : ∃ j_ : Int, (wrap64 ((x6_2.size : Int) - a1)) = j_ := ⟨_, rfl⟩
     replace H : (if 0 ≤ (ji11) then (if (ji11) ≤ (x6_2.size : Int) then (some (x6_2.extract 0 ((ji11) : Int).toNat, x6_2.extract ((ji11) : Int).toNat x6_2.size)) else (none)) else (none)) = some (r1, r2) := by first | (rw [hji11] at H; exact H) | (simp only [hji11] at H ⊢; exact H)
     have hji11w : (IntKind.i64.wrap ((x6_2.size : Int) - a1)) = ji11 := (zaL _).trans hji11
     by_cases c12 : 0 ≤ (ji11)
     ·rw [if_pos c12] at H
      have c12b0 := eq_true c12
      have c12b1 : decide (0 ≤ (ji11)) = true := decide_eq_true c12
      clear c12
      by_cases c13 : (ji11) ≤ (x6_2.size : Int)
      ·rw [if_pos c13] at H
       have c13b0 := eq_true c13
       have c13b1 : decide ((ji11) ≤ (x6_2.size : Int)) = true := decide_eq_true c13
       clear c13
       have c14b0 := eq_true (of_decide_eq_true yq1 : 0 ≤ (ji11))
       have c15b0 := eq_true (of_decide_eq_true yq1 : (ji11) ≤ (x6_2.size : Int))
       simp only [Option.some.injEq, Prod.mk.injEq] at H
       obtain ⟨rfl, rfl⟩ := H
       go_wp2
       repeat (go_quiet (fail); try go_wp2)
       go_ret2
       exact ⟨by first | rfl | (simp [zao, zaq] <;> rfl) | (simp only [← hji11]; first | rfl | (simp [zao, zaq] <;> rfl)) | (simp [*, zao, zaq] <;> rfl), yq0 HB.out⟩
      rw [if_neg c13] at H
      exact absurd H yq27
     rw [if_neg c12] at H
     exact absurd H yq27
end Go.Proofs.YtfafjbolmeimmaaGreatDoor.P
