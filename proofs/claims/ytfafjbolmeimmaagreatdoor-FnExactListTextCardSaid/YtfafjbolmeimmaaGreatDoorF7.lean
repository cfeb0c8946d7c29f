/- Parts of a proof: words of the print tool that this claim uses, or plain lists. -/
import Derived.Test.YtfafjbolmeimmaaGreatDoorAb
import Derived.Test.YtfafjbolmeimmaaGreatDoorF4
import Derived.Test.YtfafjbolmeimmaaGreatDoorJ24
import Derived.Test.YtfafjbolmeimmaaGreatDoorF6
namespace Go.Proofs.YtfafjbolmeimmaaGreatDoor.P
open Go.RowKit Go.Proofs.YtfafjbolmeimmaaGreatDoorW.PrintWords Go.Proofs.YtfafjbolmeimmaaGreatDoorW.PrintLast Go.Proofs.YtfafjbolmeimmaaGreatDoorW.PrintMore
attribute [local go_sem] zbw zbx max_two min_two zbe zbd zbu zbv
set_option linter.unusedVariables false
set_option linter.unusedSimpArgs false
def za4.l0 : Nat → List ByteArray → List ByteArray → Int → Option (Bool)
 | 0, _, _, _ => none
 | k + 1, x0, x1, x5 => if x5 < (x0.length : Int) then (if 0 ≤ x5 then (if x5 < (x1.length : Int) then (if (rdOf ByteArray.empty x0 x5).toList = (rdOf ByteArray.empty x1 x5).toList then (za4.l0 k x0 x1 (wrap64 (x5 + 1))) else (some false)) else (none)) else (none)) else (some true)
def za4.f (k : Nat) (l0 : List ByteArray) (l1 : List ByteArray) : Option (Bool) := if (l0.length : Int) = (l1.length : Int) then (za4.l0 k l0 l1 0) else (some false)
set_option maxHeartbeats 8000000 in
set_option maxRecDepth 100000 in
theorem za4.calls (k : Nat) (A0 : Option Addr) (c0 : Nat) (l0 : List ByteArray) (A1 : Option Addr) (c1 : Nat) (l1 : List ByteArray) (r : Bool) (w : World) (hr0 : Kd.C Kd.string w A0 l0.length l0) (hc0 : l0.length ≤ c0) (hr1 : Kd.C Kd.string w A1 l1.length l1) (hc1 : l1.length ≤ c1) (h : za4.f k l0 l1 = some r) :
  Calls Tryz.prog 22 #[.slice A0 l0.length c0, .slice A1 l1.length c1] w fun e w' => e = .returned (.bool r) ∧ zas w w' := by
 have HR0 := zaa.mk hr0; have HC0 := zaa.mk hc0; clear hr0 hc0; have HR1 := zaa.mk hr1; have HC1 := zaa.mk hc1; clear hr1 hc1
 have H : (if (l0.length : Int) = (l1.length : Int) then (za4.l0 k l0 l1 0) else (some false)) = some r := h
 clear h
 by_cases c3 : (l0.length : Int) = (l1.length : Int)
 ·rw [if_pos c3] at H
  have c3b0 : ((l0.length : Int) == (l1.length : Int)) = true := beq_iff_eq.mpr c3
  have c3b1 : ((l0.length : Int) != (l1.length : Int)) = false := bne_eq_false_iff_eq.mpr c3
  have c3b2 : (l0.length == l1.length) = true := by first | simpa using c3 | (simp at c3 ⊢; omega)
  clear c3; have H' := zaa.mk H; clear H
  go_enter Tryz.func22, Tryz.ntmps22
  go_wp2
  repeat (go_quiet (fail); try go_wp2)
  go_loopg [5] k (fun kq v5 w' => ∃ (x5_1 : Int), v5 = .int .i64 x5_1 ∧ zaa (za4.l0 kq l0 l1 x5_1 = some r) ∧ zaa (kq ≤ k) ∧ zas w w')
  case atStart => exact ⟨(0), yq4, H', ⟨Nat.le_refl _⟩, yq10⟩
  case round =>
   clear H'
   try clear c1
   try clear c3b0
   try clear c3b1
   try clear c3b2
   obtain ⟨x5_1, rfl, HA, HK1, ⟨m1, rfl⟩⟩ := hrel
   cases gk with
   | zero => exact absurd HA.out (by simp [za4.l0])
   | succ k1 =>
    have H := HA.out; clear HA
    simp only [za4.l0] at H
    by_cases c4 : x5_1 < (l0.length : Int)
    ·rw [if_pos c4] at H
     have c4b0 : decide (x5_1 < (l0.length : Int)) = true := decide_eq_true c4
     clear c4
     by_cases c5 : 0 ≤ x5_1
     ·rw [if_pos c5] at H
      have c5b0 : decide (0 ≤ x5_1) = true := decide_eq_true c5
      clear c5
      by_cases c6 : x5_1 < (l1.length : Int)
      ·rw [if_pos c6] at H
       have c6b0 : decide (x5_1 < (l1.length : Int)) = true := decide_eq_true c6
       clear c6
       by_cases c7 : (rdOf ByteArray.empty l0 x5_1).toList = (rdOf ByteArray.empty l1 x5_1).toList
       ·rw [if_pos c7] at H
        have c7b0 : ((rdOf ByteArray.empty l0 x5_1).toList == (rdOf ByteArray.empty l1 x5_1).toList) = true := beq_iff_eq.mpr c7
        have c7b1 : ((rdOf ByteArray.empty l0 x5_1).toList != (rdOf ByteArray.empty l1 x5_1).toList) = false := bne_eq_false_iff_eq.mpr c7
        clear c7; have H' := zaa.mk H; clear H
        have p329 : 0 ≤ (x5_1 : Int) := of_decide_eq_true yq1
        have q329 : x5_1 < (l0.length : Int) := of_decide_eq_true yq1
        obtain ⟨ad329, e329, hx329_0⟩ := Kd.za1 HR0.out x5_1 p329 q329
        cases e329
        replace p329 := eq_true p329
        replace q329 := eq_true q329
        have p330 : 0 ≤ (x5_1 : Int) := of_decide_eq_true yq1
        have q330 : x5_1 < (l1.length : Int) := of_decide_eq_true yq1
        obtain ⟨ad330, e330, hx330_0⟩ := Kd.za1 HR1.out x5_1 p330 q330
        cases e330
        replace p330 := eq_true p330
        replace q330 := eq_true q330
        go_wp2
        repeat (go_quiet (fail); try go_wp2)
        go_roundg k1
        case measure => have := HK1.out; omega
        case rel => exact ⟨(wrap64 (x5_1 + 1)), yq4, H', ⟨yq24 HK1.out⟩, yq10⟩
       rw [if_neg c7] at H
       have c7b0 : ((rdOf ByteArray.empty l0 x5_1).toList == (rdOf ByteArray.empty l1 x5_1).toList) = false := beq_eq_false_iff_ne.mpr c7
       have c7b1 : ((rdOf ByteArray.empty l0 x5_1).toList != (rdOf ByteArray.empty l1 x5_1).toList) = true := bne_iff_ne.mpr c7
       obtain rfl := Option.some.inj H
       have p329 : 0 ≤ (x5_1 : Int) := of_decide_eq_true yq1
       have q329 : x5_1 < (l0.length : Int) := of_decide_eq_true yq1
       obtain ⟨ad329, e329, hx329_0⟩ := Kd.za1 HR0.out x5_1 p329 q329
       cases e329
       replace p329 := eq_true p329
       replace q329 := eq_true q329
       have p330 : 0 ≤ (x5_1 : Int) := of_decide_eq_true yq1
       have q330 : x5_1 < (l1.length : Int) := of_decide_eq_true yq1
       obtain ⟨ad330, e330, hx330_0⟩ := Kd.za1 HR1.out x5_1 p330 q330
       cases e330
       replace p330 := eq_true p330
       replace q330 := eq_true q330
       go_wp2
       repeat (go_quiet (fail); try go_wp2)
       go_ret
       exact ⟨yq4, yq10⟩
      rw [if_neg c6] at H
      exact absurd H yq26
     rw [if_neg c5] at H
     exact absurd H yq26
    rw [if_neg c4] at H
    have c4b0 : decide (x5_1 < (l0.length : Int)) = false := decide_eq_false c4
    clear c4; obtain rfl := Option.some.inj H
    go_wp2
    repeat (go_quiet (fail); try go_wp2)
    go_ret
    exact ⟨yq4, yq10⟩
 rw [if_neg c3] at H
 have c3b0 : ((l0.length : Int) == (l1.length : Int)) = false := beq_eq_false_iff_ne.mpr c3
 have c3b1 : ((l0.length : Int) != (l1.length : Int)) = true := bne_iff_ne.mpr c3
 have c3b2 : (l0.length == l1.length) = false := by first | simpa using c3 | (simp at c3 ⊢; omega)
 obtain rfl := Option.some.inj H
 go_enter Tryz.func22, Tryz.ntmps22
 go_wp2
 repeat (go_quiet (fail); try go_wp2)
 go_ret
 exact ⟨yq4, yq10⟩
end Go.Proofs.YtfafjbolmeimmaaGreatDoor.P
namespace Go.Proofs.YtfafjbolmeimmaaGreatDoor.P
open Go.RowKit Go.Proofs.YtfafjbolmeimmaaGreatDoorW.PrintWords
set_option linter.unusedVariables false
theorem rdS (l : List ByteArray) (i : Nat) (h : i < l.length) : rdOf ByteArray.empty l (i : Int) = l[i] := by simp [rdOf, h]
theorem szS_l (l : List ByteArray) (hl : l.length ≤ 9223372036854775807) (hs : ∀ s ∈ l, s.size ≤ 9223372036854775807) : ∀ (d i : Nat), l.length - i = d → i ≤ l.length → ∀ a : Int, 0 ≤ a → a ≤ 1048576 →
  ∃ r, Ev (fun k => za7.l0 k l a (i : Int)) r ∧ r ≤ a ∧ (0 ≤ r → ∀ s ∈ l.drop i, s.size ≤ 1048576) := by
 intro d
 induction d with
 | zero =>
  intro i hd hi a h0 h1
  refine ⟨a, Ev.step (fun k => by rw [za7.l0]) (Ev.neg yq12 (Ev.now _)), Int.le_refl _, fun _ s hm => ?_⟩
  rw [List.drop_eq_nil_of_le yq12] at hm
  cases hm
 | succ d ih =>
  intro i hd hi a h0 h1
  have hlt : i < l.length := by omega
  have hz := hs l[i] (List.getElem_mem hlt)
  have e3 : wrap64 (a - (l[i].size : Int)) = a - (l[i].size : Int) := w64 yq12 yq12
  have e2 : wrap64 ((i : Int) + 1) = ((i + 1 : Nat) : Int) := by rw [w64 yq12 yq12]; omega
  by_cases hn : a - (l[i].size : Int) < 0
  ·refine ⟨-1, Ev.step (fun k => by rw [za7.l0]) (Ev.pos yq12 (Ev.pos yq12 ?_)), yq12, fun h => by omega⟩
   rw [rdS l i hlt, e3]
   exact Ev.pos hn (Ev.now _)
  obtain ⟨r, hr, hra, hrs⟩ := ih (i + 1) yq12 yq12 (a - (l[i].size : Int)) yq12 yq12
  refine ⟨r, Ev.step (fun k => by rw [za7.l0]) (Ev.pos yq12 (Ev.pos yq12 ?_)), yq12, fun h s hm => ?_⟩
  ·rw [rdS l i hlt, e3, e2]
   exact Ev.neg hn hr
  rw [List.drop_eq_getElem_cons hlt] at hm
  rcases List.mem_cons.1 hm with rfl | h2
  ·omega
  exact hrs h s h2
theorem szS_f (l : List ByteArray) (hl : l.length ≤ 9223372036854775807) (hs : ∀ s ∈ l, s.size ≤ 9223372036854775807) (a : Int) (h0 : 0 ≤ a) (h1 : a ≤ 1048576) :
  ∃ r, Ev (fun k => za7.f k l a) r ∧ r ≤ a ∧ (0 ≤ r → l.length ≤ 1048576 ∧ ∀ s ∈ l, s.size ≤ 1048576) := by
 have e3 : wrap64 (a - (l.length : Int)) = a - (l.length : Int) := w64 yq12 yq12
 by_cases hn : a - (l.length : Int) < 0
 ·refine ⟨-1, ?_, yq12, fun h => by omega⟩
  unfold za7.f
  rw [e3]
  exact Ev.pos hn (Ev.now _)
 obtain ⟨r, hr, hra, hrs⟩ := szS_l l hl hs _ 0 rfl yq12 (a - (l.length : Int)) yq12 yq12
 refine ⟨r, ?_, yq12, fun h => ⟨yq12, fun s hm => hrs h s (by simpa using hm)⟩⟩
 unfold za7.f
 rw [e3]
 exact Ev.neg hn hr
theorem copy_step {α : Type} (l : List α) (d : α) (i : Nat) (h : i < l.length) : ((l.take i ++ List.replicate (l.length - i) d).set i l[i]) = l.take (i + 1) ++ List.replicate (l.length - (i + 1)) d := by
 apply List.ext_getElem
 ·simp; omega
 intro j h1 h2
 simp at h1
 rw [List.getElem_set]
 by_cases e : i = j
 ·subst e
  rw [if_pos rfl, List.getElem_append_left (by simp; omega)]
  simp
 rw [if_neg e]
 by_cases c : j < i
 ·rw [List.getElem_append_left (by simp; omega), List.getElem_append_left (by simp; omega)]
  simp
 rw [List.getElem_append_right (by simp; omega), List.getElem_append_right (by simp; omega)]
 simp
theorem toS_l (l : List ByteArray) (hl : l.length ≤ 1099511627776) : ∀ (d i : Nat), l.length - i = d → i ≤ l.length →
  Ev (fun k => zaV.l0 k l (l.take i ++ List.replicate (l.length - i) (⟨#[]⟩ : ByteArray)) (i : Int)) l := by
 intro d
 induction d with
 | zero =>
  intro i hd hi
  obtain rfl : i = l.length := by omega
  refine Ev.step (fun k => by rw [zaV.l0]) (Ev.neg yq12 ((Ev.now _).to ?_))
  simp
 | succ d ih =>
  intro i hd hi
  have hlt : i < l.length := by omega
  have e2 := w_succ i yq12
  refine Ev.step (fun k => by rw [zaV.l0]) (Ev.pos yq12 (Ev.pos yq12 (Ev.pos (by simp; omega) ?_)))
  rw [rdS l i hlt, e2, Int.toNat_natCast, copy_step l _ i hlt]
  exact ih (i + 1) yq12 yq12
theorem toS_f (l : List ByteArray) (hl : l.length ≤ 1099511627776) : Ev (fun k => zaV.f k l) l := by
 have h := toS_l l hl _ 0 rfl yq12
 refine Ev.pos yq12 (Ev.pos yq12 ?_)
 rw [Int.toNat_natCast]
 simpa using h
end Go.Proofs.YtfafjbolmeimmaaGreatDoor.P
namespace Go.Proofs.YtfafjbolmeimmaaGreatDoor.P
open Go.RowKit Go.Proofs.YtfafjbolmeimmaaGreatDoorW.PrintWords Go.Proofs.YtfafjbolmeimmaaGreatDoorW.PrintLast Go.Proofs.YtfafjbolmeimmaaGreatDoorW.PrintMore
attribute [local go_sem] zbw zbx max_two min_two zbe zbd zbu zbv
set_option linter.unusedVariables false
set_option linter.unusedSimpArgs false
def laws_szInt64S.f (l0 : List Int) (a1 : Int) : Option (Int) := if (wrap64 (a1 - (l0.length : Int))) < 0 then (some (-1)) else (some (wrap64 (a1 - (l0.length : Int))))
set_option maxHeartbeats 8000000 in
set_option maxRecDepth 100000 in
theorem laws_szInt64S.calls (A0 : Option Addr) (c0 : Nat) (l0 : List Int) (a1 : Int) (r : Int) (w : World) (hr0 : Kd.C (Kd.int .i64) w A0 l0.length l0) (hc0 : l0.length ≤ c0) (h : laws_szInt64S.f l0 a1 = some r) :
  Calls Tryz.prog 30 #[.slice A0 l0.length c0, .int .i64 a1] w fun e w' => e = .returned (.int .i64 r) ∧ zas w w' := by
 have HR0 := zaa.mk hr0; have HC0 := zaa.mk hc0; clear hr0 hc0
 have H : (if (wrap64 (a1 - (l0.length : Int))) < 0 then (some (-1)) else (some (wrap64 (a1 - (l0.length : Int))))) = some r := h
 clear h
 by_cases c3 : (wrap64 (a1 - (l0.length : Int))) < 0
 ·rw [if_pos c3] at H
  have c3b0 : decide ((wrap64 (a1 - (l0.length : Int))) < 0) = true := decide_eq_true c3
  clear c3; obtain rfl := Option.some.inj H
  go_enter Tryz.func30, Tryz.ntmps30
  go_wp2
  go_ret
  exact ⟨yq4, yq10⟩
 rw [if_neg c3] at H
 have c3b0 : decide ((wrap64 (a1 - (l0.length : Int))) < 0) = false := decide_eq_false c3
 clear c3; obtain rfl := Option.some.inj H
 go_enter Tryz.func30, Tryz.ntmps30
 go_wp2
 go_ret
 exact ⟨yq4, yq10⟩
end Go.Proofs.YtfafjbolmeimmaaGreatDoor.P
namespace Go.Proofs.YtfafjbolmeimmaaGreatDoorW.PrintLast
open Go.RowKit Go.Proofs.YtfafjbolmeimmaaGreatDoorW.PrintWords
set_option linter.unusedVariables false
section
variable {P : Program} {md : Region.Mode} {ops : Array Oper} {Q : Exit → Act → World → Prop} {S : World → Prop} {T : Bool × List (List Nat × List Nat)} {B : List Nat}
def upA (k n : Nat) : Array Bool := (List.replicate k true ++ List.replicate (n - k) false).toArray
theorem sn_ {id n : Nat} {a : Act} {w : World} (hm : P.follows .mixedOrders = true) (hn : ops.size = n) (hl : Array.replicate n false = upA 0 n) (hS : S w.drew)
  (h : S w.drew → wpAnyLast P .any ops Q S [] n (upA 0 n) a w.drew) : (Code.region id ops true).wp P Q a w := start_ _ hm hn hl hS h
theorem pn_ (b : Nat) {k n : Nat} {oi : Oper} {v : Value} {fuel : Nat} {a : Act} {w : World} (hi : ops[k]? = some oi) (hN : oi.dst = some (b + k)) (hT : zaa (rtab md ops = T)) (hc : anyT T (upA k n).toList (upA (k + 1) n).toList k = true)
  (hQ : ∀ c a w, Q (.panic c) (a.put oi.dst v) w → Q (.panic c) a w) (hy : Yields P ops oi v a) {a' : Act} (ha : a.put (some (b + k)) v = a')
  (h : wpAnyLast P md ops Q S [] fuel (upA (k + 1) n) a' w) : wpAnyLast P md ops Q S [] (fuel + 1) (upA k n) a w := pure_ _ hi hN (any_of hT.out hc) hQ hy ha h
theorem tn_ (b : Nat) {k n : Nat} {oi : Oper} {v : Value} {fuel : Nat} {a : Act} {w : World} (hi : ops[k]? = some oi) (hN : oi.dst = some (b + k)) (hT : zaa (rtab md ops = T)) (hB : zaa (waitsOk T.2 B = true)) (hc : takeW T B [] (upA k n).toList (upA (k + 1) n).toList k = true)
  (hQ : ∀ c a w, Q (.panic c) (a.put oi.dst v) w → Q (.panic c) a w) (hy : YieldsIf P ops S oi v a) (hS : S w) {a' : Act} (ha : a.put (some (b + k)) v = a')
  (h : wpAnyLast P md ops Q S [] fuel (upA (k + 1) n) a' w) : wpAnyLast P md ops Q S [] (fuel + 1) (upA k n) a w := take_ _ hi hN (take_ofW hT.out hB.out hc) hQ hy hS ha h
theorem on_ (b : Nat) {k n : Nat} {oi : Oper} {fuel : Nat} {a : Act} {w : World} (hi : ops[k]? = some oi) (hN : oi.dst = some (b + k)) (hT : zaa (rtab md ops = T)) (hc : (readyT T.2 (upA k n).toList == [k] && (upA k n).toList.set k true == (upA (k + 1) n).toList) = true)
  (h : ∀ K : Act → World → Prop, Shut (∀ a' w', S w' → (S w' → wpAnyLast P md ops Q S [] fuel (upA (k + 1) n) a' w') → K a' w') → if Region.wanted oi (yielded ops a.tmps) = true then Oper.wp P oi a w K Q else K (a.put (some (b + k)) undef) w) :
  wpAnyLast P md ops Q S [] (fuel + 1) (upA k n) a w := one_ _ hi hN (one_of hT.out hc) yq26 h
theorem pf_ (N : Tmp) {k n : Nat} {oi : Oper} {v : Value} {fuel : Nat} {a : Act} {w : World} (hi : ops[k]? = some oi) (hN : oi.dst = some N) (hT : zaa (rtab md ops = T)) (hc : anyT T (upA k n).toList (upA (k + 1) n).toList k = true)
  (hQ : ∀ c a w, Q (.panic c) (a.put oi.dst v) w → Q (.panic c) a w) (hy : Yields P ops oi v a) {a' : Act} (ha : a.put (some N) v = a')
  (h : wpAnyLast P md ops Q S [] fuel (upA (k + 1) n) a' w) : wpAnyLast P md ops Q S [] (fuel + 1) (upA k n) a w := pure_ _ hi hN (any_of hT.out hc) hQ hy ha h
theorem dn_ {k n : Nat} {a : Act} {w : World} {fuel : Nat} (hT : zaa (rtab md ops = T)) (hr : (readyT T.2 (upA k n).toList == []) = true) (h : Q .normal a w) : wpAnyLast P md ops Q S [] fuel (upA k n) a w := done_ (done_of hT.out hr) h
end
end Go.Proofs.YtfafjbolmeimmaaGreatDoorW.PrintLast
namespace Go.Proofs.YtfafjbolmeimmaaGreatDoor.P
open Go.RowKit Go.Proofs.YtfafjbolmeimmaaGreatDoorW.PrintWords Go.Proofs.YtfafjbolmeimmaaGreatDoorW.PrintLast Go.Proofs.YtfafjbolmeimmaaGreatDoorW.PrintMore
attribute [local go_sem] zbw zbx max_two min_two zbe zbd zbu zbv
set_option linter.unusedVariables false
set_option linter.unusedSimpArgs false
def zbl.l0 : Nat → List Int → List Int → Int → Option (Bool)
 | 0, _, _, _ => none
 | k + 1, x0, x1, x5 => if x5 < (x0.length : Int) then (if 0 ≤ x5 then (if x5 < (x1.length : Int) then (if (rd x0 x5) = (rd x1 x5) then (zbl.l0 k x0 x1 (wrap64 (x5 + 1))) else (some false)) else (none)) else (none)) else (some true)
def zbl.f (k : Nat) (l0 : List Int) (l1 : List Int) : Option (Bool) := if (l0.length : Int) = (l1.length : Int) then (zbl.l0 k l0 l1 0) else (some false)
set_option maxHeartbeats 8000000 in
set_option maxRecDepth 100000 in
theorem zbl.calls (k : Nat) (A0 : Option Addr) (c0 : Nat) (l0 : List Int) (A1 : Option Addr) (c1 : Nat) (l1 : List Int) (r : Bool) (w : World) (hr0 : Kd.C (Kd.int .i64) w A0 l0.length l0) (hc0 : l0.length ≤ c0) (hr1 : Kd.C (Kd.int .i64) w A1 l1.length l1) (hc1 : l1.length ≤ c1) (h : zbl.f k l0 l1 = some r) :
  Calls Tryz.prog 50 #[.slice A0 l0.length c0, .slice A1 l1.length c1] w fun e w' => e = .returned (.bool r) ∧ zas w w' := by
 have HR0 := zaa.mk hr0; have HC0 := zaa.mk hc0; clear hr0 hc0; have HR1 := zaa.mk hr1; have HC1 := zaa.mk hc1; clear hr1 hc1
 have H : (if (l0.length : Int) = (l1.length : Int) then (zbl.l0 k l0 l1 0) else (some false)) = some r := h
 clear h
 by_cases c3 : (l0.length : Int) = (l1.length : Int)
 ·rw [if_pos c3] at H
  have c3b0 : ((l0.length : Int) == (l1.length : Int)) = true := beq_iff_eq.mpr c3
  have c3b1 : ((l0.length : Int) != (l1.length : Int)) = false := bne_eq_false_iff_eq.mpr c3
  have c3b2 : (l0.length == l1.length) = true := by first | simpa using c3 | (simp at c3 ⊢; omega)
  clear c3; have H' := zaa.mk H; clear H
  go_enter Tryz.func50, Tryz.ntmps50
  go_wp2
  repeat (go_quiet (fail); try go_wp2)
  go_loopg [5] k (fun kq v5 w' => ∃ (x5_1 : Int), v5 = .int .i64 x5_1 ∧ zaa (zbl.l0 kq l0 l1 x5_1 = some r) ∧ zaa (kq ≤ k) ∧ zas w w')
  case atStart => exact ⟨(0), yq4, H', ⟨Nat.le_refl _⟩, yq10⟩
  case round =>
   clear H'
   try clear c1
   try clear c3b0
   try clear c3b1
   try clear c3b2
   obtain ⟨x5_1, rfl, HA, HK1, ⟨m1, rfl⟩⟩ := hrel
   cases gk with
   | zero => exact absurd HA.out (by simp [zbl.l0])
   | succ k1 =>
    have H := HA.out; clear HA
    simp only [zbl.l0] at H
    by_cases c4 : x5_1 < (l0.length : Int)
    ·rw [if_pos c4] at H
     have c4b0 : decide (x5_1 < (l0.length : Int)) = true := decide_eq_true c4
     clear c4
     by_cases c5 : 0 ≤ x5_1
     ·rw [if_pos c5] at H
      have c5b0 : decide (0 ≤ x5_1) = true := decide_eq_true c5
      clear c5
      by_cases c6 : x5_1 < (l1.length : Int)
      ·rw [if_pos c6] at H
       have c6b0 : decide (x5_1 < (l1.length : Int)) = true := decide_eq_true c6
       clear c6
       by_cases c7 : (rd l0 x5_1) = (rd l1 x5_1)
       ·rw [if_pos c7] at H
        have c7b0 : ((rd l0 x5_1) == (rd l1 x5_1)) = true := beq_iff_eq.mpr c7
        have c7b1 : ((rd l0 x5_1) != (rd l1 x5_1)) = false := bne_eq_false_iff_eq.mpr c7
        clear c7; have H' := zaa.mk H; clear H
        have p331 : 0 ≤ (x5_1 : Int) := of_decide_eq_true yq1
        have q331 : x5_1 < (l0.length : Int) := of_decide_eq_true yq1
        obtain ⟨ad331, e331, hx331_0⟩ := Kd.at_int HR0.out x5_1 p331 q331
        cases e331
        replace p331 := eq_true p331
        replace q331 := eq_true q331
        have p332 : 0 ≤ (x5_1 : Int) := of_decide_eq_true yq1
        have q332 : x5_1 < (l1.length : Int) := of_decide_eq_true yq1
        obtain ⟨ad332, e332, hx332_0⟩ := Kd.at_int HR1.out x5_1 p332 q332
        cases e332
        replace p332 := eq_true p332
        replace q332 := eq_true q332
        go_wp2
        repeat (go_quiet (fail); try go_wp2)
        go_roundg k1
        case measure => have := HK1.out; omega
        case rel => exact ⟨(wrap64 (x5_1 + 1)), yq4, H', ⟨yq24 HK1.out⟩, yq10⟩
       rw [if_neg c7] at H
       have c7b0 : ((rd l0 x5_1) == (rd l1 x5_1)) = false := beq_eq_false_iff_ne.mpr c7
       have c7b1 : ((rd l0 x5_1) != (rd l1 x5_1)) = true := bne_iff_ne.mpr c7
       obtain rfl := Option.some.inj H
       have p331 : 0 ≤ (x5_1 : Int) := of_decide_eq_true yq1
       have q331 : x5_1 < (l0.length : Int) := of_decide_eq_true yq1
       obtain ⟨ad331, e331, hx331_0⟩ := Kd.at_int HR0.out x5_1 p331 q331
       cases e331
       replace p331 := eq_true p331
       replace q331 := eq_true q331
       have p332 : 0 ≤ (x5_1 : Int) := of_decide_eq_true yq1
       have q332 : x5_1 < (l1.length : Int) := of_decide_eq_true yq1
       obtain ⟨ad332, e332, hx332_0⟩ := Kd.at_int HR1.out x5_1 p332 q332
       cases e332
       replace p332 := eq_true p332
       replace q332 := eq_true q332
       go_wp2
       repeat (go_quiet (fail); try go_wp2)
       go_ret
       exact ⟨yq4, yq10⟩
      rw [if_neg c6] at H
      exact absurd H yq26
     rw [if_neg c5] at H
     exact absurd H yq26
    rw [if_neg c4] at H
    have c4b0 : decide (x5_1 < (l0.length : Int)) = false := decide_eq_false c4
    clear c4; obtain rfl := Option.some.inj H
    go_wp2
    repeat (go_quiet (fail); try go_wp2)
    go_ret
    exact ⟨yq4, yq10⟩
 rw [if_neg c3] at H
 have c3b0 : ((l0.length : Int) == (l1.length : Int)) = false := beq_eq_false_iff_ne.mpr c3
 have c3b1 : ((l0.length : Int) != (l1.length : Int)) = true := bne_iff_ne.mpr c3
 have c3b2 : (l0.length == l1.length) = false := by first | simpa using c3 | (simp at c3 ⊢; omega)
 obtain rfl := Option.some.inj H
 go_enter Tryz.func50, Tryz.ntmps50
 go_wp2
 repeat (go_quiet (fail); try go_wp2)
 go_ret
 exact ⟨yq4, yq10⟩
end Go.Proofs.YtfafjbolmeimmaaGreatDoor.P
