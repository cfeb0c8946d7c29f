/- Written by a program of this session: plain Lean functions for Go functions, and for each the proof that the call comes to what the function says. -/
import Derived.Test.YtfafjbolmeimmaaDoorF0
import Derived.Test.YtfafjbolmeimmaaDoorF11
import Derived.Test.YtfafjbolmeimmaaDoorF17
import Derived.Test.YtfafjbolmeimmaaDoorF18
import Derived.Test.YtfafjbolmeimmaaDoorF19
import Derived.Test.YtfafjbolmeimmaaDoorF8
namespace Go.Proofs.YtfafjbolmeimmaaDoor.P
open Go.RowKit Go.Proofs.YtfafjbolmeimmaaDoorW.PrintWords Go.Proofs.YtfafjbolmeimmaaDoorW.PrintLast Go.Proofs.YtfafjbolmeimmaaDoorW.PrintMore
attribute [local go_sem] max2_int min2_int max_two min_two max_three min_three max_four min_four
set_option linter.unusedVariables false
set_option linter.unusedSimpArgs false
theorem fld27 (a b c : Value) (w : World) : Sem.run Tryd.prog (Instr.field 27 (.agg #[a, b, c]) 0) w = .ok a w := by
 have hu := Tryd.underlying27
 unfold Instr.field
 go_simp
 rfl
mutual
def zay.j0 : Nat → List Int → List Int → Bool → Option (Bool)
 | 0, _, _, _ => none
 | k + 1, x0, x1, x22 => if x22 = true then (some true) else ((za2.f k x0).bind fun bt624 => ((spec_Decode.f k bt624.1 bt624.2).bind fun bt626 => (if bt626.1 = 0 then (zay.l0 k x1 bt624.2 (⟨#[]⟩ : ByteArray) (([] : List Int)) 0 bt626.1 bt626.2.1 bt626.2.2 bt624.1 (⟨#[]⟩ : ByteArray) 0) else ((impl_Decode.f k bt624.1 bt624.2).bind fun bt632 => (some (bt632.1 == bt626.1))))))
def zay.l0 : Nat → List Int → ByteArray → ByteArray → List Int → Int → Int → ByteArray → List Int → Int → ByteArray → Int → Option (Bool)
 | 0, _, _, _, _, _, _, _, _, _, _, _ => none
 | k + 1, x1, x6, x9, x10, x11, x632000, x632001, x632002, x638000, x638001, x638002 => if (x6.size : Int) > 0 then (zay.j2 k x1 x6 x9 x10 x11 (decide (x11 < 2000)) x632000 x632001 x632002 x638000 x638001 x638002) else (zay.j2 k x1 x6 x9 x10 x11 false x632000 x632001 x632002 x638000 x638001 x638002)
def zay.j2 : Nat → List Int → ByteArray → ByteArray → List Int → Int → Bool → Int → ByteArray → List Int → Int → ByteArray → Int → Option (Bool)
 | 0, _, _, _, _, _, _, _, _, _, _, _, _ => none
 | k + 1, x1, x6, x9, x10, x11, x50, x632000, x632001, x632002, x638000, x638001, x638002 => if x50 = true then ((laws_lwAt.f x1 x11 5).bind fun t654 => (if (wrap64 (1 + t654)) > (x6.size : Int) then (zay.j3 k x1 x6 x9 x10 x11 (wrap64 (1 + t654)) true x632000 x632001 x632002 x638000 x638001 x638002) else (zay.j3 k x1 x6 x9 x10 x11 (wrap64 (1 + t654)) (x11 == 1999) x632000 x632001 x632002 x638000 x638001 x638002))) else ((impl_EndDecoder.f k x638000 x638001 x638002).bind fun bt641 => (if bt641.1 = 0 then (if bt641.2.2.1.toList = ([] : List UInt8) then (if x9.size + bt641.2.2.2.2.1.size ≤ 9223372036854775807 then (if (x9 ++ bt641.2.2.2.2.1).toList = x632001.toList then (if x10.length + bt641.2.2.2.2.2.length < 17592186044416 then ((zbC.f k (x10 ++ bt641.2.2.2.2.2) x632002).bind fun t653 => (some t653)) else (none)) else (some false)) else (none)) else (some false)) else (some false)))
def zay.j3 : Nat → List Int → ByteArray → ByteArray → List Int → Int → Int → Bool → Int → ByteArray → List Int → Int → ByteArray → Int → Option (Bool)
 | 0, _, _, _, _, _, _, _, _, _, _, _, _, _ => none
 | k + 1, x1, x6, x9, x10, x11, x12, x64, x632000, x632001, x632002, x638000, x638001, x638002 => if x64 = true then (zay.j4 k x1 x6 x9 x10 x11 (x6.size : Int) x632000 x632001 x632002 x638000 x638001 x638002) else (zay.j4 k x1 x6 x9 x10 x11 x12 x632000 x632001 x632002 x638000 x638001 x638002)
def zay.j4 : Nat → List Int → ByteArray → ByteArray → List Int → Int → Int → Int → ByteArray → List Int → Int → ByteArray → Int → Option (Bool)
 | 0, _, _, _, _, _, _, _, _, _, _, _, _ => none
 | k + 1, x1, x6, x9, x10, x11, x12, x632000, x632001, x632002, x638000, x638001, x638002 => if 0 ≤ x12 then (if x12 ≤ (x6.size : Int) then ((impl_FeedDecoder.f k x638000 x638001 x638002 (x6.extract 0 (x12 : Int).toNat)).bind fun bt655 => (if bt655.1 = 0 then ((zaI.f k bt655.2.1 bt655.2.2.1 bt655.2.2.2.1).bind fun t664 => (if t664 = 0 then (if x9.size + bt655.2.2.2.2.1.size ≤ 9223372036854775807 then (if x10.length + bt655.2.2.2.2.2.length < 17592186044416 then (zay.l0 k x1 (x6.extract (x12 : Int).toNat x6.size) (x9 ++ bt655.2.2.2.2.1) (x10 ++ bt655.2.2.2.2.2) (wrap64 (x11 + 1)) x632000 x632001 x632002 bt655.2.1 bt655.2.2.1 bt655.2.2.2.1) else (none)) else (none)) else (some false))) else (some false))) else (none)) else (none)
end
def zay.f (k : Nat) (l0 : List Int) (l1 : List Int) : Option (Bool) := if (l0.length : Int) > 1048576 then (zay.j0 k l0 l1 true) else (zay.j0 k l0 l1 (decide ((l1.length : Int) > 1048576)))
def zay.T6 : Bool × List (List Nat × List Nat) := (true, [([], []), ([], []), ([0, 1], [0, 1]), ([2], [2]), ([], []), ([4], [4]), ([3, 5], [3, 5]), ([6, 2, 0, 1, 2, 3, 4, 5, 6], [6])])
def zay.B6 : List Nat := [0, 0, 3, 7, 0, 16, 63, 127]
theorem zay.tab6 : rtab .any (opsOf Tryd.f3 6) = zay.T6 := by kernel_rfl
theorem zay.bits6 : waitsOk zay.T6.2 zay.B6 = true := by kernel_rfl
def zay.T24 : Bool × List (List Nat × List Nat) := (true, [([], []), ([0], [0]), ([1], [1]), ([2], [2]), ([3], [3]), ([4, 3], [3, 4]), ([5, 3], [3, 5]), ([6, 3], [3, 6]), ([3, 7], [3, 7]), ([8, 3], [8]), ([9], [9]), ([9], [9]), ([11, 9], [9, 11]), ([10, 12, 9], [9, 10, 12]), ([9], [9]), ([14, 9], [9, 14]), ([13, 15, 9], [9, 13, 15]), ([9, 16], [9, 16]), ([17, 9], [17]), ([18], [18]), ([18], [18]), ([20, 18], [18, 20]), ([19, 21, 18, 18], [18, 19, 21]), ([18], [18]), ([23, 18], [18, 23]), ([22, 24, 22, 18], [18, 22, 24]), ([18, 25], [18, 25]), ([26, 25, 0, 1, 2, 3, 4, 5, 6, 7, 8, 9, 10, 11, 12, 13, 14, 15, 16, 17, 18, 19, 20, 21, 22, 23, 24, 25, 26], [26])])
def zay.B24 : List Nat := [0, 1, 3, 7, 15, 31, 63, 127, 255, 511, 1023, 1023, 3071, 8191, 1023, 17407, 65535, 131071, 262143, 524287, 524287, 1572863, 4194303, 524287, 8912895, 33554431, 67108863, 134217727]
theorem zay.tab24 : rtab .any (opsOf Tryd.f3 24) = zay.T24 := by kernel_rfl
theorem zay.bits24 : waitsOk zay.T24.2 zay.B24 = true := by kernel_rfl
set_option maxHeartbeats 8000000 in
set_option maxRecDepth 100000 in
theorem zay.calls (k : Nat) (A0 : Option Addr) (c0 : Nat) (l0 : List Int) (A1 : Option Addr) (c1 : Nat) (l1 : List Int) (r : Bool) (w : World) (hr0 : Kd.C (Kd.int .u8) w A0 l0.length l0) (hc0 : l0.length ≤ c0) (hr1 : Kd.C (Kd.int .u8) w A1 l1.length l1) (hc1 : l1.length ≤ c1) (hG : GT w) (h : zay.f k l0 l1 = some r) :
  Calls Tryd.prog 3 #[.slice A0 l0.length c0, .slice A1 l1.length c1] w fun e w' => e = .returned (.bool r) ∧ Below w.heap.size w w' := by
 have hu27 := Tryd.underlying27
 have hu30 := Tryd.underlying30
 have hu33 := Tryd.underlying33
 have HR0 := zab.mk hr0; have HC0 := zab.mk hc0; clear hr0 hc0; have HR1 := zab.mk hr1; have HC1 := zab.mk hc1; clear hr1 hc1; have HG := zab.mk hG; clear hG
 have HB := zab.mk (Below.refl w.heap.size w)
 have H : (if (l0.length : Int) > 1048576 then (zay.j0 k l0 l1 true) else (zay.j0 k l0 l1 (decide ((l1.length : Int) > 1048576)))) = some r := h
 clear h; have HC3 := zab.mk H; clear H
 go_enter Tryd.func3, Tryd.ntmps3
 go_upto_region 1 with (fail)
 go_cut [22] (fun v22 wc => ∃ (kq : Nat) (x22_2 : Bool), v22 = .bool x22_2 ∧ zab (zay.j0 kq l0 l1 x22_2 = some r) ∧ zab (kq ≤ k) ∧ zab (Below w.heap.size w wc))
 case first =>
  have H := HC3.out; clear HC3
  by_cases c4 : (l0.length : Int) > 1048576
  ·rw [if_pos c4] at H
   have c4b0 : decide (1048576 < (l0.length : Int)) = true := decide_eq_true c4
   have c4b1 : decide (1048576 < l0.length) = true := decide_eq_true (by omega)
   clear c4
   (first | rw [c4b0] | rw [c4b1] | (simp only [zaR, zaS]; rw [c4b0]) | skip)
   have H' := zab.mk H; clear H
   go_wp2
   go_meet
   case rel => exact ⟨_, (true), rfl, H', ⟨by first | omega | exact Nat.le_refl _⟩, ⟨by repeat (first | (with_reducible first | exact HB.out | apply zad | apply zaa | apply zac) | exact HB.out)⟩⟩
  rw [if_neg c4] at H
  have c4b0 : decide (1048576 < (l0.length : Int)) = false := decide_eq_false c4
  have c4b1 : decide (1048576 < l0.length) = false := decide_eq_false (by omega)
  clear c4
  (first | rw [c4b0] | rw [c4b1] | (simp only [zaR, zaS]; rw [c4b0]) | skip)
  have H' := zab.mk H; clear H
  go_wp2
  go_meet
  case rel => exact ⟨_, (decide ((l1.length : Int) > 1048576)), rfl, H', ⟨by first | omega | exact Nat.le_refl _⟩, ⟨by repeat (first | (with_reducible first | exact HB.out | apply zad | apply zaa | apply zac) | exact HB.out)⟩⟩
 case rest =>
  clear HC3
  try clear c1
  obtain ⟨kq, x22_2, rfl, HA, HJ2, HB⟩ := hcut
  cases kq with
  | zero => exact absurd HA.out (by simp [zay.j0])
  | succ kj2 =>
   have H := HA.out; clear HA
   simp only [zay.j0] at H
   by_cases c5 : x22_2 = true
   ·subst c5
    replace H : (some true) = some r := by rw [if_pos rfl] at H; exact H
    obtain rfl := Option.some.inj H
    go_wp2
    go_ret
    exact ⟨by first | rfl | (simp [zar, zas] <;> rfl) | (simp [*, zar, zas] <;> rfl), by repeat (first | (with_reducible first | exact HB.out | apply zad | apply zaa | apply zac) | exact HB.out)⟩
   replace c5 := Bool.eq_false_iff.mpr c5
   subst c5
   replace H : ((za2.f kj2 l0).bind fun bt624 => ((spec_Decode.f kj2 bt624.1 bt624.2).bind fun bt626 => (if bt626.1 = 0 then (zay.l0 kj2 l1 bt624.2 (⟨#[]⟩ : ByteArray) (([] : List Int)) 0 bt626.1 bt626.2.1 bt626.2.2 bt624.1 (⟨#[]⟩ : ByteArray) 0) else ((impl_Decode.f kj2 bt624.1 bt624.2).bind fun bt632 => (some (bt632.1 == bt626.1)))))) = some r := by rw [if_neg (show ¬ (false = true) by decide)] at H; exact H
   replace H := Option.bind_eq_some_iff.mp H
   obtain ⟨⟨t624, t625⟩, A60, H⟩ := H
   replace H : ((spec_Decode.f kj2 t624 t625).bind fun bt626 => (if bt626.1 = 0 then (zay.l0 kj2 l1 t625 (⟨#[]⟩ : ByteArray) (([] : List Int)) 0 bt626.1 bt626.2.1 bt626.2.2 t624 (⟨#[]⟩ : ByteArray) 0) else ((impl_Decode.f kj2 t624 t625).bind fun bt632 => (some (bt632.1 == bt626.1))))) = some r := H
   have A6 := zab.mk A60; clear A60; replace H := Option.bind_eq_some_iff.mp H
   obtain ⟨⟨t626, t627, t628⟩, A70, H⟩ := H
   replace H : (if t626 = 0 then (zay.l0 kj2 l1 t625 (⟨#[]⟩ : ByteArray) (([] : List Int)) 0 t626 t627 t628 t624 (⟨#[]⟩ : ByteArray) 0) else ((impl_Decode.f kj2 t624 t625).bind fun bt632 => (some (bt632.1 == t626)))) = some r := H
   have A7 := zab.mk A70; clear A70
   by_cases c8 : t626 = 0
   ·rw [if_pos c8] at H
    have c8b0 : (t626 == 0) = true := beq_iff_eq.mpr c8
    have c8b1 : (t626 != 0) = false := bne_eq_false_iff_eq.mpr c8
    clear c8
    obtain ⟨y638, hy638⟩ : ∃ y_ : List Int, y_ = (([] : List Int)) := ⟨_, rfl⟩
    replace H : (zay.l0 kj2 l1 t625 (⟨#[]⟩ : ByteArray) y638 0 t626 t627 t628 t624 (⟨#[]⟩ : ByteArray) 0) = some r := by first | (rw [hy638]; with_reducible exact H) | (have H2_ := (Option.bind_some _ _).symm.trans H; rw [hy638]; with_reducible exact H2_) | (have H2_ := (Option.bind_some _ _).symm.trans H; with_reducible exact H2_) | with_reducible exact H | (rw [hy638]; exact H) | exact H
    have Ny638 := zab.mk hy638; clear hy638; have H' := zab.mk H; clear H
    go_wp2_with (first | ((with_reducible refine zan (f := 5) rfl ?_); refine zaN (some 25) rfl rfl Tryd.func5 (by kernel_rfl) rfl #[.slice A0 l0.length c0] rfl (by (try simp only [List.map_toArray, List.map_cons, List.map_nil]); first | done | rfl | (simp only [List.length_drop, List.length_take]; rfl)) ?_; (with_reducible refine (za2.calls kj2 _ _ l0 t624 t625 _ ?side1 ?side2 A6.out).mono ?_); (case side1 => repeat (first | exact (Kd.C_below HR0.out HB.out) | (with_reducible refine Kd.C_alloc ?_ _) | (with_reducible refine Kd.C_drewN ?_ _) | (with_reducible refine Kd.C_drew ?_))); (case side2 => exact HC0.out); rintro e w9 ⟨rfl, hb⟩; refine ⟨_, rfl, ?_⟩; have n0_ := zab.mk (zau HB.out hb); clear HB; have HB := n0_; clear n0_; (try clear hb); (try clear hb2); (try clear hk); (try clear hi)) | ((with_reducible refine zan (f := 6) rfl ?_); refine zaN (some 30) rfl rfl Tryd.func6 (by kernel_rfl) rfl #[.int .i64 t624, .string t625] rfl (by (try simp only [List.map_toArray, List.map_cons, List.map_nil]); first | done | rfl | (simp only [List.length_drop, List.length_take]; rfl)) ?_; (with_reducible refine (spec_Decode.calls kj2 t624 t625 t626 t627 t628 _ A7.out).mono ?_); rintro e w10 ⟨v629, rfl, ho0, hb⟩; refine ⟨_, rfl, ?_⟩; have n0_ := zab.mk (Kd.zbm ho0 (zav HB.out)); have n1_ := zab.mk (zau HB.out hb); clear HB; have HO630 := n0_; have HB := n1_; clear n0_ n1_; (try clear hb); (try clear hb2); (try clear hk); (try clear hi); (try clear ho0)) | ((with_reducible refine zbb (N := 7) rfl ?_); (try (refine gate_guard (by rfl) ?_; dsimp only)); refine zbs ?hg (N := 7) ?hd (cs := #[.int .i64 0, .string (⟨#[]⟩ : ByteArray), .slice none 0 0]) (t := 27) ?hr ?_; (case hd => rfl); (case hg => rfl); (case hr => first | (go_simp; done) | (go_simp; rfl)); intro zbh hg w11 hbox hb; have n0_ := zab.mk (Kd.zbi HO630.out hb); have n1_ := zab.mk (zau HB.out hb); have n2_ := zab.mk (hbox); have n3_ := zab.mk ((by rw [hg]; exact (zav HB.out) : w.heap.size ≤ zbh)); have n4_ := zab.mk ((by rw [hg]; exact (zav HB.out) : w.heap.size ≤ zbh)); clear HO630 HB; have HO630 := n0_; have HB := n1_; have zaV := n2_; have GW631 := n3_; have zbv := n4_; clear n0_ n1_ n2_ n3_ n4_ hb hbox hg; have hcz12_0 : w11.cell? ⟨zbh, 0, none⟩ = some (.int .i64 0) := (zal zaV.out 0).trans rfl; have hcz12_1 : w11.cell? ⟨zbh, 1, none⟩ = some (.string (⟨#[]⟩ : ByteArray)) := (zal zaV.out 1).trans rfl; have hcz12_2 : w11.cell? ⟨zbh, 2, none⟩ = some (.slice none 0 0) := (zal zaV.out 2).trans rfl; have hfz12_0 := zam zaV.out 0; have hfz12_1 := zam zaV.out 1; have hfz12_2 := zam zaV.out 2; obtain ⟨Ao13, co13, eo13⟩ := Kd.zbr HO630.out; subst eo13) | ((with_reducible refine zbb (N := 8) rfl ?_); (try (refine gate_guard (by rfl) ?_; dsimp only)); refine zbs ?hg (N := 8) ?hd (cs := #[.int .i64 0, .string (⟨#[]⟩ : ByteArray), .int .i64 0]) (t := 30) ?hr ?_; (case hd => rfl); (case hg => rfl); (case hr => first | (go_simp; done) | (go_simp; rfl)); intro zbc hg w14 hbox hb; have n0_ := zab.mk (Kd.zbi (Kd.za7 (Kd.za0 (p := ⟨zbh, 2, none⟩) (Kd.za0 (p := ⟨zbh, 1, none⟩) (Kd.za0 (p := ⟨zbh, 0, none⟩) (Kd.zbF HO630.out zaV.out (by decide)) (fun _ hk => hk.2) (.int .i64 t626)) (fun _ hk => hk.2) (.string t627)) (fun _ hk => hk.2) (.slice Ao13 t628.length co13)) (fun _ h_ => h_.1)) hb); have n1_ := zab.mk (zaL (g := zbh) (o := .cells #[.int .i64 t626, .string t627, .slice Ao13 t628.length co13] 27 (0, 0)) (by (with_reducible repeat (first | refine zai ?_ _ | refine zak ?_ | refine zah ?_ _)); refine zaG (cs := #[.int .i64 t626, .string t627, .slice none 0 0]) ?_ 2 _ rfl; (with_reducible repeat (first | refine zai ?_ _ | refine zak ?_ | refine zah ?_ _)); refine zaG (cs := #[.int .i64 t626, .string (⟨#[]⟩ : ByteArray), .slice none 0 0]) ?_ 1 _ rfl; (with_reducible repeat (first | refine zai ?_ _ | refine zak ?_ | refine zah ?_ _)); refine zaG (cs := #[.int .i64 0, .string (⟨#[]⟩ : ByteArray), .slice none 0 0]) ?_ 0 _ rfl; (with_reducible repeat (first | refine zai ?_ _ | refine zak ?_ | refine zah ?_ _)); exact zaV.out) hb); have n2_ := zab.mk (zau (by repeat (first | (with_reducible first | exact HB.out | apply zad | apply zaa | apply zac | refine zae ?_ zbv.out) | exact HB.out)) hb); have n3_ := zab.mk (hbox); have n4_ := zab.mk ((by rw [hg]; exact (zav (by repeat (first | (with_reducible first | exact HB.out | apply zad | apply zaa | apply zac | refine zae ?_ zbv.out) | exact HB.out))) : w.heap.size ≤ zbc)); have n5_ := zab.mk ((by rw [hg]; exact (zav (by repeat (first | (with_reducible first | exact HB.out | apply zad | apply zaa | apply zac | refine zae ?_ zbv.out) | exact HB.out))) : w.heap.size ≤ zbc)); have n6_ := zab.mk ((by rw [hg]; exact Nat.ne_of_lt (blk_lt (g := zbh) (o := .cells #[.int .i64 t626, .string t627, .slice Ao13 t628.length co13] 27 (0, 0)) (by (with_reducible repeat (first | refine zai ?_ _ | refine zak ?_ | refine zah ?_ _)); refine zaG (cs := #[.int .i64 t626, .string t627, .slice none 0 0]) ?_ 2 _ rfl; (with_reducible repeat (first | refine zai ?_ _ | refine zak ?_ | refine zah ?_ _)); refine zaG (cs := #[.int .i64 t626, .string (⟨#[]⟩ : ByteArray), .slice none 0 0]) ?_ 1 _ rfl; (with_reducible repeat (first | refine zai ?_ _ | refine zak ?_ | refine zah ?_ _)); refine zaG (cs := #[.int .i64 0, .string (⟨#[]⟩ : ByteArray), .slice none 0 0]) ?_ 0 _ rfl; (with_reducible repeat (first | refine zai ?_ _ | refine zak ?_ | refine zah ?_ _)); exact zaV.out)) : zbh ≠ zbc)); have n7_ := zab.mk ((by rw [hg]; exact Nat.ne_of_gt (blk_lt (g := zbh) (o := .cells #[.int .i64 t626, .string t627, .slice Ao13 t628.length co13] 27 (0, 0)) (by (with_reducible repeat (first | refine zai ?_ _ | refine zak ?_ | refine zah ?_ _)); refine zaG (cs := #[.int .i64 t626, .string t627, .slice none 0 0]) ?_ 2 _ rfl; (with_reducible repeat (first | refine zai ?_ _ | refine zak ?_ | refine zah ?_ _)); refine zaG (cs := #[.int .i64 t626, .string (⟨#[]⟩ : ByteArray), .slice none 0 0]) ?_ 1 _ rfl; (with_reducible repeat (first | refine zai ?_ _ | refine zak ?_ | refine zah ?_ _)); refine zaG (cs := #[.int .i64 0, .string (⟨#[]⟩ : ByteArray), .slice none 0 0]) ?_ 0 _ rfl; (with_reducible repeat (first | refine zai ?_ _ | refine zak ?_ | refine zah ?_ _)); exact zaV.out)) : zbc ≠ zbh)); clear HO630 zaV HB; have HO630 := n0_; have zaV := n1_; have HB := n2_; have zaP := n3_; have GW637 := n4_; have zbz := n5_; have NB631_637 := n6_; have NB637_631 := n7_; clear n0_ n1_ n2_ n3_ n4_ n5_ n6_ n7_ hb hbox hg; have hnb15 := NB637_631.out; have hnc15 := NB631_637.out; have hcz16_0 : w14.cell? ⟨zbc, 0, none⟩ = some (.int .i64 0) := (zal zaP.out 0).trans rfl; have hcz16_1 : w14.cell? ⟨zbc, 1, none⟩ = some (.string (⟨#[]⟩ : ByteArray)) := (zal zaP.out 1).trans rfl; have hcz16_2 : w14.cell? ⟨zbc, 2, none⟩ = some (.int .i64 0) := (zal zaP.out 2).trans rfl; have hfz16_0 := zam zaP.out 0; have hfz16_1 := zam zaP.out 1; have hfz16_2 := zam zaP.out 2) | ((with_reducible refine zbb (N := 43) rfl ?_); (try (refine gate_guard (by rfl) ?_; dsimp only)); refine Kd.R_lit (Kd.int .i64) _ 2 ?hg (N := 43) ?hd (xs := ([] : List Int)) (inner := []) (ok := fun _ => True) (okp := fun _ => True) ?hr ?hp (fun _ hk => hk) trivial (Below.refl _ _) (Nat.le_refl _) (by simp) ?_; (case hd => rfl); (case hg => rfl); (case hr => first | (go_simp; done) | (go_simp; rfl)); (case hp => exact (Reps.none _ _)); intro v639 w17 ho18 hb hg_ hnew_; clear hg_ hnew_; (first | rw [← Ny638.out] at ho18 | (simp only [Int.reduceToNat] at ho18; rw [← Ny638.out] at ho18)); have n0_ := zab.mk (Kd.R_elder' (Kd.za7 (Kd.za0 (p := ⟨zbc, 2, none⟩) (Kd.za0 (p := ⟨zbc, 1, none⟩) (Kd.za0 (p := ⟨zbc, 0, none⟩) (Kd.zbF HO630.out zaP.out (by decide)) (fun _ hk => hk.2) (.int .i64 t624)) (fun _ hk => hk.2) (.string (⟨#[]⟩ : ByteArray))) (fun _ hk => hk.2) (.int .i64 0)) (fun _ h_ => h_.1)) (Kd.R_base ho18) hb); have n1_ := zab.mk (Kd.zbm (Kd.R_new' ho18 (Kd.R_lt (Kd.za7 (Kd.za0 (p := ⟨zbc, 2, none⟩) (Kd.za0 (p := ⟨zbc, 1, none⟩) (Kd.za0 (p := ⟨zbc, 0, none⟩) (Kd.zbF HO630.out zaP.out (by decide)) (fun _ hk => hk.2) (.int .i64 t624)) (fun _ hk => hk.2) (.string (⟨#[]⟩ : ByteArray))) (fun _ hk => hk.2) (.int .i64 0)) (fun _ h_ => h_.1)))) (zav (by repeat (first | (with_reducible first | exact HB.out | apply zad | apply zaa | apply zac | refine zae ?_ zbv.out | refine zae ?_ zbz.out) | exact HB.out)))); have n2_ := zab.mk (zaL (g := zbh) (o := .cells #[.int .i64 t626, .string t627, .slice Ao13 t628.length co13] 27 (0, 0)) (by (with_reducible repeat (first | refine zai ?_ _ | refine zak ?_ | refine zah ?_ _)); refine za6 ?_ NB631_637.out _; (with_reducible repeat (first | refine zai ?_ _ | refine zak ?_ | refine zah ?_ _)); refine za6 ?_ NB631_637.out _; (with_reducible repeat (first | refine zai ?_ _ | refine zak ?_ | refine zah ?_ _)); refine za6 ?_ NB631_637.out _; (with_reducible repeat (first | refine zai ?_ _ | refine zak ?_ | refine zah ?_ _)); exact zaV.out) hb); have n3_ := zab.mk (zaL (g := zbc) (o := .cells #[.int .i64 t624, .string (⟨#[]⟩ : ByteArray), .int .i64 0] 30 (0, 0)) (by (with_reducible repeat (first | refine zai ?_ _ | refine zak ?_ | refine zah ?_ _)); refine zaG (cs := #[.int .i64 t624, .string (⟨#[]⟩ : ByteArray), .int .i64 0]) ?_ 2 _ rfl; (with_reducible repeat (first | refine zai ?_ _ | refine zak ?_ | refine zah ?_ _)); refine zaG (cs := #[.int .i64 t624, .string (⟨#[]⟩ : ByteArray), .int .i64 0]) ?_ 1 _ rfl; (with_reducible repeat (first | refine zai ?_ _ | refine zak ?_ | refine zah ?_ _)); refine zaG (cs := #[.int .i64 0, .string (⟨#[]⟩ : ByteArray), .int .i64 0]) ?_ 0 _ rfl; (with_reducible repeat (first | refine zai ?_ _ | refine zak ?_ | refine zah ?_ _)); exact zaP.out) hb); have n4_ := zab.mk (zau (by repeat (first | (with_reducible first | exact HB.out | apply zad | apply zaa | apply zac | refine zae ?_ zbv.out | refine zae ?_ zbz.out) | exact HB.out)) hb); clear HO630 zaV zaP HB; have HO630 := n0_; have HO640 := n1_; have zaV := n2_; have zaP := n3_; have HB := n4_; clear n0_ n1_ n2_ n3_ n4_ hb ho18))
    go_loopg [6, 9, 10, 11] kj2 (fun kq v6 v9 v10 v11 w' => ∃ (x6_2 : ByteArray) (x9_2 : ByteArray) (x10_2 : List Int) (x11_2 : Int) (zaE : Int) (zaD : ByteArray) (zaC : Int), v6 = .string x6_2 ∧ v9 = .string x9_2 ∧ v11 = .int .i64 x11_2 ∧ zab (zay.l0 kq l1 x6_2 x9_2 x10_2 x11_2 t626 t627 t628 zaE zaD zaC = some r) ∧ zab (kq ≤ kj2) ∧ zab (Kd.R (Kd.int .i64) 2 w' w.heap.size (fun k_ => some k_ ≠ ((.slice Ao13 t628.length co13) : Value).ownBlock) v10 x10_2) ∧ zab (Kd.R (Kd.int .i64) 2 w' w.heap.size (fun k_ => some k_ ≠ (v10 : Value).ownBlock) (.slice Ao13 t628.length co13) t628) ∧ zab (w'.heap[zbh]? = some (.cells #[.int .i64 t626, .string t627, (.slice Ao13 t628.length co13)] 27 (0, 0))) ∧ zab (w'.heap[zbc]? = some (.cells #[.int .i64 zaE, .string zaD, .int .i64 zaC] 30 (0, 0))) ∧ zab (Below w.heap.size w w'))
    case atStart => exact ⟨(t625), ((⟨#[]⟩ : ByteArray)), (y638), (0), (t624), ((⟨#[]⟩ : ByteArray)), (0), rfl, rfl, rfl, H', ⟨Nat.le_refl _⟩, ⟨by (with_reducible repeat (first | apply Kd.R_alloc | apply Kd.zat | apply Kd.zaw)); exact Kd.za7 HO640.out (fun _ hk => hk.2)⟩, ⟨by (with_reducible repeat (first | apply Kd.R_alloc | apply Kd.zat | apply Kd.zaw)); exact Kd.za7 HO630.out (fun _ hk => hk.2)⟩, ⟨by (with_reducible repeat (first | refine zai ?_ _ | refine zak ?_ | refine zah ?_ _)); exact zaV.out⟩, ⟨by (with_reducible repeat (first | refine zai ?_ _ | refine zak ?_ | refine zah ?_ _)); exact zaP.out⟩, ⟨by repeat (first | (with_reducible first | exact HB.out | apply zad | apply zaa | apply zac | refine zae ?_ zbv.out | refine zae ?_ zbz.out) | exact HB.out)⟩⟩
    case round =>
     clear H'
     try clear c1
     try clear c5
     try clear c8b0
     try clear c8b1
     try clear hcz12_0
     try clear hcz12_1
     try clear hcz12_2
     try clear hcz16_0
     try clear hcz16_1
     try clear hcz16_2
     try clear hfz12_0
     try clear hfz12_1
     try clear hfz12_2
     try clear hfz16_0
     try clear hfz16_1
     try clear hfz16_2
     obtain ⟨x6_2, x9_2, x10_2, x11_2, zaE, zaD, zaC, rfl, rfl, rfl, HA, HK2, zbe, zax, zaV, zaP, HB⟩ := hrel
     cases gk with
     | zero => exact absurd HA.out (by simp [zay.l0])
     | succ k2 =>
      have H := HA.out; clear HA
      simp only [zay.l0] at H
      have HC19 := zab.mk H; clear H
      go_upto_region 11 with (fail)
      go_cut [50] (fun v50 wc => ∃ (kq : Nat) (x50_18 : Bool), v50 = .bool x50_18 ∧ zab (zay.j2 kq l1 x6_2 x9_2 x10_2 x11_2 x50_18 t626 t627 t628 zaE zaD zaC = some r) ∧ zab (kq ≤ k2) ∧ zab (Kd.R (Kd.int .i64) 2 wc w.heap.size (fun k_ => some k_ ≠ ((.slice Ao13 t628.length co13) : Value).ownBlock) u10 x10_2) ∧ zab (Kd.R (Kd.int .i64) 2 wc w.heap.size (fun k_ => some k_ ≠ (u10 : Value).ownBlock) (.slice Ao13 t628.length co13) t628) ∧ zab (wc.heap[zbh]? = some (.cells #[.int .i64 t626, .string t627, (.slice Ao13 t628.length co13)] 27 (0, 0))) ∧ zab (wc.heap[zbc]? = some (.cells #[.int .i64 zaE, .string zaD, .int .i64 zaC] 30 (0, 0))) ∧ zab (Below w.heap.size w wc))
      case first =>
       have H := HC19.out; clear HC19
       by_cases c20 : (x6_2.size : Int) > 0
       ·rw [if_pos c20] at H
        have c20b0 : decide (0 < (x6_2.size : Int)) = true := decide_eq_true c20
        have c20b1 : decide (0 < x6_2.size) = true := decide_eq_true (by omega)
        clear c20
        (first | rw [c20b0] | rw [c20b1] | (simp only [zaR, zaS]; rw [c20b0]) | skip)
        have H' := zab.mk H; clear H
        go_wp2
        go_meet
        case rel => exact ⟨_, (decide (x11_2 < 2000)), rfl, H', ⟨by have := HJ2.out; have := HK2.out; first | omega | exact Nat.le_refl _⟩, ⟨by (with_reducible repeat (first | apply Kd.R_alloc | apply Kd.zat | apply Kd.zaw)); exact zbe.out⟩, ⟨by (with_reducible repeat (first | apply Kd.R_alloc | apply Kd.zat | apply Kd.zaw)); exact zax.out⟩, ⟨by (with_reducible repeat (first | refine zai ?_ _ | refine zak ?_ | refine zah ?_ _)); exact zaV.out⟩, ⟨by (with_reducible repeat (first | refine zai ?_ _ | refine zak ?_ | refine zah ?_ _)); exact zaP.out⟩, ⟨by repeat (first | (with_reducible first | exact HB.out | apply zad | apply zaa | apply zac | refine zae ?_ zbv.out | refine zae ?_ zbz.out) | exact HB.out)⟩⟩
       rw [if_neg c20] at H
       have c20b0 : decide (0 < (x6_2.size : Int)) = false := decide_eq_false c20
       have c20b1 : decide (0 < x6_2.size) = false := decide_eq_false (by omega)
       clear c20
       (first | rw [c20b0] | rw [c20b1] | (simp only [zaR, zaS]; rw [c20b0]) | skip)
       have H' := zab.mk H; clear H
       go_wp2
       go_meet
       case rel => exact ⟨_, (false), rfl, H', ⟨by have := HJ2.out; have := HK2.out; first | omega | exact Nat.le_refl _⟩, ⟨by (with_reducible repeat (first | apply Kd.R_alloc | apply Kd.zat | apply Kd.zaw)); exact zbe.out⟩, ⟨by (with_reducible repeat (first | apply Kd.R_alloc | apply Kd.zat | apply Kd.zaw)); exact zax.out⟩, ⟨by (with_reducible repeat (first | refine zai ?_ _ | refine zak ?_ | refine zah ?_ _)); exact zaV.out⟩, ⟨by (with_reducible repeat (first | refine zai ?_ _ | refine zak ?_ | refine zah ?_ _)); exact zaP.out⟩, ⟨by repeat (first | (with_reducible first | exact HB.out | apply zad | apply zaa | apply zac | refine zae ?_ zbv.out | refine zae ?_ zbz.out) | exact HB.out)⟩⟩
      case rest =>
       clear HC19
       try clear c1
       try clear c5
       try clear c8b0
       try clear c8b1
       try clear hcz12_0
       try clear hcz12_1
       try clear hcz12_2
       try clear hcz16_0
       try clear hcz16_1
       try clear hcz16_2
       try clear hfz12_0
       try clear hfz12_1
       try clear hfz12_2
       try clear hfz16_0
       try clear hfz16_1
       try clear hfz16_2
       obtain ⟨kq, x50_18, rfl, HA, HJ18, zbe, zax, zaV, zaP, HB⟩ := hcut
       cases kq with
       | zero => exact absurd HA.out (by simp [zay.j2])
       | succ kj18 =>
        have H := HA.out; clear HA
        simp only [zay.j2] at H
        by_cases c21 : x50_18 = true
        ·subst c21
         replace H : ((laws_lwAt.f l1 x11_2 5).bind fun t654 => (if (wrap64 (1 + t654)) > (x6_2.size : Int) then (zay.j3 kj18 l1 x6_2 x9_2 x10_2 x11_2 (wrap64 (1 + t654)) true t626 t627 t628 zaE zaD zaC) else (zay.j3 kj18 l1 x6_2 x9_2 x10_2 x11_2 (wrap64 (1 + t654)) (x11_2 == 1999) t626 t627 t628 zaE zaD zaC))) = some r := by rw [if_pos rfl] at H; exact H
         replace H := Option.bind_eq_some_iff.mp H
         obtain ⟨t654, A220, H⟩ := H
         replace H : (if (wrap64 (1 + t654)) > (x6_2.size : Int) then (zay.j3 kj18 l1 x6_2 x9_2 x10_2 x11_2 (wrap64 (1 + t654)) true t626 t627 t628 zaE zaD zaC) else (zay.j3 kj18 l1 x6_2 x9_2 x10_2 x11_2 (wrap64 (1 + t654)) (x11_2 == 1999) t626 t627 t628 zaE zaD zaC)) = some r := H
         have A22 := zab.mk A220; clear A220; have HC23 := zab.mk H; clear H
         go_upto_region 14 with (first | ((with_reducible refine zan (f := 8) rfl ?_); refine zaN (some 55) rfl rfl Tryd.func8 (by kernel_rfl) rfl #[.slice A1 l1.length c1, .int .i64 x11_2, .int .i64 5] rfl (by (try simp only [List.map_toArray, List.map_cons, List.map_nil]); first | done | rfl | (simp only [List.length_drop, List.length_take]; rfl)) ?_; (with_reducible refine (laws_lwAt.calls _ _ l1 x11_2 5 t654 _ ?side1 ?side2 A22.out).mono ?_); (case side1 => repeat (first | exact (Kd.C_below HR1.out HB.out) | (with_reducible refine Kd.C_alloc ?_ _) | (with_reducible refine Kd.C_drewN ?_ _) | (with_reducible refine Kd.C_drew ?_))); (case side2 => exact HC1.out); rintro e w' ⟨rfl, ⟨nd, rfl⟩⟩; refine ⟨_, rfl, ?_⟩))
         (try simp only [Act.put, List.setIfInBounds_toArray, List.set_cons_zero, List.set_cons_succ])
         go_cut [64] (fun v64 wc => ∃ (kq : Nat) (x64_22 : Bool), v64 = .bool x64_22 ∧ zab (zay.j3 kq l1 x6_2 x9_2 x10_2 x11_2 (wrap64 (1 + t654)) x64_22 t626 t627 t628 zaE zaD zaC = some r) ∧ zab (kq ≤ kj18) ∧ zab (Kd.R (Kd.int .i64) 2 wc w.heap.size (fun k_ => some k_ ≠ ((.slice Ao13 t628.length co13) : Value).ownBlock) u10 x10_2) ∧ zab (Kd.R (Kd.int .i64) 2 wc w.heap.size (fun k_ => some k_ ≠ (u10 : Value).ownBlock) (.slice Ao13 t628.length co13) t628) ∧ zab (wc.heap[zbh]? = some (.cells #[.int .i64 t626, .string t627, (.slice Ao13 t628.length co13)] 27 (0, 0))) ∧ zab (wc.heap[zbc]? = some (.cells #[.int .i64 zaE, .string zaD, .int .i64 zaC] 30 (0, 0))) ∧ zab (Below w.heap.size w wc))
         case first =>
          have H := HC23.out; clear HC23
          by_cases c24 : (wrap64 (1 + t654)) > (x6_2.size : Int)
          ·rw [if_pos c24] at H
           have c24b0 : decide ((x6_2.size : Int) < (wrap64 (1 + t654))) = true := decide_eq_true c24
           clear c24
           (first | rw [c24b0] | rw [c24b1] | (simp only [zaR, zaS]; rw [c24b0]) | skip)
           have H' := zab.mk H; clear H
           go_wp2
           go_meet
           case rel => exact ⟨_, (true), rfl, H', ⟨by have := HJ2.out; have := HK2.out; have := HJ18.out; first | omega | exact Nat.le_refl _⟩, ⟨by (with_reducible repeat (first | apply Kd.R_alloc | apply Kd.zat | apply Kd.zaw)); exact zbe.out⟩, ⟨by (with_reducible repeat (first | apply Kd.R_alloc | apply Kd.zat | apply Kd.zaw)); exact zax.out⟩, ⟨by (with_reducible repeat (first | refine zai ?_ _ | refine zak ?_ | refine zah ?_ _)); exact zaV.out⟩, ⟨by (with_reducible repeat (first | refine zai ?_ _ | refine zak ?_ | refine zah ?_ _)); exact zaP.out⟩, ⟨by repeat (first | (with_reducible first | exact HB.out | apply zad | apply zaa | apply zac | refine zae ?_ zbv.out | refine zae ?_ zbz.out) | exact HB.out)⟩⟩
          rw [if_neg c24] at H
          have c24b0 : decide ((x6_2.size : Int) < (wrap64 (1 + t654))) = false := decide_eq_false c24
          clear c24
          (first | rw [c24b0] | rw [c24b1] | (simp only [zaR, zaS]; rw [c24b0]) | skip)
          have H' := zab.mk H; clear H
          go_wp2
          go_meet
          case rel => exact ⟨_, ((x11_2 == 1999)), rfl, H', ⟨by have := HJ2.out; have := HK2.out; have := HJ18.out; first | omega | exact Nat.le_refl _⟩, ⟨by (with_reducible repeat (first | apply Kd.R_alloc | apply Kd.zat | apply Kd.zaw)); exact zbe.out⟩, ⟨by (with_reducible repeat (first | apply Kd.R_alloc | apply Kd.zat | apply Kd.zaw)); exact zax.out⟩, ⟨by (with_reducible repeat (first | refine zai ?_ _ | refine zak ?_ | refine zah ?_ _)); exact zaV.out⟩, ⟨by (with_reducible repeat (first | refine zai ?_ _ | refine zak ?_ | refine zah ?_ _)); exact zaP.out⟩, ⟨by repeat (first | (with_reducible first | exact HB.out | apply zad | apply zaa | apply zac | refine zae ?_ zbv.out | refine zae ?_ zbz.out) | exact HB.out)⟩⟩
         case rest =>
          clear HC23
          try clear c1
          try clear c5
          try clear c8b0
          try clear c8b1
          try clear c21
          try clear hcz12_0
          try clear hcz12_1
          try clear hcz12_2
          try clear hcz16_0
          try clear hcz16_1
          try clear hcz16_2
          try clear hfz12_0
          try clear hfz12_1
          try clear hfz12_2
          try clear hfz16_0
          try clear hfz16_1
          try clear hfz16_2
          obtain ⟨kq, x64_22, rfl, HA, HJ22, zbe, zax, zaV, zaP, HB⟩ := hcut
          cases kq with
          | zero => exact absurd HA.out (by simp [zay.j3])
          | succ kj22 =>
           have H := HA.out; clear HA
           simp only [zay.j3] at H
           have HC25 := zab.mk H; clear H
           go_upto_if 64 with (fail)
           go_cut [12] (fun v12 wc => ∃ (kq : Nat) (x12_24 : Int), v12 = .int .i64 x12_24 ∧ zab (zay.j4 kq l1 x6_2 x9_2 x10_2 x11_2 x12_24 t626 t627 t628 zaE zaD zaC = some r) ∧ zab (kq ≤ kj22) ∧ zab (Kd.R (Kd.int .i64) 2 wc w.heap.size (fun k_ => some k_ ≠ ((.slice Ao13 t628.length co13) : Value).ownBlock) u10 x10_2) ∧ zab (Kd.R (Kd.int .i64) 2 wc w.heap.size (fun k_ => some k_ ≠ (u10 : Value).ownBlock) (.slice Ao13 t628.length co13) t628) ∧ zab (wc.heap[zbh]? = some (.cells #[.int .i64 t626, .string t627, (.slice Ao13 t628.length co13)] 27 (0, 0))) ∧ zab (wc.heap[zbc]? = some (.cells #[.int .i64 zaE, .string zaD, .int .i64 zaC] 30 (0, 0))) ∧ zab (Below w.heap.size w wc))
           case first =>
            have H := HC25.out; clear HC25
            by_cases c26 : x64_22 = true
            ·subst c26
             replace H : (zay.j4 kj22 l1 x6_2 x9_2 x10_2 x11_2 (x6_2.size : Int) t626 t627 t628 zaE zaD zaC) = some r := by rw [if_pos rfl] at H; exact H
             have H' := zab.mk H; clear H
             go_wp2
             go_meet
             case rel => exact ⟨_, ((x6_2.size : Int)), rfl, H', ⟨by have := HJ2.out; have := HK2.out; have := HJ18.out; have := HJ22.out; first | omega | exact Nat.le_refl _⟩, ⟨by (with_reducible repeat (first | apply Kd.R_alloc | apply Kd.zat | apply Kd.zaw)); exact zbe.out⟩, ⟨by (with_reducible repeat (first | apply Kd.R_alloc | apply Kd.zat | apply Kd.zaw)); exact zax.out⟩, ⟨by (with_reducible repeat (first | refine zai ?_ _ | refine zak ?_ | refine zah ?_ _)); exact zaV.out⟩, ⟨by (with_reducible repeat (first | refine zai ?_ _ | refine zak ?_ | refine zah ?_ _)); exact zaP.out⟩, ⟨by repeat (first | (with_reducible first | exact HB.out | apply zad | apply zaa | apply zac | refine zae ?_ zbv.out | refine zae ?_ zbz.out) | exact HB.out)⟩⟩
            replace c26 := Bool.eq_false_iff.mpr c26
            subst c26
            replace H : (zay.j4 kj22 l1 x6_2 x9_2 x10_2 x11_2 (wrap64 (1 + t654)) t626 t627 t628 zaE zaD zaC) = some r := by rw [if_neg (show ¬ (false = true) by decide)] at H; exact H
            have H' := zab.mk H; clear H
            go_wp2
            go_meet
            case rel => exact ⟨_, ((wrap64 (1 + t654))), rfl, H', ⟨by have := HJ2.out; have := HK2.out; have := HJ18.out; have := HJ22.out; first | omega | exact Nat.le_refl _⟩, ⟨by (with_reducible repeat (first | apply Kd.R_alloc | apply Kd.zat | apply Kd.zaw)); exact zbe.out⟩, ⟨by (with_reducible repeat (first | apply Kd.R_alloc | apply Kd.zat | apply Kd.zaw)); exact zax.out⟩, ⟨by (with_reducible repeat (first | refine zai ?_ _ | refine zak ?_ | refine zah ?_ _)); exact zaV.out⟩, ⟨by (with_reducible repeat (first | refine zai ?_ _ | refine zak ?_ | refine zah ?_ _)); exact zaP.out⟩, ⟨by repeat (first | (with_reducible first | exact HB.out | apply zad | apply zaa | apply zac | refine zae ?_ zbv.out | refine zae ?_ zbz.out) | exact HB.out)⟩⟩
           case rest =>
            clear HC25
            try clear c1
            try clear c5
            try clear c8b0
            try clear c8b1
            try clear c21
            try clear hcz12_0
            try clear hcz12_1
            try clear hcz12_2
            try clear hcz16_0
            try clear hcz16_1
            try clear hcz16_2
            try clear hfz12_0
            try clear hfz12_1
            try clear hfz12_2
            try clear hfz16_0
            try clear hfz16_1
            try clear hfz16_2
            obtain ⟨kq, x12_24, rfl, HA, HJ24, zbe, zax, zaV, zaP, HB⟩ := hcut
            cases kq with
            | zero => exact absurd HA.out (by simp [zay.j4])
            | succ kj24 =>
             have H := HA.out; clear HA
             simp only [zay.j4] at H
             by_cases c27 : 0 ≤ x12_24
             ·rw [if_pos c27] at H
              have c27b0 := eq_true c27
              have c27b1 : decide (0 ≤ x12_24) = true := decide_eq_true c27
              clear c27
              by_cases c28 : x12_24 ≤ (x6_2.size : Int)
              ·rw [if_pos c28] at H
               have c28b0 := eq_true c28
               have c28b1 : decide (x12_24 ≤ (x6_2.size : Int)) = true := decide_eq_true c28
               clear c28; replace H := Option.bind_eq_some_iff.mp H
               obtain ⟨⟨t655, t656, t657, t658, t659, t660⟩, A290, H⟩ := H
               replace H : (if t655 = 0 then ((zaI.f kj24 t656 t657 t658).bind fun t664 => (if t664 = 0 then (if x9_2.size + t659.size ≤ 9223372036854775807 then (if x10_2.length + t660.length < 17592186044416 then (zay.l0 kj24 l1 (x6_2.extract (x12_24 : Int).toNat x6_2.size) (x9_2 ++ t659) (x10_2 ++ t660) (wrap64 (x11_2 + 1)) t626 t627 t628 t656 t657 t658) else (none)) else (none)) else (some false))) else (some false)) = some r := H
               have A29 := zab.mk A290; clear A290
               by_cases c30 : t655 = 0
               ·rw [if_pos c30] at H
                have c30b0 : (t655 == 0) = true := beq_iff_eq.mpr c30
                have c30b1 : (t655 != 0) = false := bne_eq_false_iff_eq.mpr c30
                clear c30; replace H := Option.bind_eq_some_iff.mp H
                obtain ⟨t664, A310, H⟩ := H
                replace H : (if t664 = 0 then (if x9_2.size + t659.size ≤ 9223372036854775807 then (if x10_2.length + t660.length < 17592186044416 then (zay.l0 kj24 l1 (x6_2.extract (x12_24 : Int).toNat x6_2.size) (x9_2 ++ t659) (x10_2 ++ t660) (wrap64 (x11_2 + 1)) t626 t627 t628 t656 t657 t658) else (none)) else (none)) else (some false)) = some r := H
                have A31 := zab.mk A310; clear A310
                by_cases c32 : t664 = 0
                ·rw [if_pos c32] at H
                 have c32b0 : (t664 == 0) = true := beq_iff_eq.mpr c32
                 have c32b1 : (t664 != 0) = false := bne_eq_false_iff_eq.mpr c32
                 clear c32
                 by_cases c33 : x9_2.size + t659.size ≤ 9223372036854775807
                 ·rw [if_pos c33] at H
                  have c33b0 := eq_true c33
                  have c33b1 : decide (x9_2.size + t659.size ≤ 9223372036854775807) = true := decide_eq_true c33
                  try have c33b2 : (9223372036854775807 < x9_2.size + t659.size) = False := eq_false (Nat.not_lt.2 c33)
                  by_cases c34 : x10_2.length + t660.length < 17592186044416
                  ·rw [if_pos c34] at H; have LMc34 := zab.mk c34; clear c34
                   obtain ⟨y665, hy665⟩ : ∃ y_ : List Int, y_ = (x10_2 ++ t660) := ⟨_, rfl⟩
                   replace H : (zay.l0 kj24 l1 (x6_2.extract (x12_24 : Int).toNat x6_2.size) (x9_2 ++ t659) y665 (wrap64 (x11_2 + 1)) t626 t627 t628 t656 t657 t658) = some r := by first | (rw [hy665]; with_reducible exact H) | (have H2_ := (Option.bind_some _ _).symm.trans H; rw [hy665]; with_reducible exact H2_) | (have H2_ := (Option.bind_some _ _).symm.trans H; with_reducible exact H2_) | with_reducible exact H | (rw [hy665]; exact H) | exact H
                   have Ny665 := zab.mk hy665; clear hy665
                   have c35b0 := eq_true (of_decide_eq_true (by first | (with_reducible assumption) | assumption) : 0 ≤ x12_24)
                   have c36b0 := eq_true (of_decide_eq_true (by first | (with_reducible assumption) | assumption) : x12_24 ≤ (x6_2.size : Int))
                   have H' := zab.mk H; clear H
                   try go_wp2
                   have n0_ := zab.mk (Kd.zaw zbe.out)
                   have n1_ := zab.mk (Kd.zaw zax.out)
                   have n2_ := zab.mk (zak zaV.out)
                   have n3_ := zab.mk (zak zaP.out)
                   have n4_ := zab.mk (zac HB.out)
                   clear zbe zax zaV zaP HB
                   have zbe := n0_
                   have zax := n1_
                   have zaV := n2_
                   have zaP := n3_
                   have HB := n4_
                   clear n0_ n1_ n2_ n3_ n4_
                   refine start_ (n := 7) (S := fun w' => w'.cell? ⟨zbc, 0, none⟩ = some (.int .i64 zaE) ∧ w'.cell? ⟨zbc, 1, none⟩ = some (.string zaD) ∧ w'.cell? ⟨zbc, 2, none⟩ = some (.int .i64 zaC)) (ds := []) #[false, false, false, false, false, false, false] (by kernel_rfl) rfl rfl ⟨(zal zaP.out 0).trans rfl, (zal zaP.out 1).trans rfl, (zal zaP.out 2).trans rfl⟩ (fun hHeld => ?_)
                   generalize wc.drew = w37 at zbe zax zaV zaP HB hHeld ⊢
                   refine zbf (i := 1) (N := some 68) (v := ?_) (a' := ?_) #[false, true, false, false, false, false, false] rfl rfl (by kernel_rfl) (fun _ _ _ h => h) (Or.inl ⟨by rfl, ?_⟩) ?_ ?_
                   rotate_left
                   ·intro w'
                    go_simp
                    with_reducible rfl
                   rotate_left
                   ·simp only [Act.put, List.setIfInBounds_toArray, List.set_cons_zero, List.set_cons_succ, zaR, zaS]
                    rfl
                   refine zbf (i := 2) (N := some 69) (v := ?_) (a' := ?_) #[false, true, true, false, false, false, false] rfl rfl (by kernel_rfl) (fun _ _ _ h => h) (Or.inl ⟨by rfl, ?_⟩) ?_ ?_
                   rotate_left
                   ·intro w'
                    go_simp
                    with_reducible rfl
                   rotate_left
                   ·simp only [Act.put, List.setIfInBounds_toArray, List.set_cons_zero, List.set_cons_succ, zaR, zaS]
                    rfl
                   refine zbf (i := 3) (N := some 70) (v := ?_) (a' := ?_) #[false, true, true, true, false, false, false] rfl rfl (by kernel_rfl) (fun _ _ _ h => h) (Or.inl ⟨by rfl, ?_⟩) ?_ ?_
                   rotate_left
                   ·intro w'
                    go_simp
                    with_reducible rfl
                   rotate_left
                   ·simp only [Act.put, List.setIfInBounds_toArray, List.set_cons_zero, List.set_cons_succ, zaR, zaS]
                    rfl
                   refine take_ (i := 0) (N := some 67) (v := ?_) (a' := ?_) #[true, true, true, true, false, false, false] rfl rfl (by kernel_rfl) (fun _ _ _ h => h) (Or.inl ⟨by rfl, ?_⟩) hHeld ?_ ?_
                   rotate_left
                   ·rintro w' ⟨s0, s1, s2⟩
                    go_simp
                    with_reducible rfl
                   rotate_left
                   ·simp only [Act.put, List.setIfInBounds_toArray, List.set_cons_zero, List.set_cons_succ, zaR, zaS]
                    rfl
                   refine join_ (σ := Value × Nat) 1 #[true, true, true, true, true, true, false] (fun s_ => [(71, .agg #[.int .i64 t655, .int .i64 t656, .string t657, .int .i64 t658, .string t659, s_.1]), (13, .pointer (some ⟨s_.2, 0, none⟩))]) (fun s_ w' => (w'.cell? ⟨zbc, 0, none⟩ = some (.int .i64 zaE) ∧ w'.cell? ⟨zbc, 1, none⟩ = some (.string zaD) ∧ w'.cell? ⟨zbc, 2, none⟩ = some (.int .i64 zaC)) ∧ (Kd.R (Kd.int .i64) 2 w' w.heap.size (fun k_ => some k_ ≠ (u10 : Value).ownBlock ∧ some k_ ≠ (.slice Ao13 t628.length co13 : Value).ownBlock) s_.1 t660) ∧ (Kd.R (Kd.int .i64) 2 w' w.heap.size (fun k_ => some k_ ≠ (s_.1 : Value).ownBlock ∧ some k_ ≠ (.slice Ao13 t628.length co13 : Value).ownBlock) u10 x10_2) ∧ (Kd.R (Kd.int .i64) 2 w' w.heap.size (fun k_ => some k_ ≠ (s_.1 : Value).ownBlock ∧ some k_ ≠ (u10 : Value).ownBlock) (.slice Ao13 t628.length co13) t628) ∧ (w'.heap[zbh]? = some (.cells #[.int .i64 t626, .string t627, .slice Ao13 t628.length co13] 27 (0, 0))) ∧ (w'.heap[zbc]? = some (.cells #[.int .i64 zaE, .string zaD, .int .i64 zaC] 30 (0, 0))) ∧ (w'.heap[s_.2]? = some (.cells #[.int .i64 0, .int .i64 0, .string (⟨#[]⟩ : ByteArray), .int .i64 0, .string (⟨#[]⟩ : ByteArray), .slice none 0 0] 33 (0, 0))) ∧ (w.heap.size ≤ s_.2) ∧ (w.heap.size ≤ s_.2) ∧ (zbh ≠ s_.2) ∧ (s_.2 ≠ zbh) ∧ (zbc ≠ s_.2) ∧ (s_.2 ≠ zbc) ∧ (Below w.heap.size w w')) ?_ ?_
                   rotate_left
                   ·intro hCont
                    refine two_ (i := 4) (j := 5) (Ni := some 71) (Nj := some 13) #[true, true, true, true, true, false, false] #[true, true, true, true, false, true, false] rfl rfl rfl rfl (by kernel_rfl) (by decide) (by decide) (fun K hK => ?_) (fun K hK => ?_)
                    ·skip
                     refine goes_ Tryd.func9 (by kernel_rfl) rfl #[.agg #[.int .i64 zaE, .string zaD, .int .i64 zaC], .string (x6_2.extract 0 (x12_24 : Int).toNat)] (by rfl) rfl rfl (by (try simp only [List.map_toArray, List.map_cons, List.map_nil]); first | done | rfl | (simp only [List.length_drop, List.length_take]; rfl)) ?_
                     with_reducible refine (impl_FeedDecoder.calls kj24 zaE zaD zaC (x6_2.extract 0 (x12_24 : Int).toNat) t655 t656 t657 t658 t659 t660 _ ?side1 A29.out).mono ?_
                     (case side1 => exact GT_below HG.out HB.out)
                     rintro e w38 ⟨v661, rfl, ho0, hb⟩
                     refine ⟨_, rfl, ?_⟩
                     have n0_ := zab.mk (Kd.R_elder' zbe.out (Kd.R_base ho0) hb)
                     have n1_ := zab.mk (Kd.R_elder' zax.out (Kd.R_base ho0) hb)
                     have n2_ := zab.mk (Kd.zbm (Kd.R_new' (Kd.R_new' ho0 (Kd.R_lt zbe.out)) (Kd.R_lt zax.out)) (zav HB.out))
                     have n3_ := zab.mk (zaL (g := zbh) (o := .cells #[.int .i64 t626, .string t627, .slice Ao13 t628.length co13] 27 (0, 0)) zaV.out hb)
                     have n4_ := zab.mk (zaL (g := zbc) (o := .cells #[.int .i64 zaE, .string zaD, .int .i64 zaC] 30 (0, 0)) zaP.out hb)
                     have n5_ := zab.mk (zau HB.out hb)
                     clear zbe zax zaV zaP HB
                     have zbe := n0_
                     have zax := n1_
                     have HO662 := n2_
                     have zaV := n3_
                     have zaP := n4_
                     have HB := n5_
                     clear n0_ n1_ n2_ n3_ n4_ n5_
                     (try clear hb)
                     (try clear hb2)
                     (try clear hk)
                     (try clear hi)
                     (try clear ho0)
                     refine hK.out _ _ ⟨(zal zaP.out 0).trans rfl, (zal zaP.out 1).trans rfl, (zal zaP.out 2).trans rfl⟩ (fun hHeld => ?_)
                     clear hK K
                     refine norm_ (a' := ?_) ?_ ?_
                     rotate_left
                     ·show Act.put _ (some 71) _ = _
                      simp only [Act.put, List.setIfInBounds_toArray, List.set_cons_zero, List.set_cons_succ, zaR, zaS]
                      rfl
                     refine one_ (i := 5) (N := some 13) #[true, true, true, true, true, true, false] rfl rfl (by kernel_rfl) (by decide) (fun K hK => ?_)
                     refine box_step ?hg (N := 13) ?hd (cs := #[.int .i64 0, .int .i64 0, .string (⟨#[]⟩ : ByteArray), .int .i64 0, .string (⟨#[]⟩ : ByteArray), .slice none 0 0]) (t := 33) ?hr ?_; (case hd => rfl); (case hg => rfl); (case hr => first | (go_simp; done) | (go_simp; rfl))
                     intro zaT hg w39 hbox hb
                     have n0_ := zab.mk (Kd.zbi zbe.out hb)
                     have n1_ := zab.mk (Kd.zbi zax.out hb)
                     have n2_ := zab.mk (Kd.zbi HO662.out hb)
                     have n3_ := zab.mk (zaL (g := zbh) (o := .cells #[.int .i64 t626, .string t627, .slice Ao13 t628.length co13] 27 (0, 0)) zaV.out hb)
                     have n4_ := zab.mk (zaL (g := zbc) (o := .cells #[.int .i64 zaE, .string zaD, .int .i64 zaC] 30 (0, 0)) zaP.out hb)
                     have n5_ := zab.mk (zau HB.out hb)
                     have n6_ := zab.mk (hbox)
                     have n7_ := zab.mk ((by rw [hg]; exact (zav HB.out) : w.heap.size ≤ zaT))
                     have n8_ := zab.mk ((by rw [hg]; exact (zav HB.out) : w.heap.size ≤ zaT))
                     have n9_ := zab.mk ((by rw [hg]; exact Nat.ne_of_lt (blk_lt (g := zbh) (o := .cells #[.int .i64 t626, .string t627, .slice Ao13 t628.length co13] 27 (0, 0)) zaV.out) : zbh ≠ zaT))
                     have n10_ := zab.mk ((by rw [hg]; exact Nat.ne_of_gt (blk_lt (g := zbh) (o := .cells #[.int .i64 t626, .string t627, .slice Ao13 t628.length co13] 27 (0, 0)) zaV.out) : zaT ≠ zbh))
                     have n11_ := zab.mk ((by rw [hg]; exact Nat.ne_of_lt (blk_lt (g := zbc) (o := .cells #[.int .i64 zaE, .string zaD, .int .i64 zaC] 30 (0, 0)) zaP.out) : zbc ≠ zaT))
                     have n12_ := zab.mk ((by rw [hg]; exact Nat.ne_of_gt (blk_lt (g := zbc) (o := .cells #[.int .i64 zaE, .string zaD, .int .i64 zaC] 30 (0, 0)) zaP.out) : zaT ≠ zbc))
                     clear zbe zax HO662 zaV zaP HB
                     have zbe := n0_
                     have zax := n1_
                     have HO662 := n2_
                     have zaV := n3_
                     have zaP := n4_
                     have HB := n5_
                     have zbj := n6_
                     have GW663 := n7_
                     have GE663 := n8_
                     have zbg := n9_
                     have zbu := n10_
                     have zaF := n11_
                     have zbt := n12_
                     clear n0_ n1_ n2_ n3_ n4_ n5_ n6_ n7_ n8_ n9_ n10_ n11_ n12_ hb hbox hg
                     refine hK.out _ _ ⟨(zal zaP.out 0).trans rfl, (zal zaP.out 1).trans rfl, (zal zaP.out 2).trans rfl⟩ (fun hHeld => ?_)
                     clear hK K
                     refine norm_ (a' := ?_) ?_ ?_
                     rotate_left
                     ·show Act.put _ (some 13) _ = _
                      simp only [Act.put, List.setIfInBounds_toArray, List.set_cons_zero, List.set_cons_succ, zaR, zaS]
                      rfl
                     exact norm_ (by simp only [putAll, Act.put, List.setIfInBounds_toArray, List.set_cons_zero, List.set_cons_succ]) (hCont (v661, zaT) _ ⟨hHeld, (Kd.za7 HO662.out (fun _ hk => ⟨hk.1.2, hk.2⟩)), (Kd.za7 zbe.out (fun _ hk => ⟨hk.2, hk.1⟩)), (Kd.za7 zax.out (fun _ hk => ⟨hk.2, hk.1⟩)), zaV.out, zaP.out, zbj.out, GW663.out, GE663.out, zbg.out, zbu.out, zaF.out, zbt.out, HB.out⟩)
                    skip
                    refine box_step ?hg (N := 13) ?hd (cs := #[.int .i64 0, .int .i64 0, .string (⟨#[]⟩ : ByteArray), .int .i64 0, .string (⟨#[]⟩ : ByteArray), .slice none 0 0]) (t := 33) ?hr ?_; (case hd => rfl); (case hg => rfl); (case hr => first | (go_simp; done) | (go_simp; rfl))
                    intro zaT hg w38 hbox hb
                    have n0_ := zab.mk (Kd.zbi zbe.out hb)
                    have n1_ := zab.mk (Kd.zbi zax.out hb)
                    have n2_ := zab.mk (zaL (g := zbh) (o := .cells #[.int .i64 t626, .string t627, .slice Ao13 t628.length co13] 27 (0, 0)) zaV.out hb)
                    have n3_ := zab.mk (zaL (g := zbc) (o := .cells #[.int .i64 zaE, .string zaD, .int .i64 zaC] 30 (0, 0)) zaP.out hb)
                    have n4_ := zab.mk (zau HB.out hb)
                    have n5_ := zab.mk (hbox)
                    have n6_ := zab.mk ((by rw [hg]; exact (zav HB.out) : w.heap.size ≤ zaT))
                    have n7_ := zab.mk ((by rw [hg]; exact (zav HB.out) : w.heap.size ≤ zaT))
                    have n8_ := zab.mk ((by rw [hg]; exact Nat.ne_of_lt (blk_lt (g := zbh) (o := .cells #[.int .i64 t626, .string t627, .slice Ao13 t628.length co13] 27 (0, 0)) zaV.out) : zbh ≠ zaT))
                    have n9_ := zab.mk ((by rw [hg]; exact Nat.ne_of_gt (blk_lt (g := zbh) (o := .cells #[.int .i64 t626, .string t627, .slice Ao13 t628.length co13] 27 (0, 0)) zaV.out) : zaT ≠ zbh))
                    have n10_ := zab.mk ((by rw [hg]; exact Nat.ne_of_lt (blk_lt (g := zbc) (o := .cells #[.int .i64 zaE, .string zaD, .int .i64 zaC] 30 (0, 0)) zaP.out) : zbc ≠ zaT))
                    have n11_ := zab.mk ((by rw [hg]; exact Nat.ne_of_gt (blk_lt (g := zbc) (o := .cells #[.int .i64 zaE, .string zaD, .int .i64 zaC] 30 (0, 0)) zaP.out) : zaT ≠ zbc))
                    clear zbe zax zaV zaP HB
                    have zbe := n0_
                    have zax := n1_
                    have zaV := n2_
                    have zaP := n3_
                    have HB := n4_
                    have zbj := n5_
                    have GW663 := n6_
                    have GE663 := n7_
                    have zbg := n8_
                    have zbu := n9_
                    have zaF := n10_
                    have zbt := n11_
                    clear n0_ n1_ n2_ n3_ n4_ n5_ n6_ n7_ n8_ n9_ n10_ n11_ hb hbox hg
                    refine hK.out _ _ ⟨(zal zaP.out 0).trans rfl, (zal zaP.out 1).trans rfl, (zal zaP.out 2).trans rfl⟩ (fun hHeld => ?_)
                    clear hK K
                    refine norm_ (a' := ?_) ?_ ?_
                    rotate_left
                    ·show Act.put _ (some 13) _ = _
                     simp only [Act.put, List.setIfInBounds_toArray, List.set_cons_zero, List.set_cons_succ, zaR, zaS]
                     rfl
                    refine one_ (i := 4) (N := some 71) #[true, true, true, true, true, true, false] rfl rfl (by kernel_rfl) (by decide) (fun K hK => ?_)
                    refine goes_ Tryd.func9 (by kernel_rfl) rfl #[.agg #[.int .i64 zaE, .string zaD, .int .i64 zaC], .string (x6_2.extract 0 (x12_24 : Int).toNat)] (by rfl) rfl rfl (by (try simp only [List.map_toArray, List.map_cons, List.map_nil]); first | done | rfl | (simp only [List.length_drop, List.length_take]; rfl)) ?_
                    with_reducible refine (impl_FeedDecoder.calls kj24 zaE zaD zaC (x6_2.extract 0 (x12_24 : Int).toNat) t655 t656 t657 t658 t659 t660 _ ?side1 A29.out).mono ?_
                    (case side1 => exact GT_below HG.out HB.out)
                    rintro e w39 ⟨v661, rfl, ho0, hb⟩
                    refine ⟨_, rfl, ?_⟩
                    have n0_ := zab.mk (Kd.R_elder' zbe.out (Kd.R_base ho0) hb)
                    have n1_ := zab.mk (Kd.R_elder' zax.out (Kd.R_base ho0) hb)
                    have n2_ := zab.mk (Kd.zbm (Kd.R_new' (Kd.R_new' ho0 (Kd.R_lt zbe.out)) (Kd.R_lt zax.out)) (zav HB.out))
                    have n3_ := zab.mk (zaL (g := zbh) (o := .cells #[.int .i64 t626, .string t627, .slice Ao13 t628.length co13] 27 (0, 0)) zaV.out hb)
                    have n4_ := zab.mk (zaL (g := zbc) (o := .cells #[.int .i64 zaE, .string zaD, .int .i64 zaC] 30 (0, 0)) zaP.out hb)
                    have n5_ := zab.mk (zaL (g := zaT) (o := .cells #[.int .i64 0, .int .i64 0, .string (⟨#[]⟩ : ByteArray), .int .i64 0, .string (⟨#[]⟩ : ByteArray), .slice none 0 0] 33 (0, 0)) zbj.out hb)
                    have n6_ := zab.mk (zau HB.out hb)
                    clear zbe zax zaV zaP zbj HB
                    have zbe := n0_
                    have zax := n1_
                    have HO662 := n2_
                    have zaV := n3_
                    have zaP := n4_
                    have zbj := n5_
                    have HB := n6_
                    clear n0_ n1_ n2_ n3_ n4_ n5_ n6_
                    (try clear hb)
                    (try clear hb2)
                    (try clear hk)
                    (try clear hi)
                    (try clear ho0)
                    refine hK.out _ _ ⟨(zal zaP.out 0).trans rfl, (zal zaP.out 1).trans rfl, (zal zaP.out 2).trans rfl⟩ (fun hHeld => ?_)
                    clear hK K
                    refine norm_ (a' := ?_) ?_ ?_
                    rotate_left
                    ·show Act.put _ (some 71) _ = _
                     simp only [Act.put, List.setIfInBounds_toArray, List.set_cons_zero, List.set_cons_succ, zaR, zaS]
                     rfl
                    exact norm_ (by simp only [putAll, Act.put, List.setIfInBounds_toArray, List.set_cons_zero, List.set_cons_succ]) (hCont (v661, zaT) _ ⟨hHeld, (Kd.za7 HO662.out (fun _ hk => ⟨hk.1.2, hk.2⟩)), (Kd.za7 zbe.out (fun _ hk => ⟨hk.2, hk.1⟩)), (Kd.za7 zax.out (fun _ hk => ⟨hk.2, hk.1⟩)), zaV.out, zaP.out, zbj.out, GW663.out, GE663.out, zbg.out, zbu.out, zaF.out, zbt.out, HB.out⟩)
                   rintro ⟨v661, zaT⟩ w40 ⟨hS_, h0_, h1_, h2_, h3_, h4_, h5_, h6_, h7_, h8_, h9_, h10_, h11_, h12_⟩
                   have n0_ : zab (Kd.R (Kd.int .i64) 2 w40 w.heap.size (fun k_ => some k_ ≠ (u10 : Value).ownBlock ∧ some k_ ≠ (.slice Ao13 t628.length co13 : Value).ownBlock) v661 t660) := ⟨h0_⟩
                   have n1_ : zab (Kd.R (Kd.int .i64) 2 w40 w.heap.size (fun k_ => some k_ ≠ (v661 : Value).ownBlock ∧ some k_ ≠ (.slice Ao13 t628.length co13 : Value).ownBlock) u10 x10_2) := ⟨h1_⟩
                   have n2_ : zab (Kd.R (Kd.int .i64) 2 w40 w.heap.size (fun k_ => some k_ ≠ (v661 : Value).ownBlock ∧ some k_ ≠ (u10 : Value).ownBlock) (.slice Ao13 t628.length co13) t628) := ⟨h2_⟩
                   have n3_ : zab (w40.heap[zbh]? = some (.cells #[.int .i64 t626, .string t627, .slice Ao13 t628.length co13] 27 (0, 0))) := ⟨h3_⟩
                   have n4_ : zab (w40.heap[zbc]? = some (.cells #[.int .i64 zaE, .string zaD, .int .i64 zaC] 30 (0, 0))) := ⟨h4_⟩
                   have n5_ : zab (w40.heap[zaT]? = some (.cells #[.int .i64 0, .int .i64 0, .string (⟨#[]⟩ : ByteArray), .int .i64 0, .string (⟨#[]⟩ : ByteArray), .slice none 0 0] 33 (0, 0))) := ⟨h5_⟩
                   have n6_ : zab (w.heap.size ≤ zaT) := ⟨h6_⟩
                   have n7_ : zab (w.heap.size ≤ zaT) := ⟨h7_⟩
                   have n8_ : zab (zbh ≠ zaT) := ⟨h8_⟩
                   have n9_ : zab (zaT ≠ zbh) := ⟨h9_⟩
                   have n10_ : zab (zbc ≠ zaT) := ⟨h10_⟩
                   have n11_ : zab (zaT ≠ zbc) := ⟨h11_⟩
                   have n12_ : zab (Below w.heap.size w w40) := ⟨h12_⟩
                   clear zbe zax zaV zaP HB h0_ h1_ h2_ h3_ h4_ h5_ h6_ h7_ h8_ h9_ h10_ h11_ h12_
                   have HO662 := n0_
                   have zbe := n1_
                   have zax := n2_
                   have zaV := n3_
                   have zaP := n4_
                   have zbj := n5_
                   have GW663 := n6_
                   have GE663 := n7_
                   have zbg := n8_
                   have zbu := n9_
                   have zaF := n10_
                   have zbt := n11_
                   have HB := n12_
                   clear n0_ n1_ n2_ n3_ n4_ n5_ n6_ n7_ n8_ n9_ n10_ n11_ n12_
                   have hHeld : w40.cell? ⟨zbc, 0, none⟩ = some (.int .i64 zaE) ∧ w40.cell? ⟨zbc, 1, none⟩ = some (.string zaD) ∧ w40.cell? ⟨zbc, 2, none⟩ = some (.int .i64 zaC) := hS_
                   obtain ⟨Ao46, co46, eo46⟩ := Kd.zbr HO662.out
                   (first | subst eo46 | (injection eo46 with f1_ f2_ f3_; have f4_ := f1_.symm; have f5_ := f3_.symm; clear f1_ f2_ f3_; subst f4_; subst f5_))
                   refine norm_ (a' := ?_) ?_ ?_
                   rotate_left
                   ·simp only [putAll, Act.put, List.setIfInBounds_toArray, List.set_cons_zero, List.set_cons_succ]
                    rfl
                   refine one_ (i := 6) (N := none) #[true, true, true, true, true, true, true] rfl rfl (by kernel_rfl) (by decide) (fun K hK => ?_)
                   have hs41 : w40.cell? ⟨zaT, 0, none⟩ = some (.int .i64 0) := (zal zbj.out 0).trans rfl
                   have hfs41 := zam zbj.out 0
                   have hns41_0 := zbg.out
                   have hns41_1 := zaF.out
                   have hms41_0 := zbu.out
                   have hms41_1 := zbt.out
                   have hs42 : w40.cell? ⟨zaT, 1, none⟩ = some (.int .i64 0) := (zal zbj.out 1).trans rfl
                   have hfs42 := zam zbj.out 1
                   have hns42_0 := zbg.out
                   have hns42_1 := zaF.out
                   have hms42_0 := zbu.out
                   have hms42_1 := zbt.out
                   have hs43 : w40.cell? ⟨zaT, 2, none⟩ = some (.string (⟨#[]⟩ : ByteArray)) := (zal zbj.out 2).trans rfl
                   have hfs43 := zam zbj.out 2
                   have hns43_0 := zbg.out
                   have hns43_1 := zaF.out
                   have hms43_0 := zbu.out
                   have hms43_1 := zbt.out
                   have hs44 : w40.cell? ⟨zaT, 3, none⟩ = some (.int .i64 0) := (zal zbj.out 3).trans rfl
                   have hfs44 := zam zbj.out 3
                   have hns44_0 := zbg.out
                   have hns44_1 := zaF.out
                   have hms44_0 := zbu.out
                   have hms44_1 := zbt.out
                   have hs45 : w40.cell? ⟨zaT, 4, none⟩ = some (.string (⟨#[]⟩ : ByteArray)) := (zal zbj.out 4).trans rfl
                   have hfs45 := zam zbj.out 4
                   have hns45_0 := zbg.out
                   have hns45_1 := zaF.out
                   have hms45_0 := zbu.out
                   have hms45_1 := zbt.out
                   have hs47 : w40.cell? ⟨zaT, 5, none⟩ = some (.slice none 0 0) := (zal zbj.out 5).trans rfl
                   have hfs47 := zam zbj.out 5
                   have hns47_0 := zbg.out
                   have hns47_1 := zaF.out
                   have hms47_0 := zbu.out
                   have hms47_1 := zbt.out
                   refine skip_ (w1 := ?_) (by rfl) rfl ?_ ?_
                   rotate_left
                   ·go_simp
                    rfl
                   refine hK.out _ _ ⟨((cell_far (p := ⟨zaT, _, none⟩) zaF.out _).trans (((cell_far (p := ⟨zaT, _, none⟩) zaF.out _).trans (((cell_far (p := ⟨zaT, _, none⟩) zaF.out _).trans (((cell_far (p := ⟨zaT, _, none⟩) zaF.out _).trans (((cell_far (p := ⟨zaT, _, none⟩) zaF.out _).trans (((cell_far (p := ⟨zaT, _, none⟩) zaF.out _).trans (hHeld.1)))))))))))), ((cell_far (p := ⟨zaT, _, none⟩) zaF.out _).trans (((cell_far (p := ⟨zaT, _, none⟩) zaF.out _).trans (((cell_far (p := ⟨zaT, _, none⟩) zaF.out _).trans (((cell_far (p := ⟨zaT, _, none⟩) zaF.out _).trans (((cell_far (p := ⟨zaT, _, none⟩) zaF.out _).trans (((cell_far (p := ⟨zaT, _, none⟩) zaF.out _).trans (hHeld.2.1)))))))))))), ((cell_far (p := ⟨zaT, _, none⟩) zaF.out _).trans (((cell_far (p := ⟨zaT, _, none⟩) zaF.out _).trans (((cell_far (p := ⟨zaT, _, none⟩) zaF.out _).trans (((cell_far (p := ⟨zaT, _, none⟩) zaF.out _).trans (((cell_far (p := ⟨zaT, _, none⟩) zaF.out _).trans (((cell_far (p := ⟨zaT, _, none⟩) zaF.out _).trans (hHeld.2.2))))))))))))⟩ (fun hHeld => ?_)
                   clear hK K
                   refine done_ (by kernel_rfl) ?_
                   have hnb48 := zbu.out
                   have hnc48 := zbg.out
                   have hnb49 := zbt.out
                   have hnc49 := zaF.out
                   have hcz50_0 : w40.cell? ⟨zaT, 0, none⟩ = some (.int .i64 0) := (zal zbj.out 0).trans rfl
                   have hcz50_1 : w40.cell? ⟨zaT, 1, none⟩ = some (.int .i64 0) := (zal zbj.out 1).trans rfl
                   have hcz50_2 : w40.cell? ⟨zaT, 2, none⟩ = some (.string (⟨#[]⟩ : ByteArray)) := (zal zbj.out 2).trans rfl
                   have hcz50_3 : w40.cell? ⟨zaT, 3, none⟩ = some (.int .i64 0) := (zal zbj.out 3).trans rfl
                   have hcz50_4 : w40.cell? ⟨zaT, 4, none⟩ = some (.string (⟨#[]⟩ : ByteArray)) := (zal zbj.out 4).trans rfl
                   have hcz50_5 : w40.cell? ⟨zaT, 5, none⟩ = some (.slice none 0 0) := (zal zbj.out 5).trans rfl
                   have hfz50_0 := zam zbj.out 0
                   have hfz50_1 := zam zbj.out 1
                   have hfz50_2 := zam zbj.out 2
                   have hfz50_3 := zam zbj.out 3
                   have hfz50_4 := zam zbj.out 4
                   have hfz50_5 := zam zbj.out 5
                   try go_wp2_with (first | (go_at_call 10; (with_reducible refine (zaI.calls kj24 t656 t657 t658 t664 _ ?side1 A31.out).mono ?_); (case side1 => exact GT_below HG.out (by repeat (first | (with_reducible first | exact HB.out | apply zad | apply zaa | apply zac | refine zae ?_ zbv.out | refine zae ?_ zbz.out | refine zae ?_ GE663.out) | exact HB.out))); rintro e w51 ⟨rfl, hb⟩; have n0_ := zab.mk (Kd.zbi (Kd.za7 (Kd.za0 (p := ⟨zaT, 5, none⟩) (Kd.za0 (p := ⟨zaT, 4, none⟩) (Kd.za0 (p := ⟨zaT, 3, none⟩) (Kd.za0 (p := ⟨zaT, 2, none⟩) (Kd.za0 (p := ⟨zaT, 1, none⟩) (Kd.za0 (p := ⟨zaT, 0, none⟩) (Kd.zbF zbe.out zbj.out (by decide)) (fun _ hk => hk.2) (.int .i64 t655)) (fun _ hk => hk.2) (.int .i64 t656)) (fun _ hk => hk.2) (.string t657)) (fun _ hk => hk.2) (.int .i64 t658)) (fun _ hk => hk.2) (.string t659)) (fun _ hk => hk.2) (.slice Ao46 t660.length co46)) (fun _ h_ => h_.1)) hb); have n1_ := zab.mk (Kd.zbi (Kd.za7 (Kd.za0 (p := ⟨zaT, 5, none⟩) (Kd.za0 (p := ⟨zaT, 4, none⟩) (Kd.za0 (p := ⟨zaT, 3, none⟩) (Kd.za0 (p := ⟨zaT, 2, none⟩) (Kd.za0 (p := ⟨zaT, 1, none⟩) (Kd.za0 (p := ⟨zaT, 0, none⟩) (Kd.zbF zax.out zbj.out (by decide)) (fun _ hk => hk.2) (.int .i64 t655)) (fun _ hk => hk.2) (.int .i64 t656)) (fun _ hk => hk.2) (.string t657)) (fun _ hk => hk.2) (.int .i64 t658)) (fun _ hk => hk.2) (.string t659)) (fun _ hk => hk.2) (.slice Ao46 t660.length co46)) (fun _ h_ => h_.1)) hb); have n2_ := zab.mk (Kd.zbi (Kd.za7 (Kd.za0 (p := ⟨zaT, 5, none⟩) (Kd.za0 (p := ⟨zaT, 4, none⟩) (Kd.za0 (p := ⟨zaT, 3, none⟩) (Kd.za0 (p := ⟨zaT, 2, none⟩) (Kd.za0 (p := ⟨zaT, 1, none⟩) (Kd.za0 (p := ⟨zaT, 0, none⟩) (Kd.zbF HO662.out zbj.out (by decide)) (fun _ hk => hk.2) (.int .i64 t655)) (fun _ hk => hk.2) (.int .i64 t656)) (fun _ hk => hk.2) (.string t657)) (fun _ hk => hk.2) (.int .i64 t658)) (fun _ hk => hk.2) (.string t659)) (fun _ hk => hk.2) (.slice Ao46 t660.length co46)) (fun _ h_ => h_.1)) hb); have n3_ := zab.mk (zaL (g := zbh) (o := .cells #[.int .i64 t626, .string t627, .slice Ao13 t628.length co13] 27 (0, 0)) (by (with_reducible repeat (first | refine zai ?_ _ | refine zak ?_ | refine zah ?_ _)); refine za6 ?_ zbg.out _; (with_reducible repeat (first | refine zai ?_ _ | refine zak ?_ | refine zah ?_ _)); refine za6 ?_ zbg.out _; (with_reducible repeat (first | refine zai ?_ _ | refine zak ?_ | refine zah ?_ _)); refine za6 ?_ zbg.out _; (with_reducible repeat (first | refine zai ?_ _ | refine zak ?_ | refine zah ?_ _)); refine za6 ?_ zbg.out _; (with_reducible repeat (first | refine zai ?_ _ | refine zak ?_ | refine zah ?_ _)); refine za6 ?_ zbg.out _; (with_reducible repeat (first | refine zai ?_ _ | refine zak ?_ | refine zah ?_ _)); refine za6 ?_ zbg.out _; (with_reducible repeat (first | refine zai ?_ _ | refine zak ?_ | refine zah ?_ _)); exact zaV.out) hb); have n4_ := zab.mk (zaL (g := zbc) (o := .cells #[.int .i64 zaE, .string zaD, .int .i64 zaC] 30 (0, 0)) (by (with_reducible repeat (first | refine zai ?_ _ | refine zak ?_ | refine zah ?_ _)); refine za6 ?_ zaF.out _; (with_reducible repeat (first | refine zai ?_ _ | refine zak ?_ | refine zah ?_ _)); refine za6 ?_ zaF.out _; (with_reducible repeat (first | refine zai ?_ _ | refine zak ?_ | refine zah ?_ _)); refine za6 ?_ zaF.out _; (with_reducible repeat (first | refine zai ?_ _ | refine zak ?_ | refine zah ?_ _)); refine za6 ?_ zaF.out _; (with_reducible repeat (first | refine zai ?_ _ | refine zak ?_ | refine zah ?_ _)); refine za6 ?_ zaF.out _; (with_reducible repeat (first | refine zai ?_ _ | refine zak ?_ | refine zah ?_ _)); refine za6 ?_ zaF.out _; (with_reducible repeat (first | refine zai ?_ _ | refine zak ?_ | refine zah ?_ _)); exact zaP.out) hb); have n5_ := zab.mk (zaL (g := zaT) (o := .cells #[.int .i64 t655, .int .i64 t656, .string t657, .int .i64 t658, .string t659, .slice Ao46 t660.length co46] 33 (0, 0)) (by (with_reducible repeat (first | refine zai ?_ _ | refine zak ?_ | refine zah ?_ _)); refine zaG (cs := #[.int .i64 t655, .int .i64 t656, .string t657, .int .i64 t658, .string t659, .slice none 0 0]) ?_ 5 _ rfl; (with_reducible repeat (first | refine zai ?_ _ | refine zak ?_ | refine zah ?_ _)); refine zaG (cs := #[.int .i64 t655, .int .i64 t656, .string t657, .int .i64 t658, .string (⟨#[]⟩ : ByteArray), .slice none 0 0]) ?_ 4 _ rfl; (with_reducible repeat (first | refine zai ?_ _ | refine zak ?_ | refine zah ?_ _)); refine zaG (cs := #[.int .i64 t655, .int .i64 t656, .string t657, .int .i64 0, .string (⟨#[]⟩ : ByteArray), .slice none 0 0]) ?_ 3 _ rfl; (with_reducible repeat (first | refine zai ?_ _ | refine zak ?_ | refine zah ?_ _)); refine zaG (cs := #[.int .i64 t655, .int .i64 t656, .string (⟨#[]⟩ : ByteArray), .int .i64 0, .string (⟨#[]⟩ : ByteArray), .slice none 0 0]) ?_ 2 _ rfl; (with_reducible repeat (first | refine zai ?_ _ | refine zak ?_ | refine zah ?_ _)); refine zaG (cs := #[.int .i64 t655, .int .i64 0, .string (⟨#[]⟩ : ByteArray), .int .i64 0, .string (⟨#[]⟩ : ByteArray), .slice none 0 0]) ?_ 1 _ rfl; (with_reducible repeat (first | refine zai ?_ _ | refine zak ?_ | refine zah ?_ _)); refine zaG (cs := #[.int .i64 0, .int .i64 0, .string (⟨#[]⟩ : ByteArray), .int .i64 0, .string (⟨#[]⟩ : ByteArray), .slice none 0 0]) ?_ 0 _ rfl; (with_reducible repeat (first | refine zai ?_ _ | refine zak ?_ | refine zah ?_ _)); exact zbj.out) hb); have n6_ := zab.mk (zau (by repeat (first | (with_reducible first | exact HB.out | apply zad | apply zaa | apply zac | refine zae ?_ zbv.out | refine zae ?_ zbz.out | refine zae ?_ GE663.out) | exact HB.out)) hb); clear zbe zax HO662 zaV zaP zbj HB; have zbe := n0_; have zax := n1_; have HO662 := n2_; have zaV := n3_; have zaP := n4_; have zbj := n5_; have HB := n6_; clear n0_ n1_ n2_ n3_ n4_ n5_ n6_; (try clear hb); (try clear hb2); (try clear hk); (try clear hi); have hcz52_0 : w51.cell? ⟨zaT, 0, none⟩ = some (.int .i64 t655) := (zal zbj.out 0).trans rfl; have hcz52_1 : w51.cell? ⟨zaT, 1, none⟩ = some (.int .i64 t656) := (zal zbj.out 1).trans rfl; have hcz52_2 : w51.cell? ⟨zaT, 2, none⟩ = some (.string t657) := (zal zbj.out 2).trans rfl; have hcz52_3 : w51.cell? ⟨zaT, 3, none⟩ = some (.int .i64 t658) := (zal zbj.out 3).trans rfl; have hcz52_4 : w51.cell? ⟨zaT, 4, none⟩ = some (.string t659) := (zal zbj.out 4).trans rfl; have hcz52_5 : w51.cell? ⟨zaT, 5, none⟩ = some (.slice Ao46 t660.length co46) := (zal zbj.out 5).trans rfl; have hfz52_0 := zam zbj.out 0; have hfz52_1 := zam zbj.out 1; have hfz52_2 := zam zbj.out 2; have hfz52_3 := zam zbj.out 3; have hfz52_4 := zam zbj.out 4; have hfz52_5 := zam zbj.out 5) | ((with_reducible refine gate_builtin (b := .append) (xs := #[.tmp 85, .tmp 87]) rfl ?_); (try (refine gate_guard (by rfl) ?_; dsimp only)); at_builtin; refine Kd.R_append_rows (Kd.int .i64) (w0 := w) w.heap.size rfl (.tmp 85) (.tmp 87) 25 2 (.int .i64 0) 8 rfl Tryd.underlying25 info2 rfl (by decide) (by omega) u10 x10_2 t660 _ _ _ (fun k_ => some k_ ≠ (.slice Ao13 t628.length co13 : Value).ownBlock ∧ some k_ ≠ (.slice Ao46 t660.length co46 : Value).ownBlock) (fun _ => False) rfl rfl ?aO ?aR (fun _ _ h => h) (fun _ h => h.elim) ?aF ?aB ?aS ?aL ?_; (case aR => repeat (first | exact (Kd.zbl HO662.out).2.2 | (with_reducible refine Kd.C_alloc ?_ _) | (with_reducible refine Kd.C_drewN ?_ _) | (with_reducible refine Kd.C_drew ?_))); (case aB => exact HB.out); (case aF => exact (fun k_ hk => ⟨Kd.fresh' (Kd.R_lt zax.out) k_ hk, Kd.fresh' (Kd.R_lt HO662.out) k_ hk⟩)); (case aO => exact (Kd.za7 zbe.out (fun _ hk => ⟨hk.2, hk.1⟩))); (case aS => exact (zav HB.out)); (case aL => have := LMc34.out; omega); intro v666 w53 ho hb hg hat; rw [← Ny665.out] at ho; have n0_ := zab.mk (Kd.R_after (ok := (fun k_ => some k_ ≠ (.slice Ao46 t660.length co46 : Value).ownBlock)) zax.out hg hat); have n1_ := zab.mk (blk_grown (g := zbh) (o := .cells #[.int .i64 t626, .string t627, .slice Ao13 t628.length co13] 27 (0, 0)) zaV.out hg (Kd.R_ne zbe.out zaV.out (by decide))); have n2_ := zab.mk (blk_grown (g := zbc) (o := .cells #[.int .i64 zaE, .string zaD, .int .i64 zaC] 30 (0, 0)) zaP.out hg (Kd.R_ne zbe.out zaP.out (by decide))); have n3_ := zab.mk (Kd.R_after (ok := (fun k_ => some k_ ≠ (.slice Ao13 t628.length co13 : Value).ownBlock)) (Kd.za7 HO662.out (fun _ hk => ⟨hk.2, hk.1⟩)) hg hat); have n4_ := zab.mk (blk_grown (g := zaT) (o := .cells #[.int .i64 t655, .int .i64 t656, .string t657, .int .i64 t658, .string t659, .slice Ao46 t660.length co46] 33 (0, 0)) zbj.out hg (Kd.R_ne zbe.out zbj.out (by decide))); have n5_ := zab.mk (hb); have n6_ := zab.mk (ho); clear zax zaV zaP HO662 zbj HB zbe; have zax := n0_; have zaV := n1_; have zaP := n2_; have HO662 := n3_; have zbj := n4_; have HB := n5_; have HO667 := n6_; clear n0_ n1_ n2_ n3_ n4_ n5_ n6_ ho hb hg hat; have hcz54_0 : w53.cell? ⟨zaT, 0, none⟩ = some (.int .i64 t655) := (zal zbj.out 0).trans rfl; have hcz54_1 : w53.cell? ⟨zaT, 1, none⟩ = some (.int .i64 t656) := (zal zbj.out 1).trans rfl; have hcz54_2 : w53.cell? ⟨zaT, 2, none⟩ = some (.string t657) := (zal zbj.out 2).trans rfl; have hcz54_3 : w53.cell? ⟨zaT, 3, none⟩ = some (.int .i64 t658) := (zal zbj.out 3).trans rfl; have hcz54_4 : w53.cell? ⟨zaT, 4, none⟩ = some (.string t659) := (zal zbj.out 4).trans rfl; have hcz54_5 : w53.cell? ⟨zaT, 5, none⟩ = some (.slice Ao46 t660.length co46) := (zal zbj.out 5).trans rfl; have hfz54_0 := zam zbj.out 0; have hfz54_1 := zam zbj.out 1; have hfz54_2 := zam zbj.out 2; have hfz54_3 := zam zbj.out 3; have hfz54_4 := zam zbj.out 4; have hfz54_5 := zam zbj.out 5; have hnb55 := NB637_631.out; have hnc55 := NB631_637.out; have hcz56_0 : w53.cell? ⟨zbc, 0, none⟩ = some (.int .i64 zaE) := (zal zaP.out 0).trans rfl; have hcz56_1 : w53.cell? ⟨zbc, 1, none⟩ = some (.string zaD) := (zal zaP.out 1).trans rfl; have hcz56_2 : w53.cell? ⟨zbc, 2, none⟩ = some (.int .i64 zaC) := (zal zaP.out 2).trans rfl; have hfz56_0 := zam zaP.out 0; have hfz56_1 := zam zaP.out 1; have hfz56_2 := zam zaP.out 2))
                   go_roundg kj24
                   case measure => have := HJ2.out; have := HK2.out; have := HJ18.out; have := HJ22.out; have := HJ24.out; omega
                   case rel => exact ⟨(x6_2.extract (x12_24 : Int).toNat x6_2.size), (x9_2 ++ t659), (y665), (wrap64 (x11_2 + 1)), (t656), (t657), (t658), rfl, rfl, rfl, H', ⟨by have := HJ2.out; have := HK2.out; have := HJ18.out; have := HJ22.out; have := HJ24.out; omega⟩, ⟨by (with_reducible repeat (first | apply Kd.R_alloc | apply Kd.zat | apply Kd.zaw)); exact Kd.za7 (Kd.za0 (p := ⟨zbc, 2, none⟩) (Kd.za0 (p := ⟨zbc, 1, none⟩) (Kd.za0 (p := ⟨zbc, 0, none⟩) (Kd.zbF HO667.out zaP.out (by decide)) (fun _ hk => hk.2) (.int .i64 t656)) (fun _ hk => hk.2) (.string t657)) (fun _ hk => hk.2) (.int .i64 t658)) (fun _ hk => hk.1.1)⟩, ⟨by (with_reducible repeat (first | apply Kd.R_alloc | apply Kd.zat | apply Kd.zaw)); exact Kd.za7 (Kd.za0 (p := ⟨zbc, 2, none⟩) (Kd.za0 (p := ⟨zbc, 1, none⟩) (Kd.za0 (p := ⟨zbc, 0, none⟩) (Kd.zbF zax.out zaP.out (by decide)) (fun _ hk => hk.2) (.int .i64 t656)) (fun _ hk => hk.2) (.string t657)) (fun _ hk => hk.2) (.int .i64 t658)) (fun _ hk => hk.1.2)⟩, ⟨by (with_reducible repeat (first | refine zai ?_ _ | refine zak ?_ | refine zah ?_ _)); refine za6 ?_ NB631_637.out _; (with_reducible repeat (first | refine zai ?_ _ | refine zak ?_ | refine zah ?_ _)); refine za6 ?_ NB631_637.out _; (with_reducible repeat (first | refine zai ?_ _ | refine zak ?_ | refine zah ?_ _)); refine za6 ?_ NB631_637.out _; (with_reducible repeat (first | refine zai ?_ _ | refine zak ?_ | refine zah ?_ _)); exact zaV.out⟩, ⟨by (with_reducible repeat (first | refine zai ?_ _ | refine zak ?_ | refine zah ?_ _)); refine zaG (cs := #[.int .i64 t656, .string t657, .int .i64 zaC]) ?_ 2 _ rfl; (with_reducible repeat (first | refine zai ?_ _ | refine zak ?_ | refine zah ?_ _)); refine zaG (cs := #[.int .i64 t656, .string zaD, .int .i64 zaC]) ?_ 1 _ rfl; (with_reducible repeat (first | refine zai ?_ _ | refine zak ?_ | refine zah ?_ _)); refine zaG (cs := #[.int .i64 zaE, .string zaD, .int .i64 zaC]) ?_ 0 _ rfl; (with_reducible repeat (first | refine zai ?_ _ | refine zak ?_ | refine zah ?_ _)); exact zaP.out⟩, ⟨by repeat (first | (with_reducible first | exact HB.out | apply zad | apply zaa | apply zac | refine zae ?_ zbv.out | refine zae ?_ zbz.out | refine zae ?_ GE663.out) | exact HB.out)⟩⟩
                  rw [if_neg c34] at H
                  exact absurd H (by simp)
                 rw [if_neg c33] at H
                 exact absurd H (by simp)
                rw [if_neg c32] at H
                have c32b0 : (t664 == 0) = false := beq_eq_false_iff_ne.mpr c32
                have c32b1 : (t664 != 0) = true := bne_iff_ne.mpr c32
                obtain rfl := Option.some.inj H
                try go_wp2
                have n0_ := zab.mk (Kd.zaw zbe.out)
                have n1_ := zab.mk (Kd.zaw zax.out)
                have n2_ := zab.mk (zak zaV.out)
                have n3_ := zab.mk (zak zaP.out)
                have n4_ := zab.mk (zac HB.out)
                clear zbe zax zaV zaP HB
                have zbe := n0_
                have zax := n1_
                have zaV := n2_
                have zaP := n3_
                have HB := n4_
                clear n0_ n1_ n2_ n3_ n4_
                refine start_ (n := 7) (S := fun w' => w'.cell? ⟨zbc, 0, none⟩ = some (.int .i64 zaE) ∧ w'.cell? ⟨zbc, 1, none⟩ = some (.string zaD) ∧ w'.cell? ⟨zbc, 2, none⟩ = some (.int .i64 zaC)) (ds := []) #[false, false, false, false, false, false, false] (by kernel_rfl) rfl rfl ⟨(zal zaP.out 0).trans rfl, (zal zaP.out 1).trans rfl, (zal zaP.out 2).trans rfl⟩ (fun hHeld => ?_)
                generalize wc.drew = w57 at zbe zax zaV zaP HB hHeld ⊢
                refine zbf (i := 1) (N := some 68) (v := ?_) (a' := ?_) #[false, true, false, false, false, false, false] rfl rfl (by kernel_rfl) (fun _ _ _ h => h) (Or.inl ⟨by rfl, ?_⟩) ?_ ?_
                rotate_left
                ·intro w'
                 go_simp
                 with_reducible rfl
                rotate_left
                ·simp only [Act.put, List.setIfInBounds_toArray, List.set_cons_zero, List.set_cons_succ, zaR, zaS]
                 rfl
                refine zbf (i := 2) (N := some 69) (v := ?_) (a' := ?_) #[false, true, true, false, false, false, false] rfl rfl (by kernel_rfl) (fun _ _ _ h => h) (Or.inl ⟨by rfl, ?_⟩) ?_ ?_
                rotate_left
                ·intro w'
                 go_simp
                 with_reducible rfl
                rotate_left
                ·simp only [Act.put, List.setIfInBounds_toArray, List.set_cons_zero, List.set_cons_succ, zaR, zaS]
                 rfl
                refine zbf (i := 3) (N := some 70) (v := ?_) (a' := ?_) #[false, true, true, true, false, false, false] rfl rfl (by kernel_rfl) (fun _ _ _ h => h) (Or.inl ⟨by rfl, ?_⟩) ?_ ?_
                rotate_left
                ·intro w'
                 go_simp
                 with_reducible rfl
                rotate_left
                ·simp only [Act.put, List.setIfInBounds_toArray, List.set_cons_zero, List.set_cons_succ, zaR, zaS]
                 rfl
                refine take_ (i := 0) (N := some 67) (v := ?_) (a' := ?_) #[true, true, true, true, false, false, false] rfl rfl (by kernel_rfl) (fun _ _ _ h => h) (Or.inl ⟨by rfl, ?_⟩) hHeld ?_ ?_
                rotate_left
                ·rintro w' ⟨s0, s1, s2⟩
                 go_simp
                 with_reducible rfl
                rotate_left
                ·simp only [Act.put, List.setIfInBounds_toArray, List.set_cons_zero, List.set_cons_succ, zaR, zaS]
                 rfl
                refine join_ (σ := Value × Nat) 1 #[true, true, true, true, true, true, false] (fun s_ => [(71, .agg #[.int .i64 t655, .int .i64 t656, .string t657, .int .i64 t658, .string t659, s_.1]), (13, .pointer (some ⟨s_.2, 0, none⟩))]) (fun s_ w' => (w'.cell? ⟨zbc, 0, none⟩ = some (.int .i64 zaE) ∧ w'.cell? ⟨zbc, 1, none⟩ = some (.string zaD) ∧ w'.cell? ⟨zbc, 2, none⟩ = some (.int .i64 zaC)) ∧ (Kd.R (Kd.int .i64) 2 w' w.heap.size (fun k_ => some k_ ≠ (u10 : Value).ownBlock ∧ some k_ ≠ (.slice Ao13 t628.length co13 : Value).ownBlock) s_.1 t660) ∧ (Kd.R (Kd.int .i64) 2 w' w.heap.size (fun k_ => some k_ ≠ (s_.1 : Value).ownBlock ∧ some k_ ≠ (.slice Ao13 t628.length co13 : Value).ownBlock) u10 x10_2) ∧ (Kd.R (Kd.int .i64) 2 w' w.heap.size (fun k_ => some k_ ≠ (s_.1 : Value).ownBlock ∧ some k_ ≠ (u10 : Value).ownBlock) (.slice Ao13 t628.length co13) t628) ∧ (w'.heap[zbh]? = some (.cells #[.int .i64 t626, .string t627, .slice Ao13 t628.length co13] 27 (0, 0))) ∧ (w'.heap[zbc]? = some (.cells #[.int .i64 zaE, .string zaD, .int .i64 zaC] 30 (0, 0))) ∧ (w'.heap[s_.2]? = some (.cells #[.int .i64 0, .int .i64 0, .string (⟨#[]⟩ : ByteArray), .int .i64 0, .string (⟨#[]⟩ : ByteArray), .slice none 0 0] 33 (0, 0))) ∧ (w.heap.size ≤ s_.2) ∧ (w.heap.size ≤ s_.2) ∧ (zbh ≠ s_.2) ∧ (s_.2 ≠ zbh) ∧ (zbc ≠ s_.2) ∧ (s_.2 ≠ zbc) ∧ (Below w.heap.size w w')) ?_ ?_
                rotate_left
                ·intro hCont
                 refine two_ (i := 4) (j := 5) (Ni := some 71) (Nj := some 13) #[true, true, true, true, true, false, false] #[true, true, true, true, false, true, false] rfl rfl rfl rfl (by kernel_rfl) (by decide) (by decide) (fun K hK => ?_) (fun K hK => ?_)
                 ·skip
                  refine goes_ Tryd.func9 (by kernel_rfl) rfl #[.agg #[.int .i64 zaE, .string zaD, .int .i64 zaC], .string (x6_2.extract 0 (x12_24 : Int).toNat)] (by rfl) rfl rfl (by (try simp only [List.map_toArray, List.map_cons, List.map_nil]); first | done | rfl | (simp only [List.length_drop, List.length_take]; rfl)) ?_
                  with_reducible refine (impl_FeedDecoder.calls kj24 zaE zaD zaC (x6_2.extract 0 (x12_24 : Int).toNat) t655 t656 t657 t658 t659 t660 _ ?side1 A29.out).mono ?_
                  (case side1 => exact GT_below HG.out HB.out)
                  rintro e w58 ⟨v661, rfl, ho0, hb⟩
                  refine ⟨_, rfl, ?_⟩
                  have n0_ := zab.mk (Kd.R_elder' zbe.out (Kd.R_base ho0) hb)
                  have n1_ := zab.mk (Kd.R_elder' zax.out (Kd.R_base ho0) hb)
                  have n2_ := zab.mk (Kd.zbm (Kd.R_new' (Kd.R_new' ho0 (Kd.R_lt zbe.out)) (Kd.R_lt zax.out)) (zav HB.out))
                  have n3_ := zab.mk (zaL (g := zbh) (o := .cells #[.int .i64 t626, .string t627, .slice Ao13 t628.length co13] 27 (0, 0)) zaV.out hb)
                  have n4_ := zab.mk (zaL (g := zbc) (o := .cells #[.int .i64 zaE, .string zaD, .int .i64 zaC] 30 (0, 0)) zaP.out hb)
                  have n5_ := zab.mk (zau HB.out hb)
                  clear zbe zax zaV zaP HB
                  have zbe := n0_
                  have zax := n1_
                  have HO662 := n2_
                  have zaV := n3_
                  have zaP := n4_
                  have HB := n5_
                  clear n0_ n1_ n2_ n3_ n4_ n5_
                  (try clear hb)
                  (try clear hb2)
                  (try clear hk)
                  (try clear hi)
                  (try clear ho0)
                  refine hK.out _ _ ⟨(zal zaP.out 0).trans rfl, (zal zaP.out 1).trans rfl, (zal zaP.out 2).trans rfl⟩ (fun hHeld => ?_)
                  clear hK K
                  refine norm_ (a' := ?_) ?_ ?_
                  rotate_left
                  ·show Act.put _ (some 71) _ = _
                   simp only [Act.put, List.setIfInBounds_toArray, List.set_cons_zero, List.set_cons_succ, zaR, zaS]
                   rfl
                  refine one_ (i := 5) (N := some 13) #[true, true, true, true, true, true, false] rfl rfl (by kernel_rfl) (by decide) (fun K hK => ?_)
                  refine box_step ?hg (N := 13) ?hd (cs := #[.int .i64 0, .int .i64 0, .string (⟨#[]⟩ : ByteArray), .int .i64 0, .string (⟨#[]⟩ : ByteArray), .slice none 0 0]) (t := 33) ?hr ?_; (case hd => rfl); (case hg => rfl); (case hr => first | (go_simp; done) | (go_simp; rfl))
                  intro zaT hg w59 hbox hb
                  have n0_ := zab.mk (Kd.zbi zbe.out hb)
                  have n1_ := zab.mk (Kd.zbi zax.out hb)
                  have n2_ := zab.mk (Kd.zbi HO662.out hb)
                  have n3_ := zab.mk (zaL (g := zbh) (o := .cells #[.int .i64 t626, .string t627, .slice Ao13 t628.length co13] 27 (0, 0)) zaV.out hb)
                  have n4_ := zab.mk (zaL (g := zbc) (o := .cells #[.int .i64 zaE, .string zaD, .int .i64 zaC] 30 (0, 0)) zaP.out hb)
                  have n5_ := zab.mk (zau HB.out hb)
                  have n6_ := zab.mk (hbox)
                  have n7_ := zab.mk ((by rw [hg]; exact (zav HB.out) : w.heap.size ≤ zaT))
                  have n8_ := zab.mk ((by rw [hg]; exact (zav HB.out) : w.heap.size ≤ zaT))
                  have n9_ := zab.mk ((by rw [hg]; exact Nat.ne_of_lt (blk_lt (g := zbh) (o := .cells #[.int .i64 t626, .string t627, .slice Ao13 t628.length co13] 27 (0, 0)) zaV.out) : zbh ≠ zaT))
                  have n10_ := zab.mk ((by rw [hg]; exact Nat.ne_of_gt (blk_lt (g := zbh) (o := .cells #[.int .i64 t626, .string t627, .slice Ao13 t628.length co13] 27 (0, 0)) zaV.out) : zaT ≠ zbh))
                  have n11_ := zab.mk ((by rw [hg]; exact Nat.ne_of_lt (blk_lt (g := zbc) (o := .cells #[.int .i64 zaE, .string zaD, .int .i64 zaC] 30 (0, 0)) zaP.out) : zbc ≠ zaT))
                  have n12_ := zab.mk ((by rw [hg]; exact Nat.ne_of_gt (blk_lt (g := zbc) (o := .cells #[.int .i64 zaE, .string zaD, .int .i64 zaC] 30 (0, 0)) zaP.out) : zaT ≠ zbc))
                  clear zbe zax HO662 zaV zaP HB
                  have zbe := n0_
                  have zax := n1_
                  have HO662 := n2_
                  have zaV := n3_
                  have zaP := n4_
                  have HB := n5_
                  have zbj := n6_
                  have GW663 := n7_
                  have GE663 := n8_
                  have zbg := n9_
                  have zbu := n10_
                  have zaF := n11_
                  have zbt := n12_
                  clear n0_ n1_ n2_ n3_ n4_ n5_ n6_ n7_ n8_ n9_ n10_ n11_ n12_ hb hbox hg
                  refine hK.out _ _ ⟨(zal zaP.out 0).trans rfl, (zal zaP.out 1).trans rfl, (zal zaP.out 2).trans rfl⟩ (fun hHeld => ?_)
                  clear hK K
                  refine norm_ (a' := ?_) ?_ ?_
                  rotate_left
                  ·show Act.put _ (some 13) _ = _
                   simp only [Act.put, List.setIfInBounds_toArray, List.set_cons_zero, List.set_cons_succ, zaR, zaS]
                   rfl
                  exact norm_ (by simp only [putAll, Act.put, List.setIfInBounds_toArray, List.set_cons_zero, List.set_cons_succ]) (hCont (v661, zaT) _ ⟨hHeld, (Kd.za7 HO662.out (fun _ hk => ⟨hk.1.2, hk.2⟩)), (Kd.za7 zbe.out (fun _ hk => ⟨hk.2, hk.1⟩)), (Kd.za7 zax.out (fun _ hk => ⟨hk.2, hk.1⟩)), zaV.out, zaP.out, zbj.out, GW663.out, GE663.out, zbg.out, zbu.out, zaF.out, zbt.out, HB.out⟩)
                 skip
                 refine box_step ?hg (N := 13) ?hd (cs := #[.int .i64 0, .int .i64 0, .string (⟨#[]⟩ : ByteArray), .int .i64 0, .string (⟨#[]⟩ : ByteArray), .slice none 0 0]) (t := 33) ?hr ?_; (case hd => rfl); (case hg => rfl); (case hr => first | (go_simp; done) | (go_simp; rfl))
                 intro zaT hg w58 hbox hb
                 have n0_ := zab.mk (Kd.zbi zbe.out hb)
                 have n1_ := zab.mk (Kd.zbi zax.out hb)
                 have n2_ := zab.mk (zaL (g := zbh) (o := .cells #[.int .i64 t626, .string t627, .slice Ao13 t628.length co13] 27 (0, 0)) zaV.out hb)
                 have n3_ := zab.mk (zaL (g := zbc) (o := .cells #[.int .i64 zaE, .string zaD, .int .i64 zaC] 30 (0, 0)) zaP.out hb)
                 have n4_ := zab.mk (zau HB.out hb)
                 have n5_ := zab.mk (hbox)
                 have n6_ := zab.mk ((by rw [hg]; exact (zav HB.out) : w.heap.size ≤ zaT))
                 have n7_ := zab.mk ((by rw [hg]; exact (zav HB.out) : w.heap.size ≤ zaT))
                 have n8_ := zab.mk ((by rw [hg]; exact Nat.ne_of_lt (blk_lt (g := zbh) (o := .cells #[.int .i64 t626, .string t627, .slice Ao13 t628.length co13] 27 (0, 0)) zaV.out) : zbh ≠ zaT))
                 have n9_ := zab.mk ((by rw [hg]; exact Nat.ne_of_gt (blk_lt (g := zbh) (o := .cells #[.int .i64 t626, .string t627, .slice Ao13 t628.length co13] 27 (0, 0)) zaV.out) : zaT ≠ zbh))
                 have n10_ := zab.mk ((by rw [hg]; exact Nat.ne_of_lt (blk_lt (g := zbc) (o := .cells #[.int .i64 zaE, .string zaD, .int .i64 zaC] 30 (0, 0)) zaP.out) : zbc ≠ zaT))
                 have n11_ := zab.mk ((by rw [hg]; exact Nat.ne_of_gt (blk_lt (g := zbc) (o := .cells #[.int .i64 zaE, .string zaD, .int .i64 zaC] 30 (0, 0)) zaP.out) : zaT ≠ zbc))
                 clear zbe zax zaV zaP HB
                 have zbe := n0_
                 have zax := n1_
                 have zaV := n2_
                 have zaP := n3_
                 have HB := n4_
                 have zbj := n5_
                 have GW663 := n6_
                 have GE663 := n7_
                 have zbg := n8_
                 have zbu := n9_
                 have zaF := n10_
                 have zbt := n11_
                 clear n0_ n1_ n2_ n3_ n4_ n5_ n6_ n7_ n8_ n9_ n10_ n11_ hb hbox hg
                 refine hK.out _ _ ⟨(zal zaP.out 0).trans rfl, (zal zaP.out 1).trans rfl, (zal zaP.out 2).trans rfl⟩ (fun hHeld => ?_)
                 clear hK K
                 refine norm_ (a' := ?_) ?_ ?_
                 rotate_left
                 ·show Act.put _ (some 13) _ = _
                  simp only [Act.put, List.setIfInBounds_toArray, List.set_cons_zero, List.set_cons_succ, zaR, zaS]
                  rfl
                 refine one_ (i := 4) (N := some 71) #[true, true, true, true, true, true, false] rfl rfl (by kernel_rfl) (by decide) (fun K hK => ?_)
                 refine goes_ Tryd.func9 (by kernel_rfl) rfl #[.agg #[.int .i64 zaE, .string zaD, .int .i64 zaC], .string (x6_2.extract 0 (x12_24 : Int).toNat)] (by rfl) rfl rfl (by (try simp only [List.map_toArray, List.map_cons, List.map_nil]); first | done | rfl | (simp only [List.length_drop, List.length_take]; rfl)) ?_
                 with_reducible refine (impl_FeedDecoder.calls kj24 zaE zaD zaC (x6_2.extract 0 (x12_24 : Int).toNat) t655 t656 t657 t658 t659 t660 _ ?side1 A29.out).mono ?_
                 (case side1 => exact GT_below HG.out HB.out)
                 rintro e w59 ⟨v661, rfl, ho0, hb⟩
                 refine ⟨_, rfl, ?_⟩
                 have n0_ := zab.mk (Kd.R_elder' zbe.out (Kd.R_base ho0) hb)
                 have n1_ := zab.mk (Kd.R_elder' zax.out (Kd.R_base ho0) hb)
                 have n2_ := zab.mk (Kd.zbm (Kd.R_new' (Kd.R_new' ho0 (Kd.R_lt zbe.out)) (Kd.R_lt zax.out)) (zav HB.out))
                 have n3_ := zab.mk (zaL (g := zbh) (o := .cells #[.int .i64 t626, .string t627, .slice Ao13 t628.length co13] 27 (0, 0)) zaV.out hb)
                 have n4_ := zab.mk (zaL (g := zbc) (o := .cells #[.int .i64 zaE, .string zaD, .int .i64 zaC] 30 (0, 0)) zaP.out hb)
                 have n5_ := zab.mk (zaL (g := zaT) (o := .cells #[.int .i64 0, .int .i64 0, .string (⟨#[]⟩ : ByteArray), .int .i64 0, .string (⟨#[]⟩ : ByteArray), .slice none 0 0] 33 (0, 0)) zbj.out hb)
                 have n6_ := zab.mk (zau HB.out hb)
                 clear zbe zax zaV zaP zbj HB
                 have zbe := n0_
                 have zax := n1_
                 have HO662 := n2_
                 have zaV := n3_
                 have zaP := n4_
                 have zbj := n5_
                 have HB := n6_
                 clear n0_ n1_ n2_ n3_ n4_ n5_ n6_
                 (try clear hb)
                 (try clear hb2)
                 (try clear hk)
                 (try clear hi)
                 (try clear ho0)
                 refine hK.out _ _ ⟨(zal zaP.out 0).trans rfl, (zal zaP.out 1).trans rfl, (zal zaP.out 2).trans rfl⟩ (fun hHeld => ?_)
                 clear hK K
                 refine norm_ (a' := ?_) ?_ ?_
                 rotate_left
                 ·show Act.put _ (some 71) _ = _
                  simp only [Act.put, List.setIfInBounds_toArray, List.set_cons_zero, List.set_cons_succ, zaR, zaS]
                  rfl
                 exact norm_ (by simp only [putAll, Act.put, List.setIfInBounds_toArray, List.set_cons_zero, List.set_cons_succ]) (hCont (v661, zaT) _ ⟨hHeld, (Kd.za7 HO662.out (fun _ hk => ⟨hk.1.2, hk.2⟩)), (Kd.za7 zbe.out (fun _ hk => ⟨hk.2, hk.1⟩)), (Kd.za7 zax.out (fun _ hk => ⟨hk.2, hk.1⟩)), zaV.out, zaP.out, zbj.out, GW663.out, GE663.out, zbg.out, zbu.out, zaF.out, zbt.out, HB.out⟩)
                rintro ⟨v661, zaT⟩ w60 ⟨hS_, h0_, h1_, h2_, h3_, h4_, h5_, h6_, h7_, h8_, h9_, h10_, h11_, h12_⟩
                have n0_ : zab (Kd.R (Kd.int .i64) 2 w60 w.heap.size (fun k_ => some k_ ≠ (u10 : Value).ownBlock ∧ some k_ ≠ (.slice Ao13 t628.length co13 : Value).ownBlock) v661 t660) := ⟨h0_⟩
                have n1_ : zab (Kd.R (Kd.int .i64) 2 w60 w.heap.size (fun k_ => some k_ ≠ (v661 : Value).ownBlock ∧ some k_ ≠ (.slice Ao13 t628.length co13 : Value).ownBlock) u10 x10_2) := ⟨h1_⟩
                have n2_ : zab (Kd.R (Kd.int .i64) 2 w60 w.heap.size (fun k_ => some k_ ≠ (v661 : Value).ownBlock ∧ some k_ ≠ (u10 : Value).ownBlock) (.slice Ao13 t628.length co13) t628) := ⟨h2_⟩
                have n3_ : zab (w60.heap[zbh]? = some (.cells #[.int .i64 t626, .string t627, .slice Ao13 t628.length co13] 27 (0, 0))) := ⟨h3_⟩
                have n4_ : zab (w60.heap[zbc]? = some (.cells #[.int .i64 zaE, .string zaD, .int .i64 zaC] 30 (0, 0))) := ⟨h4_⟩
                have n5_ : zab (w60.heap[zaT]? = some (.cells #[.int .i64 0, .int .i64 0, .string (⟨#[]⟩ : ByteArray), .int .i64 0, .string (⟨#[]⟩ : ByteArray), .slice none 0 0] 33 (0, 0))) := ⟨h5_⟩
                have n6_ : zab (w.heap.size ≤ zaT) := ⟨h6_⟩
                have n7_ : zab (w.heap.size ≤ zaT) := ⟨h7_⟩
                have n8_ : zab (zbh ≠ zaT) := ⟨h8_⟩
                have n9_ : zab (zaT ≠ zbh) := ⟨h9_⟩
                have n10_ : zab (zbc ≠ zaT) := ⟨h10_⟩
                have n11_ : zab (zaT ≠ zbc) := ⟨h11_⟩
                have n12_ : zab (Below w.heap.size w w60) := ⟨h12_⟩
                clear zbe zax zaV zaP HB h0_ h1_ h2_ h3_ h4_ h5_ h6_ h7_ h8_ h9_ h10_ h11_ h12_
                have HO662 := n0_
                have zbe := n1_
                have zax := n2_
                have zaV := n3_
                have zaP := n4_
                have zbj := n5_
                have GW663 := n6_
                have GE663 := n7_
                have zbg := n8_
                have zbu := n9_
                have zaF := n10_
                have zbt := n11_
                have HB := n12_
                clear n0_ n1_ n2_ n3_ n4_ n5_ n6_ n7_ n8_ n9_ n10_ n11_ n12_
                have hHeld : w60.cell? ⟨zbc, 0, none⟩ = some (.int .i64 zaE) ∧ w60.cell? ⟨zbc, 1, none⟩ = some (.string zaD) ∧ w60.cell? ⟨zbc, 2, none⟩ = some (.int .i64 zaC) := hS_
                obtain ⟨Ao66, co66, eo66⟩ := Kd.zbr HO662.out
                (first | subst eo66 | (injection eo66 with f1_ f2_ f3_; have f4_ := f1_.symm; have f5_ := f3_.symm; clear f1_ f2_ f3_; subst f4_; subst f5_))
                refine norm_ (a' := ?_) ?_ ?_
                rotate_left
                ·simp only [putAll, Act.put, List.setIfInBounds_toArray, List.set_cons_zero, List.set_cons_succ]
                 rfl
                refine one_ (i := 6) (N := none) #[true, true, true, true, true, true, true] rfl rfl (by kernel_rfl) (by decide) (fun K hK => ?_)
                have hs61 : w60.cell? ⟨zaT, 0, none⟩ = some (.int .i64 0) := (zal zbj.out 0).trans rfl
                have hfs61 := zam zbj.out 0
                have hns61_0 := zbg.out
                have hns61_1 := zaF.out
                have hms61_0 := zbu.out
                have hms61_1 := zbt.out
                have hs62 : w60.cell? ⟨zaT, 1, none⟩ = some (.int .i64 0) := (zal zbj.out 1).trans rfl
                have hfs62 := zam zbj.out 1
                have hns62_0 := zbg.out
                have hns62_1 := zaF.out
                have hms62_0 := zbu.out
                have hms62_1 := zbt.out
                have hs63 : w60.cell? ⟨zaT, 2, none⟩ = some (.string (⟨#[]⟩ : ByteArray)) := (zal zbj.out 2).trans rfl
                have hfs63 := zam zbj.out 2
                have hns63_0 := zbg.out
                have hns63_1 := zaF.out
                have hms63_0 := zbu.out
                have hms63_1 := zbt.out
                have hs64 : w60.cell? ⟨zaT, 3, none⟩ = some (.int .i64 0) := (zal zbj.out 3).trans rfl
                have hfs64 := zam zbj.out 3
                have hns64_0 := zbg.out
                have hns64_1 := zaF.out
                have hms64_0 := zbu.out
                have hms64_1 := zbt.out
                have hs65 : w60.cell? ⟨zaT, 4, none⟩ = some (.string (⟨#[]⟩ : ByteArray)) := (zal zbj.out 4).trans rfl
                have hfs65 := zam zbj.out 4
                have hns65_0 := zbg.out
                have hns65_1 := zaF.out
                have hms65_0 := zbu.out
                have hms65_1 := zbt.out
                have hs67 : w60.cell? ⟨zaT, 5, none⟩ = some (.slice none 0 0) := (zal zbj.out 5).trans rfl
                have hfs67 := zam zbj.out 5
                have hns67_0 := zbg.out
                have hns67_1 := zaF.out
                have hms67_0 := zbu.out
                have hms67_1 := zbt.out
                refine skip_ (w1 := ?_) (by rfl) rfl ?_ ?_
                rotate_left
                ·go_simp
                 rfl
                refine hK.out _ _ ⟨((cell_far (p := ⟨zaT, _, none⟩) zaF.out _).trans (((cell_far (p := ⟨zaT, _, none⟩) zaF.out _).trans (((cell_far (p := ⟨zaT, _, none⟩) zaF.out _).trans (((cell_far (p := ⟨zaT, _, none⟩) zaF.out _).trans (((cell_far (p := ⟨zaT, _, none⟩) zaF.out _).trans (((cell_far (p := ⟨zaT, _, none⟩) zaF.out _).trans (hHeld.1)))))))))))), ((cell_far (p := ⟨zaT, _, none⟩) zaF.out _).trans (((cell_far (p := ⟨zaT, _, none⟩) zaF.out _).trans (((cell_far (p := ⟨zaT, _, none⟩) zaF.out _).trans (((cell_far (p := ⟨zaT, _, none⟩) zaF.out _).trans (((cell_far (p := ⟨zaT, _, none⟩) zaF.out _).trans (((cell_far (p := ⟨zaT, _, none⟩) zaF.out _).trans (hHeld.2.1)))))))))))), ((cell_far (p := ⟨zaT, _, none⟩) zaF.out _).trans (((cell_far (p := ⟨zaT, _, none⟩) zaF.out _).trans (((cell_far (p := ⟨zaT, _, none⟩) zaF.out _).trans (((cell_far (p := ⟨zaT, _, none⟩) zaF.out _).trans (((cell_far (p := ⟨zaT, _, none⟩) zaF.out _).trans (((cell_far (p := ⟨zaT, _, none⟩) zaF.out _).trans (hHeld.2.2))))))))))))⟩ (fun hHeld => ?_)
                clear hK K
                refine done_ (by kernel_rfl) ?_
                have hnb68 := zbu.out
                have hnc68 := zbg.out
                have hnb69 := zbt.out
                have hnc69 := zaF.out
                have hcz70_0 : w60.cell? ⟨zaT, 0, none⟩ = some (.int .i64 0) := (zal zbj.out 0).trans rfl
                have hcz70_1 : w60.cell? ⟨zaT, 1, none⟩ = some (.int .i64 0) := (zal zbj.out 1).trans rfl
                have hcz70_2 : w60.cell? ⟨zaT, 2, none⟩ = some (.string (⟨#[]⟩ : ByteArray)) := (zal zbj.out 2).trans rfl
                have hcz70_3 : w60.cell? ⟨zaT, 3, none⟩ = some (.int .i64 0) := (zal zbj.out 3).trans rfl
                have hcz70_4 : w60.cell? ⟨zaT, 4, none⟩ = some (.string (⟨#[]⟩ : ByteArray)) := (zal zbj.out 4).trans rfl
                have hcz70_5 : w60.cell? ⟨zaT, 5, none⟩ = some (.slice none 0 0) := (zal zbj.out 5).trans rfl
                have hfz70_0 := zam zbj.out 0
                have hfz70_1 := zam zbj.out 1
                have hfz70_2 := zam zbj.out 2
                have hfz70_3 := zam zbj.out 3
                have hfz70_4 := zam zbj.out 4
                have hfz70_5 := zam zbj.out 5
                try go_wp2_with (first | (go_at_call 10; (with_reducible refine (zaI.calls kj24 t656 t657 t658 t664 _ ?side1 A31.out).mono ?_); (case side1 => exact GT_below HG.out (by repeat (first | (with_reducible first | exact HB.out | apply zad | apply zaa | apply zac | refine zae ?_ zbv.out | refine zae ?_ zbz.out | refine zae ?_ GE663.out) | exact HB.out))); rintro e w71 ⟨rfl, hb⟩; have n0_ := zab.mk (Kd.zbi (Kd.za7 (Kd.za0 (p := ⟨zaT, 5, none⟩) (Kd.za0 (p := ⟨zaT, 4, none⟩) (Kd.za0 (p := ⟨zaT, 3, none⟩) (Kd.za0 (p := ⟨zaT, 2, none⟩) (Kd.za0 (p := ⟨zaT, 1, none⟩) (Kd.za0 (p := ⟨zaT, 0, none⟩) (Kd.zbF zbe.out zbj.out (by decide)) (fun _ hk => hk.2) (.int .i64 t655)) (fun _ hk => hk.2) (.int .i64 t656)) (fun _ hk => hk.2) (.string t657)) (fun _ hk => hk.2) (.int .i64 t658)) (fun _ hk => hk.2) (.string t659)) (fun _ hk => hk.2) (.slice Ao66 t660.length co66)) (fun _ h_ => h_.1)) hb); have n1_ := zab.mk (Kd.zbi (Kd.za7 (Kd.za0 (p := ⟨zaT, 5, none⟩) (Kd.za0 (p := ⟨zaT, 4, none⟩) (Kd.za0 (p := ⟨zaT, 3, none⟩) (Kd.za0 (p := ⟨zaT, 2, none⟩) (Kd.za0 (p := ⟨zaT, 1, none⟩) (Kd.za0 (p := ⟨zaT, 0, none⟩) (Kd.zbF zax.out zbj.out (by decide)) (fun _ hk => hk.2) (.int .i64 t655)) (fun _ hk => hk.2) (.int .i64 t656)) (fun _ hk => hk.2) (.string t657)) (fun _ hk => hk.2) (.int .i64 t658)) (fun _ hk => hk.2) (.string t659)) (fun _ hk => hk.2) (.slice Ao66 t660.length co66)) (fun _ h_ => h_.1)) hb); have n2_ := zab.mk (Kd.zbi (Kd.za7 (Kd.za0 (p := ⟨zaT, 5, none⟩) (Kd.za0 (p := ⟨zaT, 4, none⟩) (Kd.za0 (p := ⟨zaT, 3, none⟩) (Kd.za0 (p := ⟨zaT, 2, none⟩) (Kd.za0 (p := ⟨zaT, 1, none⟩) (Kd.za0 (p := ⟨zaT, 0, none⟩) (Kd.zbF HO662.out zbj.out (by decide)) (fun _ hk => hk.2) (.int .i64 t655)) (fun _ hk => hk.2) (.int .i64 t656)) (fun _ hk => hk.2) (.string t657)) (fun _ hk => hk.2) (.int .i64 t658)) (fun _ hk => hk.2) (.string t659)) (fun _ hk => hk.2) (.slice Ao66 t660.length co66)) (fun _ h_ => h_.1)) hb); have n3_ := zab.mk (zaL (g := zbh) (o := .cells #[.int .i64 t626, .string t627, .slice Ao13 t628.length co13] 27 (0, 0)) (by (with_reducible repeat (first | refine zai ?_ _ | refine zak ?_ | refine zah ?_ _)); refine za6 ?_ zbg.out _; (with_reducible repeat (first | refine zai ?_ _ | refine zak ?_ | refine zah ?_ _)); refine za6 ?_ zbg.out _; (with_reducible repeat (first | refine zai ?_ _ | refine zak ?_ | refine zah ?_ _)); refine za6 ?_ zbg.out _; (with_reducible repeat (first | refine zai ?_ _ | refine zak ?_ | refine zah ?_ _)); refine za6 ?_ zbg.out _; (with_reducible repeat (first | refine zai ?_ _ | refine zak ?_ | refine zah ?_ _)); refine za6 ?_ zbg.out _; (with_reducible repeat (first | refine zai ?_ _ | refine zak ?_ | refine zah ?_ _)); refine za6 ?_ zbg.out _; (with_reducible repeat (first | refine zai ?_ _ | refine zak ?_ | refine zah ?_ _)); exact zaV.out) hb); have n4_ := zab.mk (zaL (g := zbc) (o := .cells #[.int .i64 zaE, .string zaD, .int .i64 zaC] 30 (0, 0)) (by (with_reducible repeat (first | refine zai ?_ _ | refine zak ?_ | refine zah ?_ _)); refine za6 ?_ zaF.out _; (with_reducible repeat (first | refine zai ?_ _ | refine zak ?_ | refine zah ?_ _)); refine za6 ?_ zaF.out _; (with_reducible repeat (first | refine zai ?_ _ | refine zak ?_ | refine zah ?_ _)); refine za6 ?_ zaF.out _; (with_reducible repeat (first | refine zai ?_ _ | refine zak ?_ | refine zah ?_ _)); refine za6 ?_ zaF.out _; (with_reducible repeat (first | refine zai ?_ _ | refine zak ?_ | refine zah ?_ _)); refine za6 ?_ zaF.out _; (with_reducible repeat (first | refine zai ?_ _ | refine zak ?_ | refine zah ?_ _)); refine za6 ?_ zaF.out _; (with_reducible repeat (first | refine zai ?_ _ | refine zak ?_ | refine zah ?_ _)); exact zaP.out) hb); have n5_ := zab.mk (zaL (g := zaT) (o := .cells #[.int .i64 t655, .int .i64 t656, .string t657, .int .i64 t658, .string t659, .slice Ao66 t660.length co66] 33 (0, 0)) (by (with_reducible repeat (first | refine zai ?_ _ | refine zak ?_ | refine zah ?_ _)); refine zaG (cs := #[.int .i64 t655, .int .i64 t656, .string t657, .int .i64 t658, .string t659, .slice none 0 0]) ?_ 5 _ rfl; (with_reducible repeat (first | refine zai ?_ _ | refine zak ?_ | refine zah ?_ _)); refine zaG (cs := #[.int .i64 t655, .int .i64 t656, .string t657, .int .i64 t658, .string (⟨#[]⟩ : ByteArray), .slice none 0 0]) ?_ 4 _ rfl; (with_reducible repeat (first | refine zai ?_ _ | refine zak ?_ | refine zah ?_ _)); refine zaG (cs := #[.int .i64 t655, .int .i64 t656, .string t657, .int .i64 0, .string (⟨#[]⟩ : ByteArray), .slice none 0 0]) ?_ 3 _ rfl; (with_reducible repeat (first | refine zai ?_ _ | refine zak ?_ | refine zah ?_ _)); refine zaG (cs := #[.int .i64 t655, .int .i64 t656, .string (⟨#[]⟩ : ByteArray), .int .i64 0, .string (⟨#[]⟩ : ByteArray), .slice none 0 0]) ?_ 2 _ rfl; (with_reducible repeat (first | refine zai ?_ _ | refine zak ?_ | refine zah ?_ _)); refine zaG (cs := #[.int .i64 t655, .int .i64 0, .string (⟨#[]⟩ : ByteArray), .int .i64 0, .string (⟨#[]⟩ : ByteArray), .slice none 0 0]) ?_ 1 _ rfl; (with_reducible repeat (first | refine zai ?_ _ | refine zak ?_ | refine zah ?_ _)); refine zaG (cs := #[.int .i64 0, .int .i64 0, .string (⟨#[]⟩ : ByteArray), .int .i64 0, .string (⟨#[]⟩ : ByteArray), .slice none 0 0]) ?_ 0 _ rfl; (with_reducible repeat (first | refine zai ?_ _ | refine zak ?_ | refine zah ?_ _)); exact zbj.out) hb); have n6_ := zab.mk (zau (by repeat (first | (with_reducible first | exact HB.out | apply zad | apply zaa | apply zac | refine zae ?_ zbv.out | refine zae ?_ zbz.out | refine zae ?_ GE663.out) | exact HB.out)) hb); clear zbe zax HO662 zaV zaP zbj HB; have zbe := n0_; have zax := n1_; have HO662 := n2_; have zaV := n3_; have zaP := n4_; have zbj := n5_; have HB := n6_; clear n0_ n1_ n2_ n3_ n4_ n5_ n6_; (try clear hb); (try clear hb2); (try clear hk); (try clear hi)))
                go_ret
                exact ⟨by first | rfl | (simp [zar, zas] <;> rfl) | (simp [*, zar, zas] <;> rfl), by repeat (first | (with_reducible first | exact HB.out | apply zad | apply zaa | apply zac | refine zae ?_ zbv.out | refine zae ?_ zbz.out | refine zae ?_ GE663.out) | exact HB.out)⟩
               rw [if_neg c30] at H
               have c30b0 : (t655 == 0) = false := beq_eq_false_iff_ne.mpr c30
               have c30b1 : (t655 != 0) = true := bne_iff_ne.mpr c30
               obtain rfl := Option.some.inj H
               try go_wp2
               have n0_ := zab.mk (Kd.zaw zbe.out)
               have n1_ := zab.mk (Kd.zaw zax.out)
               have n2_ := zab.mk (zak zaV.out)
               have n3_ := zab.mk (zak zaP.out)
               have n4_ := zab.mk (zac HB.out)
               clear zbe zax zaV zaP HB
               have zbe := n0_
               have zax := n1_
               have zaV := n2_
               have zaP := n3_
               have HB := n4_
               clear n0_ n1_ n2_ n3_ n4_
               refine start_ (n := 7) (S := fun w' => w'.cell? ⟨zbc, 0, none⟩ = some (.int .i64 zaE) ∧ w'.cell? ⟨zbc, 1, none⟩ = some (.string zaD) ∧ w'.cell? ⟨zbc, 2, none⟩ = some (.int .i64 zaC)) (ds := []) #[false, false, false, false, false, false, false] (by kernel_rfl) rfl rfl ⟨(zal zaP.out 0).trans rfl, (zal zaP.out 1).trans rfl, (zal zaP.out 2).trans rfl⟩ (fun hHeld => ?_)
               generalize wc.drew = w72 at zbe zax zaV zaP HB hHeld ⊢
               refine zbf (i := 1) (N := some 68) (v := ?_) (a' := ?_) #[false, true, false, false, false, false, false] rfl rfl (by kernel_rfl) (fun _ _ _ h => h) (Or.inl ⟨by rfl, ?_⟩) ?_ ?_
               rotate_left
               ·intro w'
                go_simp
                with_reducible rfl
               rotate_left
               ·simp only [Act.put, List.setIfInBounds_toArray, List.set_cons_zero, List.set_cons_succ, zaR, zaS]
                rfl
               refine zbf (i := 2) (N := some 69) (v := ?_) (a' := ?_) #[false, true, true, false, false, false, false] rfl rfl (by kernel_rfl) (fun _ _ _ h => h) (Or.inl ⟨by rfl, ?_⟩) ?_ ?_
               rotate_left
               ·intro w'
                go_simp
                with_reducible rfl
               rotate_left
               ·simp only [Act.put, List.setIfInBounds_toArray, List.set_cons_zero, List.set_cons_succ, zaR, zaS]
                rfl
               refine zbf (i := 3) (N := some 70) (v := ?_) (a' := ?_) #[false, true, true, true, false, false, false] rfl rfl (by kernel_rfl) (fun _ _ _ h => h) (Or.inl ⟨by rfl, ?_⟩) ?_ ?_
               rotate_left
               ·intro w'
                go_simp
                with_reducible rfl
               rotate_left
               ·simp only [Act.put, List.setIfInBounds_toArray, List.set_cons_zero, List.set_cons_succ, zaR, zaS]
                rfl
               refine take_ (i := 0) (N := some 67) (v := ?_) (a' := ?_) #[true, true, true, true, false, false, false] rfl rfl (by kernel_rfl) (fun _ _ _ h => h) (Or.inl ⟨by rfl, ?_⟩) hHeld ?_ ?_
               rotate_left
               ·rintro w' ⟨s0, s1, s2⟩
                go_simp
                with_reducible rfl
               rotate_left
               ·simp only [Act.put, List.setIfInBounds_toArray, List.set_cons_zero, List.set_cons_succ, zaR, zaS]
                rfl
               refine join_ (σ := Value × Nat) 1 #[true, true, true, true, true, true, false] (fun s_ => [(71, .agg #[.int .i64 t655, .int .i64 t656, .string t657, .int .i64 t658, .string t659, s_.1]), (13, .pointer (some ⟨s_.2, 0, none⟩))]) (fun s_ w' => (w'.cell? ⟨zbc, 0, none⟩ = some (.int .i64 zaE) ∧ w'.cell? ⟨zbc, 1, none⟩ = some (.string zaD) ∧ w'.cell? ⟨zbc, 2, none⟩ = some (.int .i64 zaC)) ∧ (Kd.R (Kd.int .i64) 2 w' w.heap.size (fun k_ => some k_ ≠ (u10 : Value).ownBlock ∧ some k_ ≠ (.slice Ao13 t628.length co13 : Value).ownBlock) s_.1 t660) ∧ (Kd.R (Kd.int .i64) 2 w' w.heap.size (fun k_ => some k_ ≠ (s_.1 : Value).ownBlock ∧ some k_ ≠ (.slice Ao13 t628.length co13 : Value).ownBlock) u10 x10_2) ∧ (Kd.R (Kd.int .i64) 2 w' w.heap.size (fun k_ => some k_ ≠ (s_.1 : Value).ownBlock ∧ some k_ ≠ (u10 : Value).ownBlock) (.slice Ao13 t628.length co13) t628) ∧ (w'.heap[zbh]? = some (.cells #[.int .i64 t626, .string t627, .slice Ao13 t628.length co13] 27 (0, 0))) ∧ (w'.heap[zbc]? = some (.cells #[.int .i64 zaE, .string zaD, .int .i64 zaC] 30 (0, 0))) ∧ (w'.heap[s_.2]? = some (.cells #[.int .i64 0, .int .i64 0, .string (⟨#[]⟩ : ByteArray), .int .i64 0, .string (⟨#[]⟩ : ByteArray), .slice none 0 0] 33 (0, 0))) ∧ (w.heap.size ≤ s_.2) ∧ (w.heap.size ≤ s_.2) ∧ (zbh ≠ s_.2) ∧ (s_.2 ≠ zbh) ∧ (zbc ≠ s_.2) ∧ (s_.2 ≠ zbc) ∧ (Below w.heap.size w w')) ?_ ?_
               rotate_left
               ·intro hCont
                refine two_ (i := 4) (j := 5) (Ni := some 71) (Nj := some 13) #[true, true, true, true, true, false, false] #[true, true, true, true, false, true, false] rfl rfl rfl rfl (by kernel_rfl) (by decide) (by decide) (fun K hK => ?_) (fun K hK => ?_)
                ·skip
                 refine goes_ Tryd.func9 (by kernel_rfl) rfl #[.agg #[.int .i64 zaE, .string zaD, .int .i64 zaC], .string (x6_2.extract 0 (x12_24 : Int).toNat)] (by rfl) rfl rfl (by (try simp only [List.map_toArray, List.map_cons, List.map_nil]); first | done | rfl | (simp only [List.length_drop, List.length_take]; rfl)) ?_
                 with_reducible refine (impl_FeedDecoder.calls kj24 zaE zaD zaC (x6_2.extract 0 (x12_24 : Int).toNat) t655 t656 t657 t658 t659 t660 _ ?side1 A29.out).mono ?_
                 (case side1 => exact GT_below HG.out HB.out)
                 rintro e w73 ⟨v661, rfl, ho0, hb⟩
                 refine ⟨_, rfl, ?_⟩
                 have n0_ := zab.mk (Kd.R_elder' zbe.out (Kd.R_base ho0) hb)
                 have n1_ := zab.mk (Kd.R_elder' zax.out (Kd.R_base ho0) hb)
                 have n2_ := zab.mk (Kd.zbm (Kd.R_new' (Kd.R_new' ho0 (Kd.R_lt zbe.out)) (Kd.R_lt zax.out)) (zav HB.out))
                 have n3_ := zab.mk (zaL (g := zbh) (o := .cells #[.int .i64 t626, .string t627, .slice Ao13 t628.length co13] 27 (0, 0)) zaV.out hb)
                 have n4_ := zab.mk (zaL (g := zbc) (o := .cells #[.int .i64 zaE, .string zaD, .int .i64 zaC] 30 (0, 0)) zaP.out hb)
                 have n5_ := zab.mk (zau HB.out hb)
                 clear zbe zax zaV zaP HB
                 have zbe := n0_
                 have zax := n1_
                 have HO662 := n2_
                 have zaV := n3_
                 have zaP := n4_
                 have HB := n5_
                 clear n0_ n1_ n2_ n3_ n4_ n5_
                 (try clear hb)
                 (try clear hb2)
                 (try clear hk)
                 (try clear hi)
                 (try clear ho0)
                 refine hK.out _ _ ⟨(zal zaP.out 0).trans rfl, (zal zaP.out 1).trans rfl, (zal zaP.out 2).trans rfl⟩ (fun hHeld => ?_)
                 clear hK K
                 refine norm_ (a' := ?_) ?_ ?_
                 rotate_left
                 ·show Act.put _ (some 71) _ = _
                  simp only [Act.put, List.setIfInBounds_toArray, List.set_cons_zero, List.set_cons_succ, zaR, zaS]
                  rfl
                 refine one_ (i := 5) (N := some 13) #[true, true, true, true, true, true, false] rfl rfl (by kernel_rfl) (by decide) (fun K hK => ?_)
                 refine box_step ?hg (N := 13) ?hd (cs := #[.int .i64 0, .int .i64 0, .string (⟨#[]⟩ : ByteArray), .int .i64 0, .string (⟨#[]⟩ : ByteArray), .slice none 0 0]) (t := 33) ?hr ?_; (case hd => rfl); (case hg => rfl); (case hr => first | (go_simp; done) | (go_simp; rfl))
                 intro zaT hg w74 hbox hb
                 have n0_ := zab.mk (Kd.zbi zbe.out hb)
                 have n1_ := zab.mk (Kd.zbi zax.out hb)
                 have n2_ := zab.mk (Kd.zbi HO662.out hb)
                 have n3_ := zab.mk (zaL (g := zbh) (o := .cells #[.int .i64 t626, .string t627, .slice Ao13 t628.length co13] 27 (0, 0)) zaV.out hb)
                 have n4_ := zab.mk (zaL (g := zbc) (o := .cells #[.int .i64 zaE, .string zaD, .int .i64 zaC] 30 (0, 0)) zaP.out hb)
                 have n5_ := zab.mk (zau HB.out hb)
                 have n6_ := zab.mk (hbox)
                 have n7_ := zab.mk ((by rw [hg]; exact (zav HB.out) : w.heap.size ≤ zaT))
                 have n8_ := zab.mk ((by rw [hg]; exact (zav HB.out) : w.heap.size ≤ zaT))
                 have n9_ := zab.mk ((by rw [hg]; exact Nat.ne_of_lt (blk_lt (g := zbh) (o := .cells #[.int .i64 t626, .string t627, .slice Ao13 t628.length co13] 27 (0, 0)) zaV.out) : zbh ≠ zaT))
                 have n10_ := zab.mk ((by rw [hg]; exact Nat.ne_of_gt (blk_lt (g := zbh) (o := .cells #[.int .i64 t626, .string t627, .slice Ao13 t628.length co13] 27 (0, 0)) zaV.out) : zaT ≠ zbh))
                 have n11_ := zab.mk ((by rw [hg]; exact Nat.ne_of_lt (blk_lt (g := zbc) (o := .cells #[.int .i64 zaE, .string zaD, .int .i64 zaC] 30 (0, 0)) zaP.out) : zbc ≠ zaT))
                 have n12_ := zab.mk ((by rw [hg]; exact Nat.ne_of_gt (blk_lt (g := zbc) (o := .cells #[.int .i64 zaE, .string zaD, .int .i64 zaC] 30 (0, 0)) zaP.out) : zaT ≠ zbc))
                 clear zbe zax HO662 zaV zaP HB
                 have zbe := n0_
                 have zax := n1_
                 have HO662 := n2_
                 have zaV := n3_
                 have zaP := n4_
                 have HB := n5_
                 have zbj := n6_
                 have GW663 := n7_
                 have GE663 := n8_
                 have zbg := n9_
                 have zbu := n10_
                 have zaF := n11_
                 have zbt := n12_
                 clear n0_ n1_ n2_ n3_ n4_ n5_ n6_ n7_ n8_ n9_ n10_ n11_ n12_ hb hbox hg
                 refine hK.out _ _ ⟨(zal zaP.out 0).trans rfl, (zal zaP.out 1).trans rfl, (zal zaP.out 2).trans rfl⟩ (fun hHeld => ?_)
                 clear hK K
                 refine norm_ (a' := ?_) ?_ ?_
                 rotate_left
                 ·show Act.put _ (some 13) _ = _
                  simp only [Act.put, List.setIfInBounds_toArray, List.set_cons_zero, List.set_cons_succ, zaR, zaS]
                  rfl
                 exact norm_ (by simp only [putAll, Act.put, List.setIfInBounds_toArray, List.set_cons_zero, List.set_cons_succ]) (hCont (v661, zaT) _ ⟨hHeld, (Kd.za7 HO662.out (fun _ hk => ⟨hk.1.2, hk.2⟩)), (Kd.za7 zbe.out (fun _ hk => ⟨hk.2, hk.1⟩)), (Kd.za7 zax.out (fun _ hk => ⟨hk.2, hk.1⟩)), zaV.out, zaP.out, zbj.out, GW663.out, GE663.out, zbg.out, zbu.out, zaF.out, zbt.out, HB.out⟩)
                skip
                refine box_step ?hg (N := 13) ?hd (cs := #[.int .i64 0, .int .i64 0, .string (⟨#[]⟩ : ByteArray), .int .i64 0, .string (⟨#[]⟩ : ByteArray), .slice none 0 0]) (t := 33) ?hr ?_; (case hd => rfl); (case hg => rfl); (case hr => first | (go_simp; done) | (go_simp; rfl))
                intro zaT hg w73 hbox hb
                have n0_ := zab.mk (Kd.zbi zbe.out hb)
                have n1_ := zab.mk (Kd.zbi zax.out hb)
                have n2_ := zab.mk (zaL (g := zbh) (o := .cells #[.int .i64 t626, .string t627, .slice Ao13 t628.length co13] 27 (0, 0)) zaV.out hb)
                have n3_ := zab.mk (zaL (g := zbc) (o := .cells #[.int .i64 zaE, .string zaD, .int .i64 zaC] 30 (0, 0)) zaP.out hb)
                have n4_ := zab.mk (zau HB.out hb)
                have n5_ := zab.mk (hbox)
                have n6_ := zab.mk ((by rw [hg]; exact (zav HB.out) : w.heap.size ≤ zaT))
                have n7_ := zab.mk ((by rw [hg]; exact (zav HB.out) : w.heap.size ≤ zaT))
                have n8_ := zab.mk ((by rw [hg]; exact Nat.ne_of_lt (blk_lt (g := zbh) (o := .cells #[.int .i64 t626, .string t627, .slice Ao13 t628.length co13] 27 (0, 0)) zaV.out) : zbh ≠ zaT))
                have n9_ := zab.mk ((by rw [hg]; exact Nat.ne_of_gt (blk_lt (g := zbh) (o := .cells #[.int .i64 t626, .string t627, .slice Ao13 t628.length co13] 27 (0, 0)) zaV.out) : zaT ≠ zbh))
                have n10_ := zab.mk ((by rw [hg]; exact Nat.ne_of_lt (blk_lt (g := zbc) (o := .cells #[.int .i64 zaE, .string zaD, .int .i64 zaC] 30 (0, 0)) zaP.out) : zbc ≠ zaT))
                have n11_ := zab.mk ((by rw [hg]; exact Nat.ne_of_gt (blk_lt (g := zbc) (o := .cells #[.int .i64 zaE, .string zaD, .int .i64 zaC] 30 (0, 0)) zaP.out) : zaT ≠ zbc))
                clear zbe zax zaV zaP HB
                have zbe := n0_
                have zax := n1_
                have zaV := n2_
                have zaP := n3_
                have HB := n4_
                have zbj := n5_
                have GW663 := n6_
                have GE663 := n7_
                have zbg := n8_
                have zbu := n9_
                have zaF := n10_
                have zbt := n11_
                clear n0_ n1_ n2_ n3_ n4_ n5_ n6_ n7_ n8_ n9_ n10_ n11_ hb hbox hg
                refine hK.out _ _ ⟨(zal zaP.out 0).trans rfl, (zal zaP.out 1).trans rfl, (zal zaP.out 2).trans rfl⟩ (fun hHeld => ?_)
                clear hK K
                refine norm_ (a' := ?_) ?_ ?_
                rotate_left
                ·show Act.put _ (some 13) _ = _
                 simp only [Act.put, List.setIfInBounds_toArray, List.set_cons_zero, List.set_cons_succ, zaR, zaS]
                 rfl
                refine one_ (i := 4) (N := some 71) #[true, true, true, true, true, true, false] rfl rfl (by kernel_rfl) (by decide) (fun K hK => ?_)
                refine goes_ Tryd.func9 (by kernel_rfl) rfl #[.agg #[.int .i64 zaE, .string zaD, .int .i64 zaC], .string (x6_2.extract 0 (x12_24 : Int).toNat)] (by rfl) rfl rfl (by (try simp only [List.map_toArray, List.map_cons, List.map_nil]); first | done | rfl | (simp only [List.length_drop, List.length_take]; rfl)) ?_
                with_reducible refine (impl_FeedDecoder.calls kj24 zaE zaD zaC (x6_2.extract 0 (x12_24 : Int).toNat) t655 t656 t657 t658 t659 t660 _ ?side1 A29.out).mono ?_
                (case side1 => exact GT_below HG.out HB.out)
                rintro e w74 ⟨v661, rfl, ho0, hb⟩
                refine ⟨_, rfl, ?_⟩
                have n0_ := zab.mk (Kd.R_elder' zbe.out (Kd.R_base ho0) hb)
                have n1_ := zab.mk (Kd.R_elder' zax.out (Kd.R_base ho0) hb)
                have n2_ := zab.mk (Kd.zbm (Kd.R_new' (Kd.R_new' ho0 (Kd.R_lt zbe.out)) (Kd.R_lt zax.out)) (zav HB.out))
                have n3_ := zab.mk (zaL (g := zbh) (o := .cells #[.int .i64 t626, .string t627, .slice Ao13 t628.length co13] 27 (0, 0)) zaV.out hb)
                have n4_ := zab.mk (zaL (g := zbc) (o := .cells #[.int .i64 zaE, .string zaD, .int .i64 zaC] 30 (0, 0)) zaP.out hb)
                have n5_ := zab.mk (zaL (g := zaT) (o := .cells #[.int .i64 0, .int .i64 0, .string (⟨#[]⟩ : ByteArray), .int .i64 0, .string (⟨#[]⟩ : ByteArray), .slice none 0 0] 33 (0, 0)) zbj.out hb)
                have n6_ := zab.mk (zau HB.out hb)
                clear zbe zax zaV zaP zbj HB
                have zbe := n0_
                have zax := n1_
                have HO662 := n2_
                have zaV := n3_
                have zaP := n4_
                have zbj := n5_
                have HB := n6_
                clear n0_ n1_ n2_ n3_ n4_ n5_ n6_
                (try clear hb)
                (try clear hb2)
                (try clear hk)
                (try clear hi)
                (try clear ho0)
                refine hK.out _ _ ⟨(zal zaP.out 0).trans rfl, (zal zaP.out 1).trans rfl, (zal zaP.out 2).trans rfl⟩ (fun hHeld => ?_)
                clear hK K
                refine norm_ (a' := ?_) ?_ ?_
                rotate_left
                ·show Act.put _ (some 71) _ = _
                 simp only [Act.put, List.setIfInBounds_toArray, List.set_cons_zero, List.set_cons_succ, zaR, zaS]
                 rfl
                exact norm_ (by simp only [putAll, Act.put, List.setIfInBounds_toArray, List.set_cons_zero, List.set_cons_succ]) (hCont (v661, zaT) _ ⟨hHeld, (Kd.za7 HO662.out (fun _ hk => ⟨hk.1.2, hk.2⟩)), (Kd.za7 zbe.out (fun _ hk => ⟨hk.2, hk.1⟩)), (Kd.za7 zax.out (fun _ hk => ⟨hk.2, hk.1⟩)), zaV.out, zaP.out, zbj.out, GW663.out, GE663.out, zbg.out, zbu.out, zaF.out, zbt.out, HB.out⟩)
               rintro ⟨v661, zaT⟩ w75 ⟨hS_, h0_, h1_, h2_, h3_, h4_, h5_, h6_, h7_, h8_, h9_, h10_, h11_, h12_⟩
               have n0_ : zab (Kd.R (Kd.int .i64) 2 w75 w.heap.size (fun k_ => some k_ ≠ (u10 : Value).ownBlock ∧ some k_ ≠ (.slice Ao13 t628.length co13 : Value).ownBlock) v661 t660) := ⟨h0_⟩
               have n1_ : zab (Kd.R (Kd.int .i64) 2 w75 w.heap.size (fun k_ => some k_ ≠ (v661 : Value).ownBlock ∧ some k_ ≠ (.slice Ao13 t628.length co13 : Value).ownBlock) u10 x10_2) := ⟨h1_⟩
               have n2_ : zab (Kd.R (Kd.int .i64) 2 w75 w.heap.size (fun k_ => some k_ ≠ (v661 : Value).ownBlock ∧ some k_ ≠ (u10 : Value).ownBlock) (.slice Ao13 t628.length co13) t628) := ⟨h2_⟩
               have n3_ : zab (w75.heap[zbh]? = some (.cells #[.int .i64 t626, .string t627, .slice Ao13 t628.length co13] 27 (0, 0))) := ⟨h3_⟩
               have n4_ : zab (w75.heap[zbc]? = some (.cells #[.int .i64 zaE, .string zaD, .int .i64 zaC] 30 (0, 0))) := ⟨h4_⟩
               have n5_ : zab (w75.heap[zaT]? = some (.cells #[.int .i64 0, .int .i64 0, .string (⟨#[]⟩ : ByteArray), .int .i64 0, .string (⟨#[]⟩ : ByteArray), .slice none 0 0] 33 (0, 0))) := ⟨h5_⟩
               have n6_ : zab (w.heap.size ≤ zaT) := ⟨h6_⟩
               have n7_ : zab (w.heap.size ≤ zaT) := ⟨h7_⟩
               have n8_ : zab (zbh ≠ zaT) := ⟨h8_⟩
               have n9_ : zab (zaT ≠ zbh) := ⟨h9_⟩
               have n10_ : zab (zbc ≠ zaT) := ⟨h10_⟩
               have n11_ : zab (zaT ≠ zbc) := ⟨h11_⟩
               have n12_ : zab (Below w.heap.size w w75) := ⟨h12_⟩
               clear zbe zax zaV zaP HB h0_ h1_ h2_ h3_ h4_ h5_ h6_ h7_ h8_ h9_ h10_ h11_ h12_
               have HO662 := n0_
               have zbe := n1_
               have zax := n2_
               have zaV := n3_
               have zaP := n4_
               have zbj := n5_
               have GW663 := n6_
               have GE663 := n7_
               have zbg := n8_
               have zbu := n9_
               have zaF := n10_
               have zbt := n11_
               have HB := n12_
               clear n0_ n1_ n2_ n3_ n4_ n5_ n6_ n7_ n8_ n9_ n10_ n11_ n12_
               have hHeld : w75.cell? ⟨zbc, 0, none⟩ = some (.int .i64 zaE) ∧ w75.cell? ⟨zbc, 1, none⟩ = some (.string zaD) ∧ w75.cell? ⟨zbc, 2, none⟩ = some (.int .i64 zaC) := hS_
               obtain ⟨Ao81, co81, eo81⟩ := Kd.zbr HO662.out
               (first | subst eo81 | (injection eo81 with f1_ f2_ f3_; have f4_ := f1_.symm; have f5_ := f3_.symm; clear f1_ f2_ f3_; subst f4_; subst f5_))
               refine norm_ (a' := ?_) ?_ ?_
               rotate_left
               ·simp only [putAll, Act.put, List.setIfInBounds_toArray, List.set_cons_zero, List.set_cons_succ]
                rfl
               refine one_ (i := 6) (N := none) #[true, true, true, true, true, true, true] rfl rfl (by kernel_rfl) (by decide) (fun K hK => ?_)
               have hs76 : w75.cell? ⟨zaT, 0, none⟩ = some (.int .i64 0) := (zal zbj.out 0).trans rfl
               have hfs76 := zam zbj.out 0
               have hns76_0 := zbg.out
               have hns76_1 := zaF.out
               have hms76_0 := zbu.out
               have hms76_1 := zbt.out
               have hs77 : w75.cell? ⟨zaT, 1, none⟩ = some (.int .i64 0) := (zal zbj.out 1).trans rfl
               have hfs77 := zam zbj.out 1
               have hns77_0 := zbg.out
               have hns77_1 := zaF.out
               have hms77_0 := zbu.out
               have hms77_1 := zbt.out
               have hs78 : w75.cell? ⟨zaT, 2, none⟩ = some (.string (⟨#[]⟩ : ByteArray)) := (zal zbj.out 2).trans rfl
               have hfs78 := zam zbj.out 2
               have hns78_0 := zbg.out
               have hns78_1 := zaF.out
               have hms78_0 := zbu.out
               have hms78_1 := zbt.out
               have hs79 : w75.cell? ⟨zaT, 3, none⟩ = some (.int .i64 0) := (zal zbj.out 3).trans rfl
               have hfs79 := zam zbj.out 3
               have hns79_0 := zbg.out
               have hns79_1 := zaF.out
               have hms79_0 := zbu.out
               have hms79_1 := zbt.out
               have hs80 : w75.cell? ⟨zaT, 4, none⟩ = some (.string (⟨#[]⟩ : ByteArray)) := (zal zbj.out 4).trans rfl
               have hfs80 := zam zbj.out 4
               have hns80_0 := zbg.out
               have hns80_1 := zaF.out
               have hms80_0 := zbu.out
               have hms80_1 := zbt.out
               have hs82 : w75.cell? ⟨zaT, 5, none⟩ = some (.slice none 0 0) := (zal zbj.out 5).trans rfl
               have hfs82 := zam zbj.out 5
               have hns82_0 := zbg.out
               have hns82_1 := zaF.out
               have hms82_0 := zbu.out
               have hms82_1 := zbt.out
               refine skip_ (w1 := ?_) (by rfl) rfl ?_ ?_
               rotate_left
               ·go_simp
                rfl
               refine hK.out _ _ ⟨((cell_far (p := ⟨zaT, _, none⟩) zaF.out _).trans (((cell_far (p := ⟨zaT, _, none⟩) zaF.out _).trans (((cell_far (p := ⟨zaT, _, none⟩) zaF.out _).trans (((cell_far (p := ⟨zaT, _, none⟩) zaF.out _).trans (((cell_far (p := ⟨zaT, _, none⟩) zaF.out _).trans (((cell_far (p := ⟨zaT, _, none⟩) zaF.out _).trans (hHeld.1)))))))))))), ((cell_far (p := ⟨zaT, _, none⟩) zaF.out _).trans (((cell_far (p := ⟨zaT, _, none⟩) zaF.out _).trans (((cell_far (p := ⟨zaT, _, none⟩) zaF.out _).trans (((cell_far (p := ⟨zaT, _, none⟩) zaF.out _).trans (((cell_far (p := ⟨zaT, _, none⟩) zaF.out _).trans (((cell_far (p := ⟨zaT, _, none⟩) zaF.out _).trans (hHeld.2.1)))))))))))), ((cell_far (p := ⟨zaT, _, none⟩) zaF.out _).trans (((cell_far (p := ⟨zaT, _, none⟩) zaF.out _).trans (((cell_far (p := ⟨zaT, _, none⟩) zaF.out _).trans (((cell_far (p := ⟨zaT, _, none⟩) zaF.out _).trans (((cell_far (p := ⟨zaT, _, none⟩) zaF.out _).trans (((cell_far (p := ⟨zaT, _, none⟩) zaF.out _).trans (hHeld.2.2))))))))))))⟩ (fun hHeld => ?_)
               clear hK K
               refine done_ (by kernel_rfl) ?_
               have hnb83 := zbu.out
               have hnc83 := zbg.out
               have hnb84 := zbt.out
               have hnc84 := zaF.out
               have hcz85_0 : w75.cell? ⟨zaT, 0, none⟩ = some (.int .i64 0) := (zal zbj.out 0).trans rfl
               have hcz85_1 : w75.cell? ⟨zaT, 1, none⟩ = some (.int .i64 0) := (zal zbj.out 1).trans rfl
               have hcz85_2 : w75.cell? ⟨zaT, 2, none⟩ = some (.string (⟨#[]⟩ : ByteArray)) := (zal zbj.out 2).trans rfl
               have hcz85_3 : w75.cell? ⟨zaT, 3, none⟩ = some (.int .i64 0) := (zal zbj.out 3).trans rfl
               have hcz85_4 : w75.cell? ⟨zaT, 4, none⟩ = some (.string (⟨#[]⟩ : ByteArray)) := (zal zbj.out 4).trans rfl
               have hcz85_5 : w75.cell? ⟨zaT, 5, none⟩ = some (.slice none 0 0) := (zal zbj.out 5).trans rfl
               have hfz85_0 := zam zbj.out 0
               have hfz85_1 := zam zbj.out 1
               have hfz85_2 := zam zbj.out 2
               have hfz85_3 := zam zbj.out 3
               have hfz85_4 := zam zbj.out 4
               have hfz85_5 := zam zbj.out 5
               try go_wp2
               go_ret
               exact ⟨by first | rfl | (simp [zar, zas] <;> rfl) | (simp [*, zar, zas] <;> rfl), by repeat (first | (with_reducible first | exact HB.out | apply zad | apply zaa | apply zac | refine zae ?_ zbv.out | refine zae ?_ zbz.out | refine zae ?_ GE663.out) | exact HB.out)⟩
              rw [if_neg c28] at H
              exact absurd H (by simp)
             rw [if_neg c27] at H
             exact absurd H (by simp)
        replace c21 := Bool.eq_false_iff.mpr c21
        subst c21
        replace H : ((impl_EndDecoder.f kj18 zaE zaD zaC).bind fun bt641 => (if bt641.1 = 0 then (if bt641.2.2.1.toList = ([] : List UInt8) then (if x9_2.size + bt641.2.2.2.2.1.size ≤ 9223372036854775807 then (if (x9_2 ++ bt641.2.2.2.2.1).toList = t627.toList then (if x10_2.length + bt641.2.2.2.2.2.length < 17592186044416 then ((zbC.f kj18 (x10_2 ++ bt641.2.2.2.2.2) t628).bind fun t653 => (some t653)) else (none)) else (some false)) else (none)) else (some false)) else (some false))) = some r := by rw [if_neg (show ¬ (false = true) by decide)] at H; exact H
        replace H := Option.bind_eq_some_iff.mp H
        obtain ⟨⟨t641, t642, t643, t644, t645, t646⟩, A860, H⟩ := H
        replace H : (if t641 = 0 then (if t643.toList = ([] : List UInt8) then (if x9_2.size + t645.size ≤ 9223372036854775807 then (if (x9_2 ++ t645).toList = t627.toList then (if x10_2.length + t646.length < 17592186044416 then ((zbC.f kj18 (x10_2 ++ t646) t628).bind fun t653 => (some t653)) else (none)) else (some false)) else (none)) else (some false)) else (some false)) = some r := H
        have A86 := zab.mk A860; clear A860
        by_cases c87 : t641 = 0
        ·rw [if_pos c87] at H
         have c87b0 : (t641 == 0) = true := beq_iff_eq.mpr c87
         have c87b1 : (t641 != 0) = false := bne_eq_false_iff_eq.mpr c87
         clear c87
         by_cases c88 : t643.toList = ([] : List UInt8)
         ·rw [if_pos c88] at H
          have c88b0 : (t643.toList == ([] : List UInt8)) = true := beq_iff_eq.mpr c88
          have c88b1 : (t643.toList != ([] : List UInt8)) = false := bne_eq_false_iff_eq.mpr c88
          clear c88
          by_cases c89 : x9_2.size + t645.size ≤ 9223372036854775807
          ·rw [if_pos c89] at H
           have c89b0 := eq_true c89
           have c89b1 : decide (x9_2.size + t645.size ≤ 9223372036854775807) = true := decide_eq_true c89
           try have c89b2 : (9223372036854775807 < x9_2.size + t645.size) = False := eq_false (Nat.not_lt.2 c89)
           by_cases c90 : (x9_2 ++ t645).toList = t627.toList
           ·rw [if_pos c90] at H
            have c90b0 : ((x9_2 ++ t645).toList == t627.toList) = true := beq_iff_eq.mpr c90
            have c90b1 : ((x9_2 ++ t645).toList != t627.toList) = false := bne_eq_false_iff_eq.mpr c90
            clear c90
            by_cases c91 : x10_2.length + t646.length < 17592186044416
            ·rw [if_pos c91] at H; have LMc91 := zab.mk c91; clear c91
             obtain ⟨y650, hy650⟩ : ∃ y_ : List Int, y_ = (x10_2 ++ t646) := ⟨_, rfl⟩
             replace H : ((zbC.f kj18 y650 t628).bind fun t653 => (some t653)) = some r := by first | (rw [hy650]; with_reducible exact H) | (have H2_ := (Option.bind_some _ _).symm.trans H; rw [hy650]; with_reducible exact H2_) | (have H2_ := (Option.bind_some _ _).symm.trans H; with_reducible exact H2_) | with_reducible exact H | (rw [hy650]; exact H) | exact H
             have Ny650 := zab.mk hy650; clear hy650; replace H := Option.bind_eq_some_iff.mp H
             obtain ⟨t653, A920, H⟩ := H
             replace H : (some t653) = some r := H
             have A92 := zab.mk A920; clear A920; obtain rfl := Option.some.inj H
             have hnb93 := NB637_631.out
             have hnc93 := NB631_637.out
             have hcz94_0 : wc.cell? ⟨zbc, 0, none⟩ = some (.int .i64 zaE) := (zal zaP.out 0).trans rfl
             have hcz94_1 : wc.cell? ⟨zbc, 1, none⟩ = some (.string zaD) := (zal zaP.out 1).trans rfl
             have hcz94_2 : wc.cell? ⟨zbc, 2, none⟩ = some (.int .i64 zaC) := (zal zaP.out 2).trans rfl
             have hfz94_0 := zam zaP.out 0
             have hfz94_1 := zam zaP.out 1
             have hfz94_2 := zam zaP.out 2
             try go_wp2_with (first | ((with_reducible refine zan (f := 11) rfl ?_); refine zaN (some 95) rfl rfl Tryd.func11 (by kernel_rfl) rfl #[.agg #[.int .i64 zaE, .string zaD, .int .i64 zaC]] rfl (by (try simp only [List.map_toArray, List.map_cons, List.map_nil]); first | done | rfl | (simp only [List.length_drop, List.length_take]; rfl)) ?_; (with_reducible refine (impl_EndDecoder.calls kj18 zaE zaD zaC t641 t642 t643 t644 t645 t646 _ ?side1 A86.out).mono ?_); (case side1 => exact GT_below HG.out HB.out); rintro e w95 ⟨v647, rfl, ho0, hb⟩; refine ⟨_, rfl, ?_⟩; have n0_ := zab.mk (Kd.R_elder' zbe.out (Kd.R_base ho0) hb); have n1_ := zab.mk (Kd.R_elder' zax.out (Kd.R_base ho0) hb); have n2_ := zab.mk (Kd.zbm (Kd.R_new' (Kd.R_new' ho0 (Kd.R_lt zbe.out)) (Kd.R_lt zax.out)) (zav HB.out)); have n3_ := zab.mk (zaL (g := zbh) (o := .cells #[.int .i64 t626, .string t627, .slice Ao13 t628.length co13] 27 (0, 0)) zaV.out hb); have n4_ := zab.mk (zaL (g := zbc) (o := .cells #[.int .i64 zaE, .string zaD, .int .i64 zaC] 30 (0, 0)) zaP.out hb); have n5_ := zab.mk (zau HB.out hb); clear zbe zax zaV zaP HB; have zbe := n0_; have zax := n1_; have HO648 := n2_; have zaV := n3_; have zaP := n4_; have HB := n5_; clear n0_ n1_ n2_ n3_ n4_ n5_; (try clear hb); (try clear hb2); (try clear hk); (try clear hi); (try clear ho0)) | ((with_reducible refine zbb (N := 14) rfl ?_); (try (refine gate_guard (by rfl) ?_; dsimp only)); refine zbs ?hg (N := 14) ?hd (cs := #[.int .i64 0, .int .i64 0, .string (⟨#[]⟩ : ByteArray), .int .i64 0, .string (⟨#[]⟩ : ByteArray), .slice none 0 0]) (t := 33) ?hr ?_; (case hd => rfl); (case hg => rfl); (case hr => first | (go_simp; done) | (go_simp; rfl)); intro zaB hg w96 hbox hb; have n0_ := zab.mk (Kd.zbi zbe.out hb); have n1_ := zab.mk (Kd.zbi zax.out hb); have n2_ := zab.mk (Kd.zbi HO648.out hb); have n3_ := zab.mk (zaL (g := zbh) (o := .cells #[.int .i64 t626, .string t627, .slice Ao13 t628.length co13] 27 (0, 0)) zaV.out hb); have n4_ := zab.mk (zaL (g := zbc) (o := .cells #[.int .i64 zaE, .string zaD, .int .i64 zaC] 30 (0, 0)) zaP.out hb); have n5_ := zab.mk (zau HB.out hb); have n6_ := zab.mk (hbox); have n7_ := zab.mk ((by rw [hg]; exact (zav HB.out) : w.heap.size ≤ zaB)); have n8_ := zab.mk ((by rw [hg]; exact (zav HB.out) : w.heap.size ≤ zaB)); have n9_ := zab.mk ((by rw [hg]; exact Nat.ne_of_lt (blk_lt (g := zbh) (o := .cells #[.int .i64 t626, .string t627, .slice Ao13 t628.length co13] 27 (0, 0)) zaV.out) : zbh ≠ zaB)); have n10_ := zab.mk ((by rw [hg]; exact Nat.ne_of_gt (blk_lt (g := zbh) (o := .cells #[.int .i64 t626, .string t627, .slice Ao13 t628.length co13] 27 (0, 0)) zaV.out) : zaB ≠ zbh)); have n11_ := zab.mk ((by rw [hg]; exact Nat.ne_of_lt (blk_lt (g := zbc) (o := .cells #[.int .i64 zaE, .string zaD, .int .i64 zaC] 30 (0, 0)) zaP.out) : zbc ≠ zaB)); have n12_ := zab.mk ((by rw [hg]; exact Nat.ne_of_gt (blk_lt (g := zbc) (o := .cells #[.int .i64 zaE, .string zaD, .int .i64 zaC] 30 (0, 0)) zaP.out) : zaB ≠ zbc)); clear zbe zax HO648 zaV zaP HB; have zbe := n0_; have zax := n1_; have HO648 := n2_; have zaV := n3_; have zaP := n4_; have HB := n5_; have zbn := n6_; have GW649 := n7_; have GE649 := n8_; have zbx := n9_; have NB649_631 := n10_; have zby := n11_; have NB649_637 := n12_; clear n0_ n1_ n2_ n3_ n4_ n5_ n6_ n7_ n8_ n9_ n10_ n11_ n12_ hb hbox hg; have hnb97 := NB649_631.out; have hnc97 := zbx.out; have hnb98 := NB649_637.out; have hnc98 := zby.out; have hcz99_0 : w96.cell? ⟨zaB, 0, none⟩ = some (.int .i64 0) := (zal zbn.out 0).trans rfl; have hcz99_1 : w96.cell? ⟨zaB, 1, none⟩ = some (.int .i64 0) := (zal zbn.out 1).trans rfl; have hcz99_2 : w96.cell? ⟨zaB, 2, none⟩ = some (.string (⟨#[]⟩ : ByteArray)) := (zal zbn.out 2).trans rfl; have hcz99_3 : w96.cell? ⟨zaB, 3, none⟩ = some (.int .i64 0) := (zal zbn.out 3).trans rfl; have hcz99_4 : w96.cell? ⟨zaB, 4, none⟩ = some (.string (⟨#[]⟩ : ByteArray)) := (zal zbn.out 4).trans rfl; have hcz99_5 : w96.cell? ⟨zaB, 5, none⟩ = some (.slice none 0 0) := (zal zbn.out 5).trans rfl; have hfz99_0 := zam zbn.out 0; have hfz99_1 := zam zbn.out 1; have hfz99_2 := zam zbn.out 2; have hfz99_3 := zam zbn.out 3; have hfz99_4 := zam zbn.out 4; have hfz99_5 := zam zbn.out 5; obtain ⟨Ao100, co100, eo100⟩ := Kd.zbr HO648.out; subst eo100))
             have n0_ : zab (Kd.R (Kd.int .i64) 2 ((((((w96.setCell ⟨zaB, 0, none⟩ (.int .i64 t641)).setCell ⟨zaB, 1, none⟩ (.int .i64 t642)).setCell ⟨zaB, 2, none⟩ (.string t643)).setCell ⟨zaB, 3, none⟩ (.int .i64 t644)).setCell ⟨zaB, 4, none⟩ (.string t645)).setCell ⟨zaB, 5, none⟩ (.slice Ao100 t646.length co100)) w.heap.size (fun k_ => some k_ ≠ (.slice Ao13 t628.length co13 : Value).ownBlock ∧ some k_ ≠ (.slice Ao100 t646.length co100 : Value).ownBlock) u10 x10_2) := ⟨by (with_reducible repeat (first | apply Kd.R_alloc | apply Kd.zat | apply Kd.zaw)); exact Kd.za7 (Kd.za0 (p := ⟨zaB, 5, none⟩) (Kd.za0 (p := ⟨zaB, 4, none⟩) (Kd.za0 (p := ⟨zaB, 3, none⟩) (Kd.za0 (p := ⟨zaB, 2, none⟩) (Kd.za0 (p := ⟨zaB, 1, none⟩) (Kd.za0 (p := ⟨zaB, 0, none⟩) (Kd.zbF zbe.out zbn.out (by decide)) (fun _ hk => hk.2) (.int .i64 t641)) (fun _ hk => hk.2) (.int .i64 t642)) (fun _ hk => hk.2) (.string t643)) (fun _ hk => hk.2) (.int .i64 t644)) (fun _ hk => hk.2) (.string t645)) (fun _ hk => hk.2) (.slice Ao100 t646.length co100)) (fun _ hk => ⟨hk.1.1, hk.1.2⟩)⟩
             have n1_ : zab (Kd.R (Kd.int .i64) 2 ((((((w96.setCell ⟨zaB, 0, none⟩ (.int .i64 t641)).setCell ⟨zaB, 1, none⟩ (.int .i64 t642)).setCell ⟨zaB, 2, none⟩ (.string t643)).setCell ⟨zaB, 3, none⟩ (.int .i64 t644)).setCell ⟨zaB, 4, none⟩ (.string t645)).setCell ⟨zaB, 5, none⟩ (.slice Ao100 t646.length co100)) w.heap.size (fun k_ => some k_ ≠ (u10 : Value).ownBlock ∧ some k_ ≠ (.slice Ao100 t646.length co100 : Value).ownBlock) (.slice Ao13 t628.length co13) t628) := ⟨by (with_reducible repeat (first | apply Kd.R_alloc | apply Kd.zat | apply Kd.zaw)); exact Kd.za7 (Kd.za0 (p := ⟨zaB, 5, none⟩) (Kd.za0 (p := ⟨zaB, 4, none⟩) (Kd.za0 (p := ⟨zaB, 3, none⟩) (Kd.za0 (p := ⟨zaB, 2, none⟩) (Kd.za0 (p := ⟨zaB, 1, none⟩) (Kd.za0 (p := ⟨zaB, 0, none⟩) (Kd.zbF zax.out zbn.out (by decide)) (fun _ hk => hk.2) (.int .i64 t641)) (fun _ hk => hk.2) (.int .i64 t642)) (fun _ hk => hk.2) (.string t643)) (fun _ hk => hk.2) (.int .i64 t644)) (fun _ hk => hk.2) (.string t645)) (fun _ hk => hk.2) (.slice Ao100 t646.length co100)) (fun _ hk => ⟨hk.1.1, hk.1.2⟩)⟩
             have n2_ : zab (Kd.R (Kd.int .i64) 2 ((((((w96.setCell ⟨zaB, 0, none⟩ (.int .i64 t641)).setCell ⟨zaB, 1, none⟩ (.int .i64 t642)).setCell ⟨zaB, 2, none⟩ (.string t643)).setCell ⟨zaB, 3, none⟩ (.int .i64 t644)).setCell ⟨zaB, 4, none⟩ (.string t645)).setCell ⟨zaB, 5, none⟩ (.slice Ao100 t646.length co100)) w.heap.size (fun k_ => some k_ ≠ (u10 : Value).ownBlock ∧ some k_ ≠ (.slice Ao13 t628.length co13 : Value).ownBlock) (.slice Ao100 t646.length co100) t646) := ⟨by (with_reducible repeat (first | apply Kd.R_alloc | apply Kd.zat | apply Kd.zaw)); exact Kd.za7 (Kd.za0 (p := ⟨zaB, 5, none⟩) (Kd.za0 (p := ⟨zaB, 4, none⟩) (Kd.za0 (p := ⟨zaB, 3, none⟩) (Kd.za0 (p := ⟨zaB, 2, none⟩) (Kd.za0 (p := ⟨zaB, 1, none⟩) (Kd.za0 (p := ⟨zaB, 0, none⟩) (Kd.zbF HO648.out zbn.out (by decide)) (fun _ hk => hk.2) (.int .i64 t641)) (fun _ hk => hk.2) (.int .i64 t642)) (fun _ hk => hk.2) (.string t643)) (fun _ hk => hk.2) (.int .i64 t644)) (fun _ hk => hk.2) (.string t645)) (fun _ hk => hk.2) (.slice Ao100 t646.length co100)) (fun _ hk => ⟨hk.1.1.2, hk.1.2⟩)⟩
             have n3_ : zab (((((((w96.setCell ⟨zaB, 0, none⟩ (.int .i64 t641)).setCell ⟨zaB, 1, none⟩ (.int .i64 t642)).setCell ⟨zaB, 2, none⟩ (.string t643)).setCell ⟨zaB, 3, none⟩ (.int .i64 t644)).setCell ⟨zaB, 4, none⟩ (.string t645)).setCell ⟨zaB, 5, none⟩ (.slice Ao100 t646.length co100)).heap[zbh]? = some (.cells #[.int .i64 t626, .string t627, .slice Ao13 t628.length co13] 27 (0, 0))) := ⟨by (with_reducible repeat (first | refine zai ?_ _ | refine zak ?_ | refine zah ?_ _)); refine za6 ?_ zbx.out _; (with_reducible repeat (first | refine zai ?_ _ | refine zak ?_ | refine zah ?_ _)); refine za6 ?_ zbx.out _; (with_reducible repeat (first | refine zai ?_ _ | refine zak ?_ | refine zah ?_ _)); refine za6 ?_ zbx.out _; (with_reducible repeat (first | refine zai ?_ _ | refine zak ?_ | refine zah ?_ _)); refine za6 ?_ zbx.out _; (with_reducible repeat (first | refine zai ?_ _ | refine zak ?_ | refine zah ?_ _)); refine za6 ?_ zbx.out _; (with_reducible repeat (first | refine zai ?_ _ | refine zak ?_ | refine zah ?_ _)); refine za6 ?_ zbx.out _; (with_reducible repeat (first | refine zai ?_ _ | refine zak ?_ | refine zah ?_ _)); exact zaV.out⟩
             have n4_ : zab (((((((w96.setCell ⟨zaB, 0, none⟩ (.int .i64 t641)).setCell ⟨zaB, 1, none⟩ (.int .i64 t642)).setCell ⟨zaB, 2, none⟩ (.string t643)).setCell ⟨zaB, 3, none⟩ (.int .i64 t644)).setCell ⟨zaB, 4, none⟩ (.string t645)).setCell ⟨zaB, 5, none⟩ (.slice Ao100 t646.length co100)).heap[zbc]? = some (.cells #[.int .i64 zaE, .string zaD, .int .i64 zaC] 30 (0, 0))) := ⟨by (with_reducible repeat (first | refine zai ?_ _ | refine zak ?_ | refine zah ?_ _)); refine za6 ?_ zby.out _; (with_reducible repeat (first | refine zai ?_ _ | refine zak ?_ | refine zah ?_ _)); refine za6 ?_ zby.out _; (with_reducible repeat (first | refine zai ?_ _ | refine zak ?_ | refine zah ?_ _)); refine za6 ?_ zby.out _; (with_reducible repeat (first | refine zai ?_ _ | refine zak ?_ | refine zah ?_ _)); refine za6 ?_ zby.out _; (with_reducible repeat (first | refine zai ?_ _ | refine zak ?_ | refine zah ?_ _)); refine za6 ?_ zby.out _; (with_reducible repeat (first | refine zai ?_ _ | refine zak ?_ | refine zah ?_ _)); refine za6 ?_ zby.out _; (with_reducible repeat (first | refine zai ?_ _ | refine zak ?_ | refine zah ?_ _)); exact zaP.out⟩
             have n5_ : zab (((((((w96.setCell ⟨zaB, 0, none⟩ (.int .i64 t641)).setCell ⟨zaB, 1, none⟩ (.int .i64 t642)).setCell ⟨zaB, 2, none⟩ (.string t643)).setCell ⟨zaB, 3, none⟩ (.int .i64 t644)).setCell ⟨zaB, 4, none⟩ (.string t645)).setCell ⟨zaB, 5, none⟩ (.slice Ao100 t646.length co100)).heap[zaB]? = some (.cells #[.int .i64 t641, .int .i64 t642, .string t643, .int .i64 t644, .string t645, .slice Ao100 t646.length co100] 33 (0, 0))) := ⟨by (with_reducible repeat (first | refine zai ?_ _ | refine zak ?_ | refine zah ?_ _)); refine zaG (cs := #[.int .i64 t641, .int .i64 t642, .string t643, .int .i64 t644, .string t645, .slice none 0 0]) ?_ 5 _ rfl; (with_reducible repeat (first | refine zai ?_ _ | refine zak ?_ | refine zah ?_ _)); refine zaG (cs := #[.int .i64 t641, .int .i64 t642, .string t643, .int .i64 t644, .string (⟨#[]⟩ : ByteArray), .slice none 0 0]) ?_ 4 _ rfl; (with_reducible repeat (first | refine zai ?_ _ | refine zak ?_ | refine zah ?_ _)); refine zaG (cs := #[.int .i64 t641, .int .i64 t642, .string t643, .int .i64 0, .string (⟨#[]⟩ : ByteArray), .slice none 0 0]) ?_ 3 _ rfl; (with_reducible repeat (first | refine zai ?_ _ | refine zak ?_ | refine zah ?_ _)); refine zaG (cs := #[.int .i64 t641, .int .i64 t642, .string (⟨#[]⟩ : ByteArray), .int .i64 0, .string (⟨#[]⟩ : ByteArray), .slice none 0 0]) ?_ 2 _ rfl; (with_reducible repeat (first | refine zai ?_ _ | refine zak ?_ | refine zah ?_ _)); refine zaG (cs := #[.int .i64 t641, .int .i64 0, .string (⟨#[]⟩ : ByteArray), .int .i64 0, .string (⟨#[]⟩ : ByteArray), .slice none 0 0]) ?_ 1 _ rfl; (with_reducible repeat (first | refine zai ?_ _ | refine zak ?_ | refine zah ?_ _)); refine zaG (cs := #[.int .i64 0, .int .i64 0, .string (⟨#[]⟩ : ByteArray), .int .i64 0, .string (⟨#[]⟩ : ByteArray), .slice none 0 0]) ?_ 0 _ rfl; (with_reducible repeat (first | refine zai ?_ _ | refine zak ?_ | refine zah ?_ _)); exact zbn.out⟩
             have n6_ : zab (Below w.heap.size w ((((((w96.setCell ⟨zaB, 0, none⟩ (.int .i64 t641)).setCell ⟨zaB, 1, none⟩ (.int .i64 t642)).setCell ⟨zaB, 2, none⟩ (.string t643)).setCell ⟨zaB, 3, none⟩ (.int .i64 t644)).setCell ⟨zaB, 4, none⟩ (.string t645)).setCell ⟨zaB, 5, none⟩ (.slice Ao100 t646.length co100))) := ⟨by repeat (first | (with_reducible first | exact HB.out | apply zad | apply zaa | apply zac | refine zae ?_ zbv.out | refine zae ?_ zbz.out | refine zae ?_ GE649.out) | exact HB.out)⟩
             (try clear zbe)
             (try clear zax)
             (try clear HO648)
             (try clear zaV)
             (try clear zaP)
             (try clear zbn)
             (try clear HB)
             generalize ((((((w96.setCell ⟨zaB, 0, none⟩ (.int .i64 t641)).setCell ⟨zaB, 1, none⟩ (.int .i64 t642)).setCell ⟨zaB, 2, none⟩ (.string t643)).setCell ⟨zaB, 3, none⟩ (.int .i64 t644)).setCell ⟨zaB, 4, none⟩ (.string t645)).setCell ⟨zaB, 5, none⟩ (.slice Ao100 t646.length co100)) = w101 at n0_ n1_ n2_ n3_ n4_ n5_ n6_ ⊢
             have zbe := n0_
             have zax := n1_
             have HO648 := n2_
             have zaV := n3_
             have zaP := n4_
             have zbn := n5_
             have HB := n6_
             clear n0_ n1_ n2_ n3_ n4_ n5_ n6_
             have n0_ := zab.mk (Kd.zaw zbe.out)
             have n1_ := zab.mk (Kd.zaw zax.out)
             have n2_ := zab.mk (Kd.zaw HO648.out)
             have n3_ := zab.mk (zak zaV.out)
             have n4_ := zab.mk (zak zaP.out)
             have n5_ := zab.mk (zak zbn.out)
             have n6_ := zab.mk (zac HB.out)
             clear zbe zax HO648 zaV zaP zbn HB
             have zbe := n0_
             have zax := n1_
             have HO648 := n2_
             have zaV := n3_
             have zaP := n4_
             have zbn := n5_
             have HB := n6_
             clear n0_ n1_ n2_ n3_ n4_ n5_ n6_
             refine start_ (n := 28) (S := fun w' => w'.cell? ⟨zaB, 0, none⟩ = some (.int .i64 t641) ∧ w'.cell? ⟨zaB, 1, none⟩ = some (.int .i64 t642) ∧ w'.cell? ⟨zaB, 2, none⟩ = some (.string t643) ∧ w'.cell? ⟨zaB, 3, none⟩ = some (.int .i64 t644) ∧ w'.cell? ⟨zaB, 4, none⟩ = some (.string t645) ∧ w'.cell? ⟨zaB, 5, none⟩ = some (.slice Ao100 t646.length co100) ∧ w'.cell? ⟨zbh, 0, none⟩ = some (.int .i64 t626) ∧ w'.cell? ⟨zbh, 1, none⟩ = some (.string t627) ∧ w'.cell? ⟨zbh, 2, none⟩ = some (.slice Ao13 t628.length co13)) (ds := []) #[false, false, false, false, false, false, false, false, false, false, false, false, false, false, false, false, false, false, false, false, false, false, false, false, false, false, false, false] (by kernel_rfl) rfl rfl ⟨(zal zbn.out 0).trans rfl, (zal zbn.out 1).trans rfl, (zal zbn.out 2).trans rfl, (zal zbn.out 3).trans rfl, (zal zbn.out 4).trans rfl, (zal zbn.out 5).trans rfl, (zal zaV.out 0).trans rfl, (zal zaV.out 1).trans rfl, (zal zaV.out 2).trans rfl⟩ (fun hHeld => ?_); refine with_tabW zay.tab24 zay.bits24 (fun HT_ HW_ => ?_)
             generalize w101.drew = w102 at zbe zax HO648 zaV zaP zbn HB hHeld ⊢
             refine zbf (i := 0) (N := some 96) (v := ?_) (a' := ?_) #[true, false, false, false, false, false, false, false, false, false, false, false, false, false, false, false, false, false, false, false, false, false, false, false, false, false, false, false] rfl rfl (zaZ HT_.out (by kernel_rfl)) (fun _ _ _ h => h) (Or.inl ⟨by rfl, ?_⟩) ?_ ?_
             rotate_left
             ·intro w'
              go_simp
              with_reducible rfl
             rotate_left
             ·simp only [Act.put, List.setIfInBounds_toArray, List.set_cons_zero, List.set_cons_succ, zaR, zaS]
              rfl
             refine take_ (i := 1) (N := some 97) (v := ?_) (a' := ?_) #[true, true, false, false, false, false, false, false, false, false, false, false, false, false, false, false, false, false, false, false, false, false, false, false, false, false, false, false] rfl rfl (take_ofW HT_.out HW_.out (by kernel_rfl)) (fun _ _ _ h => h) (Or.inl ⟨by rfl, ?_⟩) hHeld ?_ ?_
             rotate_left
             ·rintro w' ⟨s0, s1, s2, s3, s4, s5, s6, s7, s8⟩
              go_simp
              with_reducible rfl
             rotate_left
             ·simp only [Act.put, List.setIfInBounds_toArray, List.set_cons_zero, List.set_cons_succ, zaR, zaS]
              rfl
             refine zbf (i := 2) (N := some 98) (v := ?_) (a' := ?_) #[true, true, true, false, false, false, false, false, false, false, false, false, false, false, false, false, false, false, false, false, false, false, false, false, false, false, false, false] rfl rfl (zaZ HT_.out (by kernel_rfl)) (fun _ _ _ h => h) (Or.inl ⟨by rfl, ?_⟩) ?_ ?_
             rotate_left
             ·intro w'
              go_simp
              with_reducible rfl
             rotate_left
             ·simp only [Act.put, List.setIfInBounds_toArray, List.set_cons_zero, List.set_cons_succ, zaR, zaS]
              rfl
             refine zbf (i := 3) (N := some 99) (v := ?_) (a' := ?_) #[true, true, true, true, false, false, false, false, false, false, false, false, false, false, false, false, false, false, false, false, false, false, false, false, false, false, false, false] rfl rfl (zaZ HT_.out (by kernel_rfl)) (fun _ _ _ h => h) (Or.inl ⟨by rfl, ?_⟩) ?_ ?_
             rotate_left
             ·intro w'
              go_simp
              with_reducible rfl
             rotate_left
             ·simp only [Act.put, List.setIfInBounds_toArray, List.set_cons_zero, List.set_cons_succ, zaR, zaS]
              rfl
             refine zbf (i := 4) (N := some 100) (v := ?_) (a' := ?_) #[true, true, true, true, true, false, false, false, false, false, false, false, false, false, false, false, false, false, false, false, false, false, false, false, false, false, false, false] rfl rfl (zaZ HT_.out (by kernel_rfl)) (fun _ _ _ h => h) (Or.inl ⟨by rfl, ?_⟩) ?_ ?_
             rotate_left
             ·intro w'
              go_simp
              with_reducible rfl
             rotate_left
             ·simp only [Act.put, List.setIfInBounds_toArray, List.set_cons_zero, List.set_cons_succ, zaR, zaS]
              rfl
             refine zbf (i := 5) (N := some 101) (v := ?_) (a' := ?_) #[true, true, true, true, true, true, false, false, false, false, false, false, false, false, false, false, false, false, false, false, false, false, false, false, false, false, false, false] rfl rfl (zaZ HT_.out (by kernel_rfl)) (fun _ _ _ h => h) (Or.inl ⟨by rfl, ?_⟩) ?_ ?_
             rotate_left
             ·intro w'
              go_simp
              with_reducible rfl
             rotate_left
             ·simp only [Act.put, List.setIfInBounds_toArray, List.set_cons_zero, List.set_cons_succ, zaR, zaS]
              rfl
             refine take_ (i := 6) (N := some 102) (v := ?_) (a' := ?_) #[true, true, true, true, true, true, true, false, false, false, false, false, false, false, false, false, false, false, false, false, false, false, false, false, false, false, false, false] rfl rfl (take_ofW HT_.out HW_.out (by kernel_rfl)) (fun _ _ _ h => h) (Or.inl ⟨by rfl, ?_⟩) hHeld ?_ ?_
             rotate_left
             ·rintro w' ⟨s0, s1, s2, s3, s4, s5, s6, s7, s8⟩
              go_simp
              with_reducible rfl
             rotate_left
             ·simp only [Act.put, List.setIfInBounds_toArray, List.set_cons_zero, List.set_cons_succ, zaR, zaS]
              rfl
             refine zbf (i := 7) (N := some 103) (v := ?_) (a' := ?_) #[true, true, true, true, true, true, true, true, false, false, false, false, false, false, false, false, false, false, false, false, false, false, false, false, false, false, false, false] rfl rfl (zaZ HT_.out (by kernel_rfl)) (fun _ _ _ h => h) (Or.inl ⟨by rfl, ?_⟩) ?_ ?_
             rotate_left
             ·intro w'
              go_simp
              with_reducible rfl
             rotate_left
             ·simp only [Act.put, List.setIfInBounds_toArray, List.set_cons_zero, List.set_cons_succ, zaR, zaS]
              rfl
             refine zbf (i := 8) (N := some 104) (v := ?_) (a' := ?_) #[true, true, true, true, true, true, true, true, true, false, false, false, false, false, false, false, false, false, false, false, false, false, false, false, false, false, false, false] rfl rfl (zaZ HT_.out (by kernel_rfl)) (fun _ _ _ h => h) (Or.inl ⟨by rfl, ?_⟩) ?_ ?_
             rotate_left
             ·intro w'
              go_simp
              with_reducible rfl
             rotate_left
             ·simp only [Act.put, List.setIfInBounds_toArray, List.set_cons_zero, List.set_cons_succ, zaR, zaS]
              rfl
             refine zbf (i := 9) (N := some 105) (v := ?_) (a' := ?_) #[true, true, true, true, true, true, true, true, true, true, false, false, false, false, false, false, false, false, false, false, false, false, false, false, false, false, false, false] rfl rfl (zaZ HT_.out (by kernel_rfl)) (fun _ _ _ h => h) (Or.inl ⟨by rfl, ?_⟩) ?_ ?_
             rotate_left
             ·intro w'
              go_simp
              with_reducible rfl
             rotate_left
             ·simp only [Act.put, List.setIfInBounds_toArray, List.set_cons_zero, List.set_cons_succ, zaR, zaS]
              rfl
             refine zbf (i := 10) (N := some 106) (v := ?_) (a' := ?_) #[true, true, true, true, true, true, true, true, true, true, true, false, false, false, false, false, false, false, false, false, false, false, false, false, false, false, false, false] rfl rfl (zaZ HT_.out (by kernel_rfl)) (fun _ _ _ h => h) (Or.inl ⟨by rfl, ?_⟩) ?_ ?_
             rotate_left
             ·intro w'
              go_simp
              with_reducible rfl
             rotate_left
             ·simp only [Act.put, List.setIfInBounds_toArray, List.set_cons_zero, List.set_cons_succ, zaR, zaS]
              rfl
             refine zbf (i := 11) (N := some 107) (v := ?_) (a' := ?_) #[true, true, true, true, true, true, true, true, true, true, true, true, false, false, false, false, false, false, false, false, false, false, false, false, false, false, false, false] rfl rfl (zaZ HT_.out (by kernel_rfl)) (fun _ _ _ h => h) (Or.inl ⟨by rfl, ?_⟩) ?_ ?_
             rotate_left
             ·intro w'
              go_simp
              with_reducible rfl
             rotate_left
             ·simp only [Act.put, List.setIfInBounds_toArray, List.set_cons_zero, List.set_cons_succ, zaR, zaS]
              rfl
             refine zbf (i := 14) (N := some 110) (v := ?_) (a' := ?_) #[true, true, true, true, true, true, true, true, true, true, true, true, false, false, true, false, false, false, false, false, false, false, false, false, false, false, false, false] rfl rfl (zaZ HT_.out (by kernel_rfl)) (fun _ _ _ h => h) (Or.inl ⟨by rfl, ?_⟩) ?_ ?_
             rotate_left
             ·intro w'
              go_simp
              with_reducible rfl
             rotate_left
             ·simp only [Act.put, List.setIfInBounds_toArray, List.set_cons_zero, List.set_cons_succ, zaR, zaS]
              rfl
             refine take_ (i := 12) (N := some 108) (v := ?_) (a' := ?_) #[true, true, true, true, true, true, true, true, true, true, true, true, true, false, true, false, false, false, false, false, false, false, false, false, false, false, false, false] rfl rfl (take_ofW HT_.out HW_.out (by kernel_rfl)) (fun _ _ _ h => h) (Or.inl ⟨by rfl, ?_⟩) hHeld ?_ ?_
             rotate_left
             ·rintro w' ⟨s0, s1, s2, s3, s4, s5, s6, s7, s8⟩
              go_simp
              with_reducible rfl
             rotate_left
             ·simp only [Act.put, List.setIfInBounds_toArray, List.set_cons_zero, List.set_cons_succ, zaR, zaS]
              rfl
             refine zbf (i := 13) (N := some 109) (v := ?_) (a' := ?_) #[true, true, true, true, true, true, true, true, true, true, true, true, true, true, true, false, false, false, false, false, false, false, false, false, false, false, false, false] rfl rfl (zaZ HT_.out (by kernel_rfl)) (fun _ _ _ h => h) (Or.inl ⟨by rfl, ?_⟩) ?_ ?_
             rotate_left
             ·intro w'
              go_simp
              with_reducible rfl
             rotate_left
             ·simp only [Act.put, List.setIfInBounds_toArray, List.set_cons_zero, List.set_cons_succ, zaR, zaS]
              rfl
             refine take_ (i := 15) (N := some 111) (v := ?_) (a' := ?_) #[true, true, true, true, true, true, true, true, true, true, true, true, true, true, true, true, false, false, false, false, false, false, false, false, false, false, false, false] rfl rfl (take_ofW HT_.out HW_.out (by kernel_rfl)) (fun _ _ _ h => h) (Or.inl ⟨by rfl, ?_⟩) hHeld ?_ ?_
             rotate_left
             ·rintro w' ⟨s0, s1, s2, s3, s4, s5, s6, s7, s8⟩
              go_simp
              with_reducible rfl
             rotate_left
             ·simp only [Act.put, List.setIfInBounds_toArray, List.set_cons_zero, List.set_cons_succ, zaR, zaS]
              rfl
             refine zbf (i := 16) (N := some 112) (v := ?_) (a' := ?_) #[true, true, true, true, true, true, true, true, true, true, true, true, true, true, true, true, true, false, false, false, false, false, false, false, false, false, false, false] rfl rfl (zaZ HT_.out (by kernel_rfl)) (fun _ _ _ h => h) (Or.inl ⟨by rfl, ?_⟩) ?_ ?_
             rotate_left
             ·intro w'
              go_simp
              with_reducible rfl
             rotate_left
             ·simp only [Act.put, List.setIfInBounds_toArray, List.set_cons_zero, List.set_cons_succ, zaR, zaS]
              rfl
             refine zbf (i := 17) (N := some 113) (v := ?_) (a' := ?_) #[true, true, true, true, true, true, true, true, true, true, true, true, true, true, true, true, true, true, false, false, false, false, false, false, false, false, false, false] rfl rfl (zaZ HT_.out (by kernel_rfl)) (fun _ _ _ h => h) (Or.inl ⟨by rfl, ?_⟩) ?_ ?_
             rotate_left
             ·intro w'
              go_simp
              with_reducible rfl
             rotate_left
             ·simp only [Act.put, List.setIfInBounds_toArray, List.set_cons_zero, List.set_cons_succ, zaR, zaS]
              rfl
             refine zbf (i := 18) (N := some 114) (v := ?_) (a' := ?_) #[true, true, true, true, true, true, true, true, true, true, true, true, true, true, true, true, true, true, true, false, false, false, false, false, false, false, false, false] rfl rfl (zaZ HT_.out (by kernel_rfl)) (fun _ _ _ h => h) (Or.inl ⟨by rfl, ?_⟩) ?_ ?_
             rotate_left
             ·intro w'
              go_simp
              with_reducible rfl
             rotate_left
             ·simp only [Act.put, List.setIfInBounds_toArray, List.set_cons_zero, List.set_cons_succ, zaR, zaS]
              rfl
             refine zbf (i := 19) (N := some 115) (v := ?_) (a' := ?_) #[true, true, true, true, true, true, true, true, true, true, true, true, true, true, true, true, true, true, true, true, false, false, false, false, false, false, false, false] rfl rfl (zaZ HT_.out (by kernel_rfl)) (fun _ _ _ h => h) (Or.inl ⟨by rfl, ?_⟩) ?_ ?_
             rotate_left
             ·intro w'
              go_simp
              with_reducible rfl
             rotate_left
             ·simp only [Act.put, List.setIfInBounds_toArray, List.set_cons_zero, List.set_cons_succ, zaR, zaS]
              rfl
             refine zbf (i := 20) (N := some 116) (v := ?_) (a' := ?_) #[true, true, true, true, true, true, true, true, true, true, true, true, true, true, true, true, true, true, true, true, true, false, false, false, false, false, false, false] rfl rfl (zaZ HT_.out (by kernel_rfl)) (fun _ _ _ h => h) (Or.inl ⟨by rfl, ?_⟩) ?_ ?_
             rotate_left
             ·intro w'
              go_simp
              with_reducible rfl
             rotate_left
             ·simp only [Act.put, List.setIfInBounds_toArray, List.set_cons_zero, List.set_cons_succ, zaR, zaS]
              rfl
             refine zbf (i := 23) (N := some 119) (v := ?_) (a' := ?_) #[true, true, true, true, true, true, true, true, true, true, true, true, true, true, true, true, true, true, true, true, true, false, false, true, false, false, false, false] rfl rfl (zaZ HT_.out (by kernel_rfl)) (fun _ _ _ h => h) (Or.inl ⟨by rfl, ?_⟩) ?_ ?_
             rotate_left
             ·intro w'
              go_simp
              with_reducible rfl
             rotate_left
             ·simp only [Act.put, List.setIfInBounds_toArray, List.set_cons_zero, List.set_cons_succ, zaR, zaS]
              rfl
             refine take_ (i := 21) (N := some 117) (v := ?_) (a' := ?_) #[true, true, true, true, true, true, true, true, true, true, true, true, true, true, true, true, true, true, true, true, true, true, false, true, false, false, false, false] rfl rfl (take_ofW HT_.out HW_.out (by kernel_rfl)) (fun _ _ _ h => h) (Or.inl ⟨by rfl, ?_⟩) hHeld ?_ ?_
             rotate_left
             ·rintro w' ⟨s0, s1, s2, s3, s4, s5, s6, s7, s8⟩
              go_simp
              with_reducible rfl
             rotate_left
             ·simp only [Act.put, List.setIfInBounds_toArray, List.set_cons_zero, List.set_cons_succ, zaR, zaS]
              rfl
             refine take_ (i := 24) (N := some 120) (v := ?_) (a' := ?_) #[true, true, true, true, true, true, true, true, true, true, true, true, true, true, true, true, true, true, true, true, true, true, false, true, true, false, false, false] rfl rfl (take_ofW HT_.out HW_.out (by kernel_rfl)) (fun _ _ _ h => h) (Or.inl ⟨by rfl, ?_⟩) hHeld ?_ ?_
             rotate_left
             ·rintro w' ⟨s0, s1, s2, s3, s4, s5, s6, s7, s8⟩
              go_simp
              with_reducible rfl
             rotate_left
             ·simp only [Act.put, List.setIfInBounds_toArray, List.set_cons_zero, List.set_cons_succ, zaR, zaS]
              rfl
             refine one_ (i := 22) (N := some 118) #[true, true, true, true, true, true, true, true, true, true, true, true, true, true, true, true, true, true, true, true, true, true, true, true, true, false, false, false] rfl rfl (one_of HT_.out (by kernel_rfl)) (by decide) (fun K hK => ?_)
             refine Kd.R_append_rows_step (Kd.int .i64) (w0 := w) w.heap.size (by rfl) (.tmp 115) (.tmp 117) 25 2 (.int .i64 0) 8 rfl Tryd.underlying25 info2 rfl (by decide) (by omega) u10 x10_2 t646 _ _ _ (fun k_ => some k_ ≠ (.slice Ao13 t628.length co13 : Value).ownBlock ∧ some k_ ≠ (.slice Ao100 t646.length co100 : Value).ownBlock) (fun _ => False) rfl rfl ?aO ?aR (fun _ _ h => h) (fun _ h => h.elim) ?aF ?aB ?aS ?aL ?_
             (case aR => repeat (first | exact (Kd.zbl HO648.out).2.2 | (with_reducible refine Kd.C_alloc ?_ _) | (with_reducible refine Kd.C_drewN ?_ _) | (with_reducible refine Kd.C_drew ?_)))
             (case aB => exact HB.out)
             (case aF => exact (fun k_ hk => ⟨Kd.fresh' (Kd.R_lt zax.out) k_ hk, Kd.fresh' (Kd.R_lt HO648.out) k_ hk⟩))
             (case aO => exact zbe.out)
             (case aS => exact (zav HB.out))
             (case aL => have := LMc91.out; omega)
             intro v651 w103 ho hb hg hat
             rw [← Ny650.out] at ho
             have n0_ := zab.mk (Kd.R_after (ok := (fun k_ => some k_ ≠ (.slice Ao100 t646.length co100 : Value).ownBlock)) (Kd.za7 zax.out (fun _ hk => ⟨hk.2, hk.1⟩)) hg hat)
             have n1_ := zab.mk (blk_grown (g := zbh) (o := .cells #[.int .i64 t626, .string t627, .slice Ao13 t628.length co13] 27 (0, 0)) zaV.out hg (Kd.R_ne zbe.out zaV.out (by decide)))
             have n2_ := zab.mk (blk_grown (g := zbc) (o := .cells #[.int .i64 zaE, .string zaD, .int .i64 zaC] 30 (0, 0)) zaP.out hg (Kd.R_ne zbe.out zaP.out (by decide)))
             have n3_ := zab.mk (Kd.R_after (ok := (fun k_ => some k_ ≠ (.slice Ao13 t628.length co13 : Value).ownBlock)) (Kd.za7 HO648.out (fun _ hk => ⟨hk.2, hk.1⟩)) hg hat)
             have n4_ := zab.mk (blk_grown (g := zaB) (o := .cells #[.int .i64 t641, .int .i64 t642, .string t643, .int .i64 t644, .string t645, .slice Ao100 t646.length co100] 33 (0, 0)) zbn.out hg (Kd.R_ne zbe.out zbn.out (by decide)))
             have n5_ := zab.mk (hb); have n6_ := zab.mk (ho); clear zax zaV zaP HO648 zbn HB zbe
             have zax := n0_
             have zaV := n1_
             have zaP := n2_
             have HO648 := n3_
             have zbn := n4_
             have HB := n5_
             have HO652 := n6_
             clear n0_ n1_ n2_ n3_ n4_ n5_ n6_ ho hb hg hat
             obtain ⟨Ao104, co104, eo104⟩ := Kd.zbr HO652.out
             (first | subst eo104 | (injection eo104 with f1_ f2_ f3_; have f4_ := f1_.symm; have f5_ := f3_.symm; clear f1_ f2_ f3_; subst f4_; subst f5_))
             refine hK.out _ _ ⟨(zal zbn.out 0).trans rfl, (zal zbn.out 1).trans rfl, (zal zbn.out 2).trans rfl, (zal zbn.out 3).trans rfl, (zal zbn.out 4).trans rfl, (zal zbn.out 5).trans rfl, (zal zaV.out 0).trans rfl, (zal zaV.out 1).trans rfl, (zal zaV.out 2).trans rfl⟩ (fun hHeld => ?_)
             clear hK K
             refine norm_ (a' := ?_) ?_ ?_
             rotate_left
             ·show Act.put _ (some 118) _ = _
              simp only [Act.put, List.setIfInBounds_toArray, List.set_cons_zero, List.set_cons_succ, zaR, zaS]
              rfl
             refine one_ (i := 25) (N := some 121) #[true, true, true, true, true, true, true, true, true, true, true, true, true, true, true, true, true, true, true, true, true, true, true, true, true, true, false, false] rfl rfl (one_of HT_.out (by kernel_rfl)) (by decide) (fun K hK => ?_)
             refine goes_ Tryd.func12 (by kernel_rfl) rfl #[.slice Ao104 y650.length co104, .slice Ao13 t628.length co13] (by rfl) rfl rfl (by (try simp only [List.map_toArray, List.map_cons, List.map_nil]); first | done | rfl | (simp only [List.length_drop, List.length_take]; rfl)) ?_
             with_reducible refine (zbC.calls kj18 _ _ y650 _ _ t628 t653 _ ?side1 ?side2 ?side3 ?side4 A92.out).mono ?_
             (case side1 => repeat (first | exact (Kd.zbl HO652.out).2.2 | (with_reducible refine Kd.C_alloc ?_ _) | (with_reducible refine Kd.C_drewN ?_ _) | (with_reducible refine Kd.C_drew ?_)))
             (case side2 => exact (Kd.zbl HO652.out).2.1)
             (case side3 => repeat (first | exact (Kd.zbl zax.out).2.2 | (with_reducible refine Kd.C_alloc ?_ _) | (with_reducible refine Kd.C_drewN ?_ _) | (with_reducible refine Kd.C_drew ?_)))
             (case side4 => exact (Kd.zbl zax.out).2.1)
             rintro e w' ⟨rfl, ⟨nd, rfl⟩⟩
             refine ⟨_, rfl, ?_⟩
             refine hK.out _ _ ⟨(zal zbn.out 0).trans rfl, (zal zbn.out 1).trans rfl, (zal zbn.out 2).trans rfl, (zal zbn.out 3).trans rfl, (zal zbn.out 4).trans rfl, (zal zbn.out 5).trans rfl, (zal zaV.out 0).trans rfl, (zal zaV.out 1).trans rfl, (zal zaV.out 2).trans rfl⟩ (fun hHeld => ?_)
             clear hK K
             refine norm_ (a' := ?_) ?_ ?_
             rotate_left
             ·show Act.put _ (some 121) _ = _
              simp only [Act.put, List.setIfInBounds_toArray, List.set_cons_zero, List.set_cons_succ, zaR, zaS]
              rfl
             refine zbf (i := 26) (N := some 122) (v := ?_) (a' := ?_) #[true, true, true, true, true, true, true, true, true, true, true, true, true, true, true, true, true, true, true, true, true, true, true, true, true, true, true, false] rfl rfl (zaZ HT_.out (by kernel_rfl)) (fun _ _ _ h => h) (Or.inl ⟨by rfl, ?_⟩) ?_ ?_
             rotate_left
             ·intro w'
              go_simp
              with_reducible rfl
             rotate_left
             ·simp only [Act.put, List.setIfInBounds_toArray, List.set_cons_zero, List.set_cons_succ, zaR, zaS]
              rfl
             refine zbf (i := 27) (N := some 4) (v := ?_) (a' := ?_) #[true, true, true, true, true, true, true, true, true, true, true, true, true, true, true, true, true, true, true, true, true, true, true, true, true, true, true, true] rfl rfl (zaZ HT_.out (by kernel_rfl)) (fun _ _ _ h => h) (Or.inl ⟨by rfl, ?_⟩) ?_ ?_
             rotate_left
             ·intro w'
              go_simp
              with_reducible rfl
             rotate_left
             ·simp only [Act.put, List.setIfInBounds_toArray, List.set_cons_zero, List.set_cons_succ, zaR, zaS]
              rfl
             refine done_ (done_of HT_.out (by kernel_rfl)) ?_
             try go_wp2
             go_ret
             exact ⟨by first | rfl | (simp [zar, zas] <;> rfl) | (simp [*, zar, zas] <;> rfl), by repeat (first | (with_reducible first | exact HB.out | apply zad | apply zaa | apply zac | refine zae ?_ zbv.out | refine zae ?_ zbz.out | refine zae ?_ GE649.out) | exact HB.out)⟩
            rw [if_neg c91] at H
            exact absurd H (by simp)
           rw [if_neg c90] at H
           have c90b0 : ((x9_2 ++ t645).toList == t627.toList) = false := beq_eq_false_iff_ne.mpr c90
           have c90b1 : ((x9_2 ++ t645).toList != t627.toList) = true := bne_iff_ne.mpr c90
           obtain rfl := Option.some.inj H
           have hnb105 := NB637_631.out
           have hnc105 := NB631_637.out
           have hcz106_0 : wc.cell? ⟨zbc, 0, none⟩ = some (.int .i64 zaE) := (zal zaP.out 0).trans rfl
           have hcz106_1 : wc.cell? ⟨zbc, 1, none⟩ = some (.string zaD) := (zal zaP.out 1).trans rfl
           have hcz106_2 : wc.cell? ⟨zbc, 2, none⟩ = some (.int .i64 zaC) := (zal zaP.out 2).trans rfl
           have hfz106_0 := zam zaP.out 0
           have hfz106_1 := zam zaP.out 1
           have hfz106_2 := zam zaP.out 2
           try go_wp2_with (first | ((with_reducible refine zan (f := 11) rfl ?_); refine zaN (some 95) rfl rfl Tryd.func11 (by kernel_rfl) rfl #[.agg #[.int .i64 zaE, .string zaD, .int .i64 zaC]] rfl (by (try simp only [List.map_toArray, List.map_cons, List.map_nil]); first | done | rfl | (simp only [List.length_drop, List.length_take]; rfl)) ?_; (with_reducible refine (impl_EndDecoder.calls kj18 zaE zaD zaC t641 t642 t643 t644 t645 t646 _ ?side1 A86.out).mono ?_); (case side1 => exact GT_below HG.out HB.out); rintro e w107 ⟨v647, rfl, ho0, hb⟩; refine ⟨_, rfl, ?_⟩; have n0_ := zab.mk (Kd.R_elder' zbe.out (Kd.R_base ho0) hb); have n1_ := zab.mk (Kd.R_elder' zax.out (Kd.R_base ho0) hb); have n2_ := zab.mk (Kd.zbm (Kd.R_new' (Kd.R_new' ho0 (Kd.R_lt zbe.out)) (Kd.R_lt zax.out)) (zav HB.out)); have n3_ := zab.mk (zaL (g := zbh) (o := .cells #[.int .i64 t626, .string t627, .slice Ao13 t628.length co13] 27 (0, 0)) zaV.out hb); have n4_ := zab.mk (zaL (g := zbc) (o := .cells #[.int .i64 zaE, .string zaD, .int .i64 zaC] 30 (0, 0)) zaP.out hb); have n5_ := zab.mk (zau HB.out hb); clear zbe zax zaV zaP HB; have zbe := n0_; have zax := n1_; have HO648 := n2_; have zaV := n3_; have zaP := n4_; have HB := n5_; clear n0_ n1_ n2_ n3_ n4_ n5_; (try clear hb); (try clear hb2); (try clear hk); (try clear hi); (try clear ho0)) | ((with_reducible refine zbb (N := 14) rfl ?_); (try (refine gate_guard (by rfl) ?_; dsimp only)); refine zbs ?hg (N := 14) ?hd (cs := #[.int .i64 0, .int .i64 0, .string (⟨#[]⟩ : ByteArray), .int .i64 0, .string (⟨#[]⟩ : ByteArray), .slice none 0 0]) (t := 33) ?hr ?_; (case hd => rfl); (case hg => rfl); (case hr => first | (go_simp; done) | (go_simp; rfl)); intro zaB hg w108 hbox hb; have n0_ := zab.mk (Kd.zbi zbe.out hb); have n1_ := zab.mk (Kd.zbi zax.out hb); have n2_ := zab.mk (Kd.zbi HO648.out hb); have n3_ := zab.mk (zaL (g := zbh) (o := .cells #[.int .i64 t626, .string t627, .slice Ao13 t628.length co13] 27 (0, 0)) zaV.out hb); have n4_ := zab.mk (zaL (g := zbc) (o := .cells #[.int .i64 zaE, .string zaD, .int .i64 zaC] 30 (0, 0)) zaP.out hb); have n5_ := zab.mk (zau HB.out hb); have n6_ := zab.mk (hbox); have n7_ := zab.mk ((by rw [hg]; exact (zav HB.out) : w.heap.size ≤ zaB)); have n8_ := zab.mk ((by rw [hg]; exact (zav HB.out) : w.heap.size ≤ zaB)); have n9_ := zab.mk ((by rw [hg]; exact Nat.ne_of_lt (blk_lt (g := zbh) (o := .cells #[.int .i64 t626, .string t627, .slice Ao13 t628.length co13] 27 (0, 0)) zaV.out) : zbh ≠ zaB)); have n10_ := zab.mk ((by rw [hg]; exact Nat.ne_of_gt (blk_lt (g := zbh) (o := .cells #[.int .i64 t626, .string t627, .slice Ao13 t628.length co13] 27 (0, 0)) zaV.out) : zaB ≠ zbh)); have n11_ := zab.mk ((by rw [hg]; exact Nat.ne_of_lt (blk_lt (g := zbc) (o := .cells #[.int .i64 zaE, .string zaD, .int .i64 zaC] 30 (0, 0)) zaP.out) : zbc ≠ zaB)); have n12_ := zab.mk ((by rw [hg]; exact Nat.ne_of_gt (blk_lt (g := zbc) (o := .cells #[.int .i64 zaE, .string zaD, .int .i64 zaC] 30 (0, 0)) zaP.out) : zaB ≠ zbc)); clear zbe zax HO648 zaV zaP HB; have zbe := n0_; have zax := n1_; have HO648 := n2_; have zaV := n3_; have zaP := n4_; have HB := n5_; have zbn := n6_; have GW649 := n7_; have GE649 := n8_; have zbx := n9_; have NB649_631 := n10_; have zby := n11_; have NB649_637 := n12_; clear n0_ n1_ n2_ n3_ n4_ n5_ n6_ n7_ n8_ n9_ n10_ n11_ n12_ hb hbox hg; have hnb109 := NB649_631.out; have hnc109 := zbx.out; have hnb110 := NB649_637.out; have hnc110 := zby.out; have hcz111_0 : w108.cell? ⟨zaB, 0, none⟩ = some (.int .i64 0) := (zal zbn.out 0).trans rfl; have hcz111_1 : w108.cell? ⟨zaB, 1, none⟩ = some (.int .i64 0) := (zal zbn.out 1).trans rfl; have hcz111_2 : w108.cell? ⟨zaB, 2, none⟩ = some (.string (⟨#[]⟩ : ByteArray)) := (zal zbn.out 2).trans rfl; have hcz111_3 : w108.cell? ⟨zaB, 3, none⟩ = some (.int .i64 0) := (zal zbn.out 3).trans rfl; have hcz111_4 : w108.cell? ⟨zaB, 4, none⟩ = some (.string (⟨#[]⟩ : ByteArray)) := (zal zbn.out 4).trans rfl; have hcz111_5 : w108.cell? ⟨zaB, 5, none⟩ = some (.slice none 0 0) := (zal zbn.out 5).trans rfl; have hfz111_0 := zam zbn.out 0; have hfz111_1 := zam zbn.out 1; have hfz111_2 := zam zbn.out 2; have hfz111_3 := zam zbn.out 3; have hfz111_4 := zam zbn.out 4; have hfz111_5 := zam zbn.out 5; obtain ⟨Ao112, co112, eo112⟩ := Kd.zbr HO648.out; subst eo112))
           have n0_ : zab (Kd.R (Kd.int .i64) 2 ((((((w108.setCell ⟨zaB, 0, none⟩ (.int .i64 t641)).setCell ⟨zaB, 1, none⟩ (.int .i64 t642)).setCell ⟨zaB, 2, none⟩ (.string t643)).setCell ⟨zaB, 3, none⟩ (.int .i64 t644)).setCell ⟨zaB, 4, none⟩ (.string t645)).setCell ⟨zaB, 5, none⟩ (.slice Ao112 t646.length co112)) w.heap.size (fun k_ => some k_ ≠ (.slice Ao13 t628.length co13 : Value).ownBlock ∧ some k_ ≠ (.slice Ao112 t646.length co112 : Value).ownBlock) u10 x10_2) := ⟨by (with_reducible repeat (first | apply Kd.R_alloc | apply Kd.zat | apply Kd.zaw)); exact Kd.za7 (Kd.za0 (p := ⟨zaB, 5, none⟩) (Kd.za0 (p := ⟨zaB, 4, none⟩) (Kd.za0 (p := ⟨zaB, 3, none⟩) (Kd.za0 (p := ⟨zaB, 2, none⟩) (Kd.za0 (p := ⟨zaB, 1, none⟩) (Kd.za0 (p := ⟨zaB, 0, none⟩) (Kd.zbF zbe.out zbn.out (by decide)) (fun _ hk => hk.2) (.int .i64 t641)) (fun _ hk => hk.2) (.int .i64 t642)) (fun _ hk => hk.2) (.string t643)) (fun _ hk => hk.2) (.int .i64 t644)) (fun _ hk => hk.2) (.string t645)) (fun _ hk => hk.2) (.slice Ao112 t646.length co112)) (fun _ hk => ⟨hk.1.1, hk.1.2⟩)⟩
           have n1_ : zab (Kd.R (Kd.int .i64) 2 ((((((w108.setCell ⟨zaB, 0, none⟩ (.int .i64 t641)).setCell ⟨zaB, 1, none⟩ (.int .i64 t642)).setCell ⟨zaB, 2, none⟩ (.string t643)).setCell ⟨zaB, 3, none⟩ (.int .i64 t644)).setCell ⟨zaB, 4, none⟩ (.string t645)).setCell ⟨zaB, 5, none⟩ (.slice Ao112 t646.length co112)) w.heap.size (fun k_ => some k_ ≠ (u10 : Value).ownBlock ∧ some k_ ≠ (.slice Ao112 t646.length co112 : Value).ownBlock) (.slice Ao13 t628.length co13) t628) := ⟨by (with_reducible repeat (first | apply Kd.R_alloc | apply Kd.zat | apply Kd.zaw)); exact Kd.za7 (Kd.za0 (p := ⟨zaB, 5, none⟩) (Kd.za0 (p := ⟨zaB, 4, none⟩) (Kd.za0 (p := ⟨zaB, 3, none⟩) (Kd.za0 (p := ⟨zaB, 2, none⟩) (Kd.za0 (p := ⟨zaB, 1, none⟩) (Kd.za0 (p := ⟨zaB, 0, none⟩) (Kd.zbF zax.out zbn.out (by decide)) (fun _ hk => hk.2) (.int .i64 t641)) (fun _ hk => hk.2) (.int .i64 t642)) (fun _ hk => hk.2) (.string t643)) (fun _ hk => hk.2) (.int .i64 t644)) (fun _ hk => hk.2) (.string t645)) (fun _ hk => hk.2) (.slice Ao112 t646.length co112)) (fun _ hk => ⟨hk.1.1, hk.1.2⟩)⟩
           have n2_ : zab (Kd.R (Kd.int .i64) 2 ((((((w108.setCell ⟨zaB, 0, none⟩ (.int .i64 t641)).setCell ⟨zaB, 1, none⟩ (.int .i64 t642)).setCell ⟨zaB, 2, none⟩ (.string t643)).setCell ⟨zaB, 3, none⟩ (.int .i64 t644)).setCell ⟨zaB, 4, none⟩ (.string t645)).setCell ⟨zaB, 5, none⟩ (.slice Ao112 t646.length co112)) w.heap.size (fun k_ => some k_ ≠ (u10 : Value).ownBlock ∧ some k_ ≠ (.slice Ao13 t628.length co13 : Value).ownBlock) (.slice Ao112 t646.length co112) t646) := ⟨by (with_reducible repeat (first | apply Kd.R_alloc | apply Kd.zat | apply Kd.zaw)); exact Kd.za7 (Kd.za0 (p := ⟨zaB, 5, none⟩) (Kd.za0 (p := ⟨zaB, 4, none⟩) (Kd.za0 (p := ⟨zaB, 3, none⟩) (Kd.za0 (p := ⟨zaB, 2, none⟩) (Kd.za0 (p := ⟨zaB, 1, none⟩) (Kd.za0 (p := ⟨zaB, 0, none⟩) (Kd.zbF HO648.out zbn.out (by decide)) (fun _ hk => hk.2) (.int .i64 t641)) (fun _ hk => hk.2) (.int .i64 t642)) (fun _ hk => hk.2) (.string t643)) (fun _ hk => hk.2) (.int .i64 t644)) (fun _ hk => hk.2) (.string t645)) (fun _ hk => hk.2) (.slice Ao112 t646.length co112)) (fun _ hk => ⟨hk.1.1.2, hk.1.2⟩)⟩
           have n3_ : zab (((((((w108.setCell ⟨zaB, 0, none⟩ (.int .i64 t641)).setCell ⟨zaB, 1, none⟩ (.int .i64 t642)).setCell ⟨zaB, 2, none⟩ (.string t643)).setCell ⟨zaB, 3, none⟩ (.int .i64 t644)).setCell ⟨zaB, 4, none⟩ (.string t645)).setCell ⟨zaB, 5, none⟩ (.slice Ao112 t646.length co112)).heap[zbh]? = some (.cells #[.int .i64 t626, .string t627, .slice Ao13 t628.length co13] 27 (0, 0))) := ⟨by (with_reducible repeat (first | refine zai ?_ _ | refine zak ?_ | refine zah ?_ _)); refine za6 ?_ zbx.out _; (with_reducible repeat (first | refine zai ?_ _ | refine zak ?_ | refine zah ?_ _)); refine za6 ?_ zbx.out _; (with_reducible repeat (first | refine zai ?_ _ | refine zak ?_ | refine zah ?_ _)); refine za6 ?_ zbx.out _; (with_reducible repeat (first | refine zai ?_ _ | refine zak ?_ | refine zah ?_ _)); refine za6 ?_ zbx.out _; (with_reducible repeat (first | refine zai ?_ _ | refine zak ?_ | refine zah ?_ _)); refine za6 ?_ zbx.out _; (with_reducible repeat (first | refine zai ?_ _ | refine zak ?_ | refine zah ?_ _)); refine za6 ?_ zbx.out _; (with_reducible repeat (first | refine zai ?_ _ | refine zak ?_ | refine zah ?_ _)); exact zaV.out⟩
           have n4_ : zab (((((((w108.setCell ⟨zaB, 0, none⟩ (.int .i64 t641)).setCell ⟨zaB, 1, none⟩ (.int .i64 t642)).setCell ⟨zaB, 2, none⟩ (.string t643)).setCell ⟨zaB, 3, none⟩ (.int .i64 t644)).setCell ⟨zaB, 4, none⟩ (.string t645)).setCell ⟨zaB, 5, none⟩ (.slice Ao112 t646.length co112)).heap[zbc]? = some (.cells #[.int .i64 zaE, .string zaD, .int .i64 zaC] 30 (0, 0))) := ⟨by (with_reducible repeat (first | refine zai ?_ _ | refine zak ?_ | refine zah ?_ _)); refine za6 ?_ zby.out _; (with_reducible repeat (first | refine zai ?_ _ | refine zak ?_ | refine zah ?_ _)); refine za6 ?_ zby.out _; (with_reducible repeat (first | refine zai ?_ _ | refine zak ?_ | refine zah ?_ _)); refine za6 ?_ zby.out _; (with_reducible repeat (first | refine zai ?_ _ | refine zak ?_ | refine zah ?_ _)); refine za6 ?_ zby.out _; (with_reducible repeat (first | refine zai ?_ _ | refine zak ?_ | refine zah ?_ _)); refine za6 ?_ zby.out _; (with_reducible repeat (first | refine zai ?_ _ | refine zak ?_ | refine zah ?_ _)); refine za6 ?_ zby.out _; (with_reducible repeat (first | refine zai ?_ _ | refine zak ?_ | refine zah ?_ _)); exact zaP.out⟩
           have n5_ : zab (((((((w108.setCell ⟨zaB, 0, none⟩ (.int .i64 t641)).setCell ⟨zaB, 1, none⟩ (.int .i64 t642)).setCell ⟨zaB, 2, none⟩ (.string t643)).setCell ⟨zaB, 3, none⟩ (.int .i64 t644)).setCell ⟨zaB, 4, none⟩ (.string t645)).setCell ⟨zaB, 5, none⟩ (.slice Ao112 t646.length co112)).heap[zaB]? = some (.cells #[.int .i64 t641, .int .i64 t642, .string t643, .int .i64 t644, .string t645, .slice Ao112 t646.length co112] 33 (0, 0))) := ⟨by (with_reducible repeat (first | refine zai ?_ _ | refine zak ?_ | refine zah ?_ _)); refine zaG (cs := #[.int .i64 t641, .int .i64 t642, .string t643, .int .i64 t644, .string t645, .slice none 0 0]) ?_ 5 _ rfl; (with_reducible repeat (first | refine zai ?_ _ | refine zak ?_ | refine zah ?_ _)); refine zaG (cs := #[.int .i64 t641, .int .i64 t642, .string t643, .int .i64 t644, .string (⟨#[]⟩ : ByteArray), .slice none 0 0]) ?_ 4 _ rfl; (with_reducible repeat (first | refine zai ?_ _ | refine zak ?_ | refine zah ?_ _)); refine zaG (cs := #[.int .i64 t641, .int .i64 t642, .string t643, .int .i64 0, .string (⟨#[]⟩ : ByteArray), .slice none 0 0]) ?_ 3 _ rfl; (with_reducible repeat (first | refine zai ?_ _ | refine zak ?_ | refine zah ?_ _)); refine zaG (cs := #[.int .i64 t641, .int .i64 t642, .string (⟨#[]⟩ : ByteArray), .int .i64 0, .string (⟨#[]⟩ : ByteArray), .slice none 0 0]) ?_ 2 _ rfl; (with_reducible repeat (first | refine zai ?_ _ | refine zak ?_ | refine zah ?_ _)); refine zaG (cs := #[.int .i64 t641, .int .i64 0, .string (⟨#[]⟩ : ByteArray), .int .i64 0, .string (⟨#[]⟩ : ByteArray), .slice none 0 0]) ?_ 1 _ rfl; (with_reducible repeat (first | refine zai ?_ _ | refine zak ?_ | refine zah ?_ _)); refine zaG (cs := #[.int .i64 0, .int .i64 0, .string (⟨#[]⟩ : ByteArray), .int .i64 0, .string (⟨#[]⟩ : ByteArray), .slice none 0 0]) ?_ 0 _ rfl; (with_reducible repeat (first | refine zai ?_ _ | refine zak ?_ | refine zah ?_ _)); exact zbn.out⟩
           have n6_ : zab (Below w.heap.size w ((((((w108.setCell ⟨zaB, 0, none⟩ (.int .i64 t641)).setCell ⟨zaB, 1, none⟩ (.int .i64 t642)).setCell ⟨zaB, 2, none⟩ (.string t643)).setCell ⟨zaB, 3, none⟩ (.int .i64 t644)).setCell ⟨zaB, 4, none⟩ (.string t645)).setCell ⟨zaB, 5, none⟩ (.slice Ao112 t646.length co112))) := ⟨by repeat (first | (with_reducible first | exact HB.out | apply zad | apply zaa | apply zac | refine zae ?_ zbv.out | refine zae ?_ zbz.out | refine zae ?_ GE649.out) | exact HB.out)⟩
           (try clear zbe)
           (try clear zax)
           (try clear HO648)
           (try clear zaV)
           (try clear zaP)
           (try clear zbn)
           (try clear HB)
           generalize ((((((w108.setCell ⟨zaB, 0, none⟩ (.int .i64 t641)).setCell ⟨zaB, 1, none⟩ (.int .i64 t642)).setCell ⟨zaB, 2, none⟩ (.string t643)).setCell ⟨zaB, 3, none⟩ (.int .i64 t644)).setCell ⟨zaB, 4, none⟩ (.string t645)).setCell ⟨zaB, 5, none⟩ (.slice Ao112 t646.length co112)) = w113 at n0_ n1_ n2_ n3_ n4_ n5_ n6_ ⊢
           have zbe := n0_
           have zax := n1_
           have HO648 := n2_
           have zaV := n3_
           have zaP := n4_
           have zbn := n5_
           have HB := n6_
           clear n0_ n1_ n2_ n3_ n4_ n5_ n6_
           have n0_ := zab.mk (Kd.zaw zbe.out)
           have n1_ := zab.mk (Kd.zaw zax.out)
           have n2_ := zab.mk (Kd.zaw HO648.out)
           have n3_ := zab.mk (zak zaV.out)
           have n4_ := zab.mk (zak zaP.out)
           have n5_ := zab.mk (zak zbn.out)
           have n6_ := zab.mk (zac HB.out)
           clear zbe zax HO648 zaV zaP zbn HB
           have zbe := n0_
           have zax := n1_
           have HO648 := n2_
           have zaV := n3_
           have zaP := n4_
           have zbn := n5_
           have HB := n6_
           clear n0_ n1_ n2_ n3_ n4_ n5_ n6_
           refine start_ (n := 28) (S := fun w' => w'.cell? ⟨zaB, 0, none⟩ = some (.int .i64 t641) ∧ w'.cell? ⟨zaB, 1, none⟩ = some (.int .i64 t642) ∧ w'.cell? ⟨zaB, 2, none⟩ = some (.string t643) ∧ w'.cell? ⟨zaB, 3, none⟩ = some (.int .i64 t644) ∧ w'.cell? ⟨zaB, 4, none⟩ = some (.string t645) ∧ w'.cell? ⟨zaB, 5, none⟩ = some (.slice Ao112 t646.length co112) ∧ w'.cell? ⟨zbh, 0, none⟩ = some (.int .i64 t626) ∧ w'.cell? ⟨zbh, 1, none⟩ = some (.string t627) ∧ w'.cell? ⟨zbh, 2, none⟩ = some (.slice Ao13 t628.length co13)) (ds := []) #[false, false, false, false, false, false, false, false, false, false, false, false, false, false, false, false, false, false, false, false, false, false, false, false, false, false, false, false] (by kernel_rfl) rfl rfl ⟨(zal zbn.out 0).trans rfl, (zal zbn.out 1).trans rfl, (zal zbn.out 2).trans rfl, (zal zbn.out 3).trans rfl, (zal zbn.out 4).trans rfl, (zal zbn.out 5).trans rfl, (zal zaV.out 0).trans rfl, (zal zaV.out 1).trans rfl, (zal zaV.out 2).trans rfl⟩ (fun hHeld => ?_); refine with_tabW zay.tab24 zay.bits24 (fun HT_ HW_ => ?_)
           generalize w113.drew = w114 at zbe zax HO648 zaV zaP zbn HB hHeld ⊢
           refine zbf (i := 0) (N := some 96) (v := ?_) (a' := ?_) #[true, false, false, false, false, false, false, false, false, false, false, false, false, false, false, false, false, false, false, false, false, false, false, false, false, false, false, false] rfl rfl (zaZ HT_.out (by kernel_rfl)) (fun _ _ _ h => h) (Or.inl ⟨by rfl, ?_⟩) ?_ ?_
           rotate_left
           ·intro w'
            go_simp
            with_reducible rfl
           rotate_left
           ·simp only [Act.put, List.setIfInBounds_toArray, List.set_cons_zero, List.set_cons_succ, zaR, zaS]
            rfl
           refine take_ (i := 1) (N := some 97) (v := ?_) (a' := ?_) #[true, true, false, false, false, false, false, false, false, false, false, false, false, false, false, false, false, false, false, false, false, false, false, false, false, false, false, false] rfl rfl (take_ofW HT_.out HW_.out (by kernel_rfl)) (fun _ _ _ h => h) (Or.inl ⟨by rfl, ?_⟩) hHeld ?_ ?_
           rotate_left
           ·rintro w' ⟨s0, s1, s2, s3, s4, s5, s6, s7, s8⟩
            go_simp
            with_reducible rfl
           rotate_left
           ·simp only [Act.put, List.setIfInBounds_toArray, List.set_cons_zero, List.set_cons_succ, zaR, zaS]
            rfl
           refine zbf (i := 2) (N := some 98) (v := ?_) (a' := ?_) #[true, true, true, false, false, false, false, false, false, false, false, false, false, false, false, false, false, false, false, false, false, false, false, false, false, false, false, false] rfl rfl (zaZ HT_.out (by kernel_rfl)) (fun _ _ _ h => h) (Or.inl ⟨by rfl, ?_⟩) ?_ ?_
           rotate_left
           ·intro w'
            go_simp
            with_reducible rfl
           rotate_left
           ·simp only [Act.put, List.setIfInBounds_toArray, List.set_cons_zero, List.set_cons_succ, zaR, zaS]
            rfl
           refine zbf (i := 3) (N := some 99) (v := ?_) (a' := ?_) #[true, true, true, true, false, false, false, false, false, false, false, false, false, false, false, false, false, false, false, false, false, false, false, false, false, false, false, false] rfl rfl (zaZ HT_.out (by kernel_rfl)) (fun _ _ _ h => h) (Or.inl ⟨by rfl, ?_⟩) ?_ ?_
           rotate_left
           ·intro w'
            go_simp
            with_reducible rfl
           rotate_left
           ·simp only [Act.put, List.setIfInBounds_toArray, List.set_cons_zero, List.set_cons_succ, zaR, zaS]
            rfl
           refine zbf (i := 4) (N := some 100) (v := ?_) (a' := ?_) #[true, true, true, true, true, false, false, false, false, false, false, false, false, false, false, false, false, false, false, false, false, false, false, false, false, false, false, false] rfl rfl (zaZ HT_.out (by kernel_rfl)) (fun _ _ _ h => h) (Or.inl ⟨by rfl, ?_⟩) ?_ ?_
           rotate_left
           ·intro w'
            go_simp
            with_reducible rfl
           rotate_left
           ·simp only [Act.put, List.setIfInBounds_toArray, List.set_cons_zero, List.set_cons_succ, zaR, zaS]
            rfl
           refine zbf (i := 5) (N := some 101) (v := ?_) (a' := ?_) #[true, true, true, true, true, true, false, false, false, false, false, false, false, false, false, false, false, false, false, false, false, false, false, false, false, false, false, false] rfl rfl (zaZ HT_.out (by kernel_rfl)) (fun _ _ _ h => h) (Or.inl ⟨by rfl, ?_⟩) ?_ ?_
           rotate_left
           ·intro w'
            go_simp
            with_reducible rfl
           rotate_left
           ·simp only [Act.put, List.setIfInBounds_toArray, List.set_cons_zero, List.set_cons_succ, zaR, zaS]
            rfl
           refine take_ (i := 6) (N := some 102) (v := ?_) (a' := ?_) #[true, true, true, true, true, true, true, false, false, false, false, false, false, false, false, false, false, false, false, false, false, false, false, false, false, false, false, false] rfl rfl (take_ofW HT_.out HW_.out (by kernel_rfl)) (fun _ _ _ h => h) (Or.inl ⟨by rfl, ?_⟩) hHeld ?_ ?_
           rotate_left
           ·rintro w' ⟨s0, s1, s2, s3, s4, s5, s6, s7, s8⟩
            go_simp
            with_reducible rfl
           rotate_left
           ·simp only [Act.put, List.setIfInBounds_toArray, List.set_cons_zero, List.set_cons_succ, zaR, zaS]
            rfl
           refine zbf (i := 7) (N := some 103) (v := ?_) (a' := ?_) #[true, true, true, true, true, true, true, true, false, false, false, false, false, false, false, false, false, false, false, false, false, false, false, false, false, false, false, false] rfl rfl (zaZ HT_.out (by kernel_rfl)) (fun _ _ _ h => h) (Or.inl ⟨by rfl, ?_⟩) ?_ ?_
           rotate_left
           ·intro w'
            go_simp
            with_reducible rfl
           rotate_left
           ·simp only [Act.put, List.setIfInBounds_toArray, List.set_cons_zero, List.set_cons_succ, zaR, zaS]
            rfl
           refine zbf (i := 8) (N := some 104) (v := ?_) (a' := ?_) #[true, true, true, true, true, true, true, true, true, false, false, false, false, false, false, false, false, false, false, false, false, false, false, false, false, false, false, false] rfl rfl (zaZ HT_.out (by kernel_rfl)) (fun _ _ _ h => h) (Or.inl ⟨by rfl, ?_⟩) ?_ ?_
           rotate_left
           ·intro w'
            go_simp
            with_reducible rfl
           rotate_left
           ·simp only [Act.put, List.setIfInBounds_toArray, List.set_cons_zero, List.set_cons_succ, zaR, zaS]
            rfl
           refine zbf (i := 9) (N := some 105) (v := ?_) (a' := ?_) #[true, true, true, true, true, true, true, true, true, true, false, false, false, false, false, false, false, false, false, false, false, false, false, false, false, false, false, false] rfl rfl (zaZ HT_.out (by kernel_rfl)) (fun _ _ _ h => h) (Or.inl ⟨by rfl, ?_⟩) ?_ ?_
           rotate_left
           ·intro w'
            go_simp
            with_reducible rfl
           rotate_left
           ·simp only [Act.put, List.setIfInBounds_toArray, List.set_cons_zero, List.set_cons_succ, zaR, zaS]
            rfl
           refine zbf (i := 10) (N := some 106) (v := ?_) (a' := ?_) #[true, true, true, true, true, true, true, true, true, true, true, false, false, false, false, false, false, false, false, false, false, false, false, false, false, false, false, false] rfl rfl (zaZ HT_.out (by kernel_rfl)) (fun _ _ _ h => h) (Or.inl ⟨by rfl, ?_⟩) ?_ ?_
           rotate_left
           ·intro w'
            go_simp
            with_reducible rfl
           rotate_left
           ·simp only [Act.put, List.setIfInBounds_toArray, List.set_cons_zero, List.set_cons_succ, zaR, zaS]
            rfl
           refine zbf (i := 11) (N := some 107) (v := ?_) (a' := ?_) #[true, true, true, true, true, true, true, true, true, true, true, true, false, false, false, false, false, false, false, false, false, false, false, false, false, false, false, false] rfl rfl (zaZ HT_.out (by kernel_rfl)) (fun _ _ _ h => h) (Or.inl ⟨by rfl, ?_⟩) ?_ ?_
           rotate_left
           ·intro w'
            go_simp
            with_reducible rfl
           rotate_left
           ·simp only [Act.put, List.setIfInBounds_toArray, List.set_cons_zero, List.set_cons_succ, zaR, zaS]
            rfl
           refine zbf (i := 14) (N := some 110) (v := ?_) (a' := ?_) #[true, true, true, true, true, true, true, true, true, true, true, true, false, false, true, false, false, false, false, false, false, false, false, false, false, false, false, false] rfl rfl (zaZ HT_.out (by kernel_rfl)) (fun _ _ _ h => h) (Or.inl ⟨by rfl, ?_⟩) ?_ ?_
           rotate_left
           ·intro w'
            go_simp
            with_reducible rfl
           rotate_left
           ·simp only [Act.put, List.setIfInBounds_toArray, List.set_cons_zero, List.set_cons_succ, zaR, zaS]
            rfl
           refine take_ (i := 12) (N := some 108) (v := ?_) (a' := ?_) #[true, true, true, true, true, true, true, true, true, true, true, true, true, false, true, false, false, false, false, false, false, false, false, false, false, false, false, false] rfl rfl (take_ofW HT_.out HW_.out (by kernel_rfl)) (fun _ _ _ h => h) (Or.inl ⟨by rfl, ?_⟩) hHeld ?_ ?_
           rotate_left
           ·rintro w' ⟨s0, s1, s2, s3, s4, s5, s6, s7, s8⟩
            go_simp
            with_reducible rfl
           rotate_left
           ·simp only [Act.put, List.setIfInBounds_toArray, List.set_cons_zero, List.set_cons_succ, zaR, zaS]
            rfl
           refine zbf (i := 13) (N := some 109) (v := ?_) (a' := ?_) #[true, true, true, true, true, true, true, true, true, true, true, true, true, true, true, false, false, false, false, false, false, false, false, false, false, false, false, false] rfl rfl (zaZ HT_.out (by kernel_rfl)) (fun _ _ _ h => h) (Or.inl ⟨by rfl, ?_⟩) ?_ ?_
           rotate_left
           ·intro w'
            go_simp
            with_reducible rfl
           rotate_left
           ·simp only [Act.put, List.setIfInBounds_toArray, List.set_cons_zero, List.set_cons_succ, zaR, zaS]
            rfl
           refine take_ (i := 15) (N := some 111) (v := ?_) (a' := ?_) #[true, true, true, true, true, true, true, true, true, true, true, true, true, true, true, true, false, false, false, false, false, false, false, false, false, false, false, false] rfl rfl (take_ofW HT_.out HW_.out (by kernel_rfl)) (fun _ _ _ h => h) (Or.inl ⟨by rfl, ?_⟩) hHeld ?_ ?_
           rotate_left
           ·rintro w' ⟨s0, s1, s2, s3, s4, s5, s6, s7, s8⟩
            go_simp
            with_reducible rfl
           rotate_left
           ·simp only [Act.put, List.setIfInBounds_toArray, List.set_cons_zero, List.set_cons_succ, zaR, zaS]
            rfl
           refine zbf (i := 16) (N := some 112) (v := ?_) (a' := ?_) #[true, true, true, true, true, true, true, true, true, true, true, true, true, true, true, true, true, false, false, false, false, false, false, false, false, false, false, false] rfl rfl (zaZ HT_.out (by kernel_rfl)) (fun _ _ _ h => h) (Or.inl ⟨by rfl, ?_⟩) ?_ ?_
           rotate_left
           ·intro w'
            go_simp
            with_reducible rfl
           rotate_left
           ·simp only [Act.put, List.setIfInBounds_toArray, List.set_cons_zero, List.set_cons_succ, zaR, zaS]
            rfl
           refine zbf (i := 17) (N := some 113) (v := ?_) (a' := ?_) #[true, true, true, true, true, true, true, true, true, true, true, true, true, true, true, true, true, true, false, false, false, false, false, false, false, false, false, false] rfl rfl (zaZ HT_.out (by kernel_rfl)) (fun _ _ _ h => h) (Or.inl ⟨by rfl, ?_⟩) ?_ ?_
           rotate_left
           ·intro w'
            go_simp
            with_reducible rfl
           rotate_left
           ·simp only [Act.put, List.setIfInBounds_toArray, List.set_cons_zero, List.set_cons_succ, zaR, zaS]
            rfl
           refine zbf (i := 18) (N := some 114) (v := ?_) (a' := ?_) #[true, true, true, true, true, true, true, true, true, true, true, true, true, true, true, true, true, true, true, false, false, false, false, false, false, false, false, false] rfl rfl (zaZ HT_.out (by kernel_rfl)) (fun _ _ _ h => h) (Or.inl ⟨by rfl, ?_⟩) ?_ ?_
           rotate_left
           ·intro w'
            go_simp
            with_reducible rfl
           rotate_left
           ·simp only [Act.put, List.setIfInBounds_toArray, List.set_cons_zero, List.set_cons_succ, zaR, zaS]
            rfl
           refine zbf (i := 19) (N := some 115) (v := undef) (a' := ?_) #[true, true, true, true, true, true, true, true, true, true, true, true, true, true, true, true, true, true, true, true, false, false, false, false, false, false, false, false] rfl rfl (zaZ HT_.out (by kernel_rfl)) (fun _ _ _ h => h) (Or.inr ⟨by rfl, rfl⟩) ?_ ?_
           rotate_left
           ·simp only [Act.put, List.setIfInBounds_toArray, List.set_cons_zero, List.set_cons_succ, zaR, zaS]
            rfl
           refine zbf (i := 20) (N := some 116) (v := undef) (a' := ?_) #[true, true, true, true, true, true, true, true, true, true, true, true, true, true, true, true, true, true, true, true, true, false, false, false, false, false, false, false] rfl rfl (zaZ HT_.out (by kernel_rfl)) (fun _ _ _ h => h) (Or.inr ⟨by rfl, rfl⟩) ?_ ?_
           rotate_left
           ·simp only [Act.put, List.setIfInBounds_toArray, List.set_cons_zero, List.set_cons_succ, zaR, zaS]
            rfl
           refine zbf (i := 21) (N := some 117) (v := undef) (a' := ?_) #[true, true, true, true, true, true, true, true, true, true, true, true, true, true, true, true, true, true, true, true, true, true, false, false, false, false, false, false] rfl rfl (zaZ HT_.out (by kernel_rfl)) (fun _ _ _ h => h) (Or.inr ⟨by rfl, rfl⟩) ?_ ?_
           rotate_left
           ·simp only [Act.put, List.setIfInBounds_toArray, List.set_cons_zero, List.set_cons_succ, zaR, zaS]
            rfl
           refine zbf (i := 22) (N := some 118) (v := undef) (a' := ?_) #[true, true, true, true, true, true, true, true, true, true, true, true, true, true, true, true, true, true, true, true, true, true, true, false, false, false, false, false] rfl rfl (zaZ HT_.out (by kernel_rfl)) (fun _ _ _ h => h) (Or.inr ⟨by rfl, rfl⟩) ?_ ?_
           rotate_left
           ·simp only [Act.put, List.setIfInBounds_toArray, List.set_cons_zero, List.set_cons_succ, zaR, zaS]
            rfl
           refine zbf (i := 23) (N := some 119) (v := undef) (a' := ?_) #[true, true, true, true, true, true, true, true, true, true, true, true, true, true, true, true, true, true, true, true, true, true, true, true, false, false, false, false] rfl rfl (zaZ HT_.out (by kernel_rfl)) (fun _ _ _ h => h) (Or.inr ⟨by rfl, rfl⟩) ?_ ?_
           rotate_left
           ·simp only [Act.put, List.setIfInBounds_toArray, List.set_cons_zero, List.set_cons_succ, zaR, zaS]
            rfl
           refine zbf (i := 24) (N := some 120) (v := undef) (a' := ?_) #[true, true, true, true, true, true, true, true, true, true, true, true, true, true, true, true, true, true, true, true, true, true, true, true, true, false, false, false] rfl rfl (zaZ HT_.out (by kernel_rfl)) (fun _ _ _ h => h) (Or.inr ⟨by rfl, rfl⟩) ?_ ?_
           rotate_left
           ·simp only [Act.put, List.setIfInBounds_toArray, List.set_cons_zero, List.set_cons_succ, zaR, zaS]
            rfl
           refine zbf (i := 25) (N := some 121) (v := undef) (a' := ?_) #[true, true, true, true, true, true, true, true, true, true, true, true, true, true, true, true, true, true, true, true, true, true, true, true, true, true, false, false] rfl rfl (zaZ HT_.out (by kernel_rfl)) (fun _ _ _ h => h) (Or.inr ⟨by rfl, rfl⟩) ?_ ?_
           rotate_left
           ·simp only [Act.put, List.setIfInBounds_toArray, List.set_cons_zero, List.set_cons_succ, zaR, zaS]
            rfl
           refine zbf (i := 26) (N := some 122) (v := ?_) (a' := ?_) #[true, true, true, true, true, true, true, true, true, true, true, true, true, true, true, true, true, true, true, true, true, true, true, true, true, true, true, false] rfl rfl (zaZ HT_.out (by kernel_rfl)) (fun _ _ _ h => h) (Or.inl ⟨by rfl, ?_⟩) ?_ ?_
           rotate_left
           ·intro w'
            go_simp
            with_reducible rfl
           rotate_left
           ·simp only [Act.put, List.setIfInBounds_toArray, List.set_cons_zero, List.set_cons_succ, zaR, zaS]
            rfl
           refine zbf (i := 27) (N := some 4) (v := ?_) (a' := ?_) #[true, true, true, true, true, true, true, true, true, true, true, true, true, true, true, true, true, true, true, true, true, true, true, true, true, true, true, true] rfl rfl (zaZ HT_.out (by kernel_rfl)) (fun _ _ _ h => h) (Or.inl ⟨by rfl, ?_⟩) ?_ ?_
           rotate_left
           ·intro w'
            go_simp
            with_reducible rfl
           rotate_left
           ·simp only [Act.put, List.setIfInBounds_toArray, List.set_cons_zero, List.set_cons_succ, zaR, zaS]
            rfl
           refine done_ (done_of HT_.out (by kernel_rfl)) ?_
           try go_wp2
           go_ret
           exact ⟨by first | rfl | (simp [zar, zas] <;> rfl) | (simp [*, zar, zas] <;> rfl), by repeat (first | (with_reducible first | exact HB.out | apply zad | apply zaa | apply zac | refine zae ?_ zbv.out | refine zae ?_ zbz.out | refine zae ?_ GE649.out) | exact HB.out)⟩
          rw [if_neg c89] at H
          exact absurd H (by simp)
         rw [if_neg c88] at H
         have c88b0 : (t643.toList == ([] : List UInt8)) = false := beq_eq_false_iff_ne.mpr c88
         have c88b1 : (t643.toList != ([] : List UInt8)) = true := bne_iff_ne.mpr c88
         obtain rfl := Option.some.inj H
         have hnb115 := NB637_631.out
         have hnc115 := NB631_637.out
         have hcz116_0 : wc.cell? ⟨zbc, 0, none⟩ = some (.int .i64 zaE) := (zal zaP.out 0).trans rfl
         have hcz116_1 : wc.cell? ⟨zbc, 1, none⟩ = some (.string zaD) := (zal zaP.out 1).trans rfl
         have hcz116_2 : wc.cell? ⟨zbc, 2, none⟩ = some (.int .i64 zaC) := (zal zaP.out 2).trans rfl
         have hfz116_0 := zam zaP.out 0
         have hfz116_1 := zam zaP.out 1
         have hfz116_2 := zam zaP.out 2
         try go_wp2_with (first | ((with_reducible refine zan (f := 11) rfl ?_); refine zaN (some 95) rfl rfl Tryd.func11 (by kernel_rfl) rfl #[.agg #[.int .i64 zaE, .string zaD, .int .i64 zaC]] rfl (by (try simp only [List.map_toArray, List.map_cons, List.map_nil]); first | done | rfl | (simp only [List.length_drop, List.length_take]; rfl)) ?_; (with_reducible refine (impl_EndDecoder.calls kj18 zaE zaD zaC t641 t642 t643 t644 t645 t646 _ ?side1 A86.out).mono ?_); (case side1 => exact GT_below HG.out HB.out); rintro e w117 ⟨v647, rfl, ho0, hb⟩; refine ⟨_, rfl, ?_⟩; have n0_ := zab.mk (Kd.R_elder' zbe.out (Kd.R_base ho0) hb); have n1_ := zab.mk (Kd.R_elder' zax.out (Kd.R_base ho0) hb); have n2_ := zab.mk (Kd.zbm (Kd.R_new' (Kd.R_new' ho0 (Kd.R_lt zbe.out)) (Kd.R_lt zax.out)) (zav HB.out)); have n3_ := zab.mk (zaL (g := zbh) (o := .cells #[.int .i64 t626, .string t627, .slice Ao13 t628.length co13] 27 (0, 0)) zaV.out hb); have n4_ := zab.mk (zaL (g := zbc) (o := .cells #[.int .i64 zaE, .string zaD, .int .i64 zaC] 30 (0, 0)) zaP.out hb); have n5_ := zab.mk (zau HB.out hb); clear zbe zax zaV zaP HB; have zbe := n0_; have zax := n1_; have HO648 := n2_; have zaV := n3_; have zaP := n4_; have HB := n5_; clear n0_ n1_ n2_ n3_ n4_ n5_; (try clear hb); (try clear hb2); (try clear hk); (try clear hi); (try clear ho0)) | ((with_reducible refine zbb (N := 14) rfl ?_); (try (refine gate_guard (by rfl) ?_; dsimp only)); refine zbs ?hg (N := 14) ?hd (cs := #[.int .i64 0, .int .i64 0, .string (⟨#[]⟩ : ByteArray), .int .i64 0, .string (⟨#[]⟩ : ByteArray), .slice none 0 0]) (t := 33) ?hr ?_; (case hd => rfl); (case hg => rfl); (case hr => first | (go_simp; done) | (go_simp; rfl)); intro zaB hg w118 hbox hb; have n0_ := zab.mk (Kd.zbi zbe.out hb); have n1_ := zab.mk (Kd.zbi zax.out hb); have n2_ := zab.mk (Kd.zbi HO648.out hb); have n3_ := zab.mk (zaL (g := zbh) (o := .cells #[.int .i64 t626, .string t627, .slice Ao13 t628.length co13] 27 (0, 0)) zaV.out hb); have n4_ := zab.mk (zaL (g := zbc) (o := .cells #[.int .i64 zaE, .string zaD, .int .i64 zaC] 30 (0, 0)) zaP.out hb); have n5_ := zab.mk (zau HB.out hb); have n6_ := zab.mk (hbox); have n7_ := zab.mk ((by rw [hg]; exact (zav HB.out) : w.heap.size ≤ zaB)); have n8_ := zab.mk ((by rw [hg]; exact (zav HB.out) : w.heap.size ≤ zaB)); have n9_ := zab.mk ((by rw [hg]; exact Nat.ne_of_lt (blk_lt (g := zbh) (o := .cells #[.int .i64 t626, .string t627, .slice Ao13 t628.length co13] 27 (0, 0)) zaV.out) : zbh ≠ zaB)); have n10_ := zab.mk ((by rw [hg]; exact Nat.ne_of_gt (blk_lt (g := zbh) (o := .cells #[.int .i64 t626, .string t627, .slice Ao13 t628.length co13] 27 (0, 0)) zaV.out) : zaB ≠ zbh)); have n11_ := zab.mk ((by rw [hg]; exact Nat.ne_of_lt (blk_lt (g := zbc) (o := .cells #[.int .i64 zaE, .string zaD, .int .i64 zaC] 30 (0, 0)) zaP.out) : zbc ≠ zaB)); have n12_ := zab.mk ((by rw [hg]; exact Nat.ne_of_gt (blk_lt (g := zbc) (o := .cells #[.int .i64 zaE, .string zaD, .int .i64 zaC] 30 (0, 0)) zaP.out) : zaB ≠ zbc)); clear zbe zax HO648 zaV zaP HB; have zbe := n0_; have zax := n1_; have HO648 := n2_; have zaV := n3_; have zaP := n4_; have HB := n5_; have zbn := n6_; have GW649 := n7_; have GE649 := n8_; have zbx := n9_; have NB649_631 := n10_; have zby := n11_; have NB649_637 := n12_; clear n0_ n1_ n2_ n3_ n4_ n5_ n6_ n7_ n8_ n9_ n10_ n11_ n12_ hb hbox hg; have hnb119 := NB649_631.out; have hnc119 := zbx.out; have hnb120 := NB649_637.out; have hnc120 := zby.out; have hcz121_0 : w118.cell? ⟨zaB, 0, none⟩ = some (.int .i64 0) := (zal zbn.out 0).trans rfl; have hcz121_1 : w118.cell? ⟨zaB, 1, none⟩ = some (.int .i64 0) := (zal zbn.out 1).trans rfl; have hcz121_2 : w118.cell? ⟨zaB, 2, none⟩ = some (.string (⟨#[]⟩ : ByteArray)) := (zal zbn.out 2).trans rfl; have hcz121_3 : w118.cell? ⟨zaB, 3, none⟩ = some (.int .i64 0) := (zal zbn.out 3).trans rfl; have hcz121_4 : w118.cell? ⟨zaB, 4, none⟩ = some (.string (⟨#[]⟩ : ByteArray)) := (zal zbn.out 4).trans rfl; have hcz121_5 : w118.cell? ⟨zaB, 5, none⟩ = some (.slice none 0 0) := (zal zbn.out 5).trans rfl; have hfz121_0 := zam zbn.out 0; have hfz121_1 := zam zbn.out 1; have hfz121_2 := zam zbn.out 2; have hfz121_3 := zam zbn.out 3; have hfz121_4 := zam zbn.out 4; have hfz121_5 := zam zbn.out 5; obtain ⟨Ao122, co122, eo122⟩ := Kd.zbr HO648.out; subst eo122))
         have n0_ : zab (Kd.R (Kd.int .i64) 2 ((((((w118.setCell ⟨zaB, 0, none⟩ (.int .i64 t641)).setCell ⟨zaB, 1, none⟩ (.int .i64 t642)).setCell ⟨zaB, 2, none⟩ (.string t643)).setCell ⟨zaB, 3, none⟩ (.int .i64 t644)).setCell ⟨zaB, 4, none⟩ (.string t645)).setCell ⟨zaB, 5, none⟩ (.slice Ao122 t646.length co122)) w.heap.size (fun k_ => some k_ ≠ (.slice Ao13 t628.length co13 : Value).ownBlock ∧ some k_ ≠ (.slice Ao122 t646.length co122 : Value).ownBlock) u10 x10_2) := ⟨by (with_reducible repeat (first | apply Kd.R_alloc | apply Kd.zat | apply Kd.zaw)); exact Kd.za7 (Kd.za0 (p := ⟨zaB, 5, none⟩) (Kd.za0 (p := ⟨zaB, 4, none⟩) (Kd.za0 (p := ⟨zaB, 3, none⟩) (Kd.za0 (p := ⟨zaB, 2, none⟩) (Kd.za0 (p := ⟨zaB, 1, none⟩) (Kd.za0 (p := ⟨zaB, 0, none⟩) (Kd.zbF zbe.out zbn.out (by decide)) (fun _ hk => hk.2) (.int .i64 t641)) (fun _ hk => hk.2) (.int .i64 t642)) (fun _ hk => hk.2) (.string t643)) (fun _ hk => hk.2) (.int .i64 t644)) (fun _ hk => hk.2) (.string t645)) (fun _ hk => hk.2) (.slice Ao122 t646.length co122)) (fun _ hk => ⟨hk.1.1, hk.1.2⟩)⟩
         have n1_ : zab (Kd.R (Kd.int .i64) 2 ((((((w118.setCell ⟨zaB, 0, none⟩ (.int .i64 t641)).setCell ⟨zaB, 1, none⟩ (.int .i64 t642)).setCell ⟨zaB, 2, none⟩ (.string t643)).setCell ⟨zaB, 3, none⟩ (.int .i64 t644)).setCell ⟨zaB, 4, none⟩ (.string t645)).setCell ⟨zaB, 5, none⟩ (.slice Ao122 t646.length co122)) w.heap.size (fun k_ => some k_ ≠ (u10 : Value).ownBlock ∧ some k_ ≠ (.slice Ao122 t646.length co122 : Value).ownBlock) (.slice Ao13 t628.length co13) t628) := ⟨by (with_reducible repeat (first | apply Kd.R_alloc | apply Kd.zat | apply Kd.zaw)); exact Kd.za7 (Kd.za0 (p := ⟨zaB, 5, none⟩) (Kd.za0 (p := ⟨zaB, 4, none⟩) (Kd.za0 (p := ⟨zaB, 3, none⟩) (Kd.za0 (p := ⟨zaB, 2, none⟩) (Kd.za0 (p := ⟨zaB, 1, none⟩) (Kd.za0 (p := ⟨zaB, 0, none⟩) (Kd.zbF zax.out zbn.out (by decide)) (fun _ hk => hk.2) (.int .i64 t641)) (fun _ hk => hk.2) (.int .i64 t642)) (fun _ hk => hk.2) (.string t643)) (fun _ hk => hk.2) (.int .i64 t644)) (fun _ hk => hk.2) (.string t645)) (fun _ hk => hk.2) (.slice Ao122 t646.length co122)) (fun _ hk => ⟨hk.1.1, hk.1.2⟩)⟩
         have n2_ : zab (Kd.R (Kd.int .i64) 2 ((((((w118.setCell ⟨zaB, 0, none⟩ (.int .i64 t641)).setCell ⟨zaB, 1, none⟩ (.int .i64 t642)).setCell ⟨zaB, 2, none⟩ (.string t643)).setCell ⟨zaB, 3, none⟩ (.int .i64 t644)).setCell ⟨zaB, 4, none⟩ (.string t645)).setCell ⟨zaB, 5, none⟩ (.slice Ao122 t646.length co122)) w.heap.size (fun k_ => some k_ ≠ (u10 : Value).ownBlock ∧ some k_ ≠ (.slice Ao13 t628.length co13 : Value).ownBlock) (.slice Ao122 t646.length co122) t646) := ⟨by (with_reducible repeat (first | apply Kd.R_alloc | apply Kd.zat | apply Kd.zaw)); exact Kd.za7 (Kd.za0 (p := ⟨zaB, 5, none⟩) (Kd.za0 (p := ⟨zaB, 4, none⟩) (Kd.za0 (p := ⟨zaB, 3, none⟩) (Kd.za0 (p := ⟨zaB, 2, none⟩) (Kd.za0 (p := ⟨zaB, 1, none⟩) (Kd.za0 (p := ⟨zaB, 0, none⟩) (Kd.zbF HO648.out zbn.out (by decide)) (fun _ hk => hk.2) (.int .i64 t641)) (fun _ hk => hk.2) (.int .i64 t642)) (fun _ hk => hk.2) (.string t643)) (fun _ hk => hk.2) (.int .i64 t644)) (fun _ hk => hk.2) (.string t645)) (fun _ hk => hk.2) (.slice Ao122 t646.length co122)) (fun _ hk => ⟨hk.1.1.2, hk.1.2⟩)⟩
         have n3_ : zab (((((((w118.setCell ⟨zaB, 0, none⟩ (.int .i64 t641)).setCell ⟨zaB, 1, none⟩ (.int .i64 t642)).setCell ⟨zaB, 2, none⟩ (.string t643)).setCell ⟨zaB, 3, none⟩ (.int .i64 t644)).setCell ⟨zaB, 4, none⟩ (.string t645)).setCell ⟨zaB, 5, none⟩ (.slice Ao122 t646.length co122)).heap[zbh]? = some (.cells #[.int .i64 t626, .string t627, .slice Ao13 t628.length co13] 27 (0, 0))) := ⟨by (with_reducible repeat (first | refine zai ?_ _ | refine zak ?_ | refine zah ?_ _)); refine za6 ?_ zbx.out _; (with_reducible repeat (first | refine zai ?_ _ | refine zak ?_ | refine zah ?_ _)); refine za6 ?_ zbx.out _; (with_reducible repeat (first | refine zai ?_ _ | refine zak ?_ | refine zah ?_ _)); refine za6 ?_ zbx.out _; (with_reducible repeat (first | refine zai ?_ _ | refine zak ?_ | refine zah ?_ _)); refine za6 ?_ zbx.out _; (with_reducible repeat (first | refine zai ?_ _ | refine zak ?_ | refine zah ?_ _)); refine za6 ?_ zbx.out _; (with_reducible repeat (first | refine zai ?_ _ | refine zak ?_ | refine zah ?_ _)); refine za6 ?_ zbx.out _; (with_reducible repeat (first | refine zai ?_ _ | refine zak ?_ | refine zah ?_ _)); exact zaV.out⟩
         have n4_ : zab (((((((w118.setCell ⟨zaB, 0, none⟩ (.int .i64 t641)).setCell ⟨zaB, 1, none⟩ (.int .i64 t642)).setCell ⟨zaB, 2, none⟩ (.string t643)).setCell ⟨zaB, 3, none⟩ (.int .i64 t644)).setCell ⟨zaB, 4, none⟩ (.string t645)).setCell ⟨zaB, 5, none⟩ (.slice Ao122 t646.length co122)).heap[zbc]? = some (.cells #[.int .i64 zaE, .string zaD, .int .i64 zaC] 30 (0, 0))) := ⟨by (with_reducible repeat (first | refine zai ?_ _ | refine zak ?_ | refine zah ?_ _)); refine za6 ?_ zby.out _; (with_reducible repeat (first | refine zai ?_ _ | refine zak ?_ | refine zah ?_ _)); refine za6 ?_ zby.out _; (with_reducible repeat (first | refine zai ?_ _ | refine zak ?_ | refine zah ?_ _)); refine za6 ?_ zby.out _; (with_reducible repeat (first | refine zai ?_ _ | refine zak ?_ | refine zah ?_ _)); refine za6 ?_ zby.out _; (with_reducible repeat (first | refine zai ?_ _ | refine zak ?_ | refine zah ?_ _)); refine za6 ?_ zby.out _; (with_reducible repeat (first | refine zai ?_ _ | refine zak ?_ | refine zah ?_ _)); refine za6 ?_ zby.out _; (with_reducible repeat (first | refine zai ?_ _ | refine zak ?_ | refine zah ?_ _)); exact zaP.out⟩
         have n5_ : zab (((((((w118.setCell ⟨zaB, 0, none⟩ (.int .i64 t641)).setCell ⟨zaB, 1, none⟩ (.int .i64 t642)).setCell ⟨zaB, 2, none⟩ (.string t643)).setCell ⟨zaB, 3, none⟩ (.int .i64 t644)).setCell ⟨zaB, 4, none⟩ (.string t645)).setCell ⟨zaB, 5, none⟩ (.slice Ao122 t646.length co122)).heap[zaB]? = some (.cells #[.int .i64 t641, .int .i64 t642, .string t643, .int .i64 t644, .string t645, .slice Ao122 t646.length co122] 33 (0, 0))) := ⟨by (with_reducible repeat (first | refine zai ?_ _ | refine zak ?_ | refine zah ?_ _)); refine zaG (cs := #[.int .i64 t641, .int .i64 t642, .string t643, .int .i64 t644, .string t645, .slice none 0 0]) ?_ 5 _ rfl; (with_reducible repeat (first | refine zai ?_ _ | refine zak ?_ | refine zah ?_ _)); refine zaG (cs := #[.int .i64 t641, .int .i64 t642, .string t643, .int .i64 t644, .string (⟨#[]⟩ : ByteArray), .slice none 0 0]) ?_ 4 _ rfl; (with_reducible repeat (first | refine zai ?_ _ | refine zak ?_ | refine zah ?_ _)); refine zaG (cs := #[.int .i64 t641, .int .i64 t642, .string t643, .int .i64 0, .string (⟨#[]⟩ : ByteArray), .slice none 0 0]) ?_ 3 _ rfl; (with_reducible repeat (first | refine zai ?_ _ | refine zak ?_ | refine zah ?_ _)); refine zaG (cs := #[.int .i64 t641, .int .i64 t642, .string (⟨#[]⟩ : ByteArray), .int .i64 0, .string (⟨#[]⟩ : ByteArray), .slice none 0 0]) ?_ 2 _ rfl; (with_reducible repeat (first | refine zai ?_ _ | refine zak ?_ | refine zah ?_ _)); refine zaG (cs := #[.int .i64 t641, .int .i64 0, .string (⟨#[]⟩ : ByteArray), .int .i64 0, .string (⟨#[]⟩ : ByteArray), .slice none 0 0]) ?_ 1 _ rfl; (with_reducible repeat (first | refine zai ?_ _ | refine zak ?_ | refine zah ?_ _)); refine zaG (cs := #[.int .i64 0, .int .i64 0, .string (⟨#[]⟩ : ByteArray), .int .i64 0, .string (⟨#[]⟩ : ByteArray), .slice none 0 0]) ?_ 0 _ rfl; (with_reducible repeat (first | refine zai ?_ _ | refine zak ?_ | refine zah ?_ _)); exact zbn.out⟩
         have n6_ : zab (Below w.heap.size w ((((((w118.setCell ⟨zaB, 0, none⟩ (.int .i64 t641)).setCell ⟨zaB, 1, none⟩ (.int .i64 t642)).setCell ⟨zaB, 2, none⟩ (.string t643)).setCell ⟨zaB, 3, none⟩ (.int .i64 t644)).setCell ⟨zaB, 4, none⟩ (.string t645)).setCell ⟨zaB, 5, none⟩ (.slice Ao122 t646.length co122))) := ⟨by repeat (first | (with_reducible first | exact HB.out | apply zad | apply zaa | apply zac | refine zae ?_ zbv.out | refine zae ?_ zbz.out | refine zae ?_ GE649.out) | exact HB.out)⟩
         (try clear zbe)
         (try clear zax)
         (try clear HO648)
         (try clear zaV)
         (try clear zaP)
         (try clear zbn)
         (try clear HB)
         generalize ((((((w118.setCell ⟨zaB, 0, none⟩ (.int .i64 t641)).setCell ⟨zaB, 1, none⟩ (.int .i64 t642)).setCell ⟨zaB, 2, none⟩ (.string t643)).setCell ⟨zaB, 3, none⟩ (.int .i64 t644)).setCell ⟨zaB, 4, none⟩ (.string t645)).setCell ⟨zaB, 5, none⟩ (.slice Ao122 t646.length co122)) = w123 at n0_ n1_ n2_ n3_ n4_ n5_ n6_ ⊢
         have zbe := n0_
         have zax := n1_
         have HO648 := n2_
         have zaV := n3_
         have zaP := n4_
         have zbn := n5_
         have HB := n6_
         clear n0_ n1_ n2_ n3_ n4_ n5_ n6_
         have n0_ := zab.mk (Kd.zaw zbe.out)
         have n1_ := zab.mk (Kd.zaw zax.out)
         have n2_ := zab.mk (Kd.zaw HO648.out)
         have n3_ := zab.mk (zak zaV.out)
         have n4_ := zab.mk (zak zaP.out)
         have n5_ := zab.mk (zak zbn.out)
         have n6_ := zab.mk (zac HB.out)
         clear zbe zax HO648 zaV zaP zbn HB
         have zbe := n0_
         have zax := n1_
         have HO648 := n2_
         have zaV := n3_
         have zaP := n4_
         have zbn := n5_
         have HB := n6_
         clear n0_ n1_ n2_ n3_ n4_ n5_ n6_
         refine start_ (n := 28) (S := fun w' => w'.cell? ⟨zaB, 0, none⟩ = some (.int .i64 t641) ∧ w'.cell? ⟨zaB, 1, none⟩ = some (.int .i64 t642) ∧ w'.cell? ⟨zaB, 2, none⟩ = some (.string t643) ∧ w'.cell? ⟨zaB, 3, none⟩ = some (.int .i64 t644) ∧ w'.cell? ⟨zaB, 4, none⟩ = some (.string t645) ∧ w'.cell? ⟨zaB, 5, none⟩ = some (.slice Ao122 t646.length co122)) (ds := []) #[false, false, false, false, false, false, false, false, false, false, false, false, false, false, false, false, false, false, false, false, false, false, false, false, false, false, false, false] (by kernel_rfl) rfl rfl ⟨(zal zbn.out 0).trans rfl, (zal zbn.out 1).trans rfl, (zal zbn.out 2).trans rfl, (zal zbn.out 3).trans rfl, (zal zbn.out 4).trans rfl, (zal zbn.out 5).trans rfl⟩ (fun hHeld => ?_); refine with_tabW zay.tab24 zay.bits24 (fun HT_ HW_ => ?_)
         generalize w123.drew = w124 at zbe zax HO648 zaV zaP zbn HB hHeld ⊢
         refine zbf (i := 0) (N := some 96) (v := ?_) (a' := ?_) #[true, false, false, false, false, false, false, false, false, false, false, false, false, false, false, false, false, false, false, false, false, false, false, false, false, false, false, false] rfl rfl (zaZ HT_.out (by kernel_rfl)) (fun _ _ _ h => h) (Or.inl ⟨by rfl, ?_⟩) ?_ ?_
         rotate_left
         ·intro w'
          go_simp
          with_reducible rfl
         rotate_left
         ·simp only [Act.put, List.setIfInBounds_toArray, List.set_cons_zero, List.set_cons_succ, zaR, zaS]
          rfl
         refine take_ (i := 1) (N := some 97) (v := ?_) (a' := ?_) #[true, true, false, false, false, false, false, false, false, false, false, false, false, false, false, false, false, false, false, false, false, false, false, false, false, false, false, false] rfl rfl (take_ofW HT_.out HW_.out (by kernel_rfl)) (fun _ _ _ h => h) (Or.inl ⟨by rfl, ?_⟩) hHeld ?_ ?_
         rotate_left
         ·rintro w' ⟨s0, s1, s2, s3, s4, s5⟩
          go_simp
          with_reducible rfl
         rotate_left
         ·simp only [Act.put, List.setIfInBounds_toArray, List.set_cons_zero, List.set_cons_succ, zaR, zaS]
          rfl
         refine zbf (i := 2) (N := some 98) (v := ?_) (a' := ?_) #[true, true, true, false, false, false, false, false, false, false, false, false, false, false, false, false, false, false, false, false, false, false, false, false, false, false, false, false] rfl rfl (zaZ HT_.out (by kernel_rfl)) (fun _ _ _ h => h) (Or.inl ⟨by rfl, ?_⟩) ?_ ?_
         rotate_left
         ·intro w'
          go_simp
          with_reducible rfl
         rotate_left
         ·simp only [Act.put, List.setIfInBounds_toArray, List.set_cons_zero, List.set_cons_succ, zaR, zaS]
          rfl
         refine zbf (i := 3) (N := some 99) (v := ?_) (a' := ?_) #[true, true, true, true, false, false, false, false, false, false, false, false, false, false, false, false, false, false, false, false, false, false, false, false, false, false, false, false] rfl rfl (zaZ HT_.out (by kernel_rfl)) (fun _ _ _ h => h) (Or.inl ⟨by rfl, ?_⟩) ?_ ?_
         rotate_left
         ·intro w'
          go_simp
          with_reducible rfl
         rotate_left
         ·simp only [Act.put, List.setIfInBounds_toArray, List.set_cons_zero, List.set_cons_succ, zaR, zaS]
          rfl
         refine zbf (i := 4) (N := some 100) (v := ?_) (a' := ?_) #[true, true, true, true, true, false, false, false, false, false, false, false, false, false, false, false, false, false, false, false, false, false, false, false, false, false, false, false] rfl rfl (zaZ HT_.out (by kernel_rfl)) (fun _ _ _ h => h) (Or.inl ⟨by rfl, ?_⟩) ?_ ?_
         rotate_left
         ·intro w'
          go_simp
          with_reducible rfl
         rotate_left
         ·simp only [Act.put, List.setIfInBounds_toArray, List.set_cons_zero, List.set_cons_succ, zaR, zaS]
          rfl
         refine zbf (i := 5) (N := some 101) (v := ?_) (a' := ?_) #[true, true, true, true, true, true, false, false, false, false, false, false, false, false, false, false, false, false, false, false, false, false, false, false, false, false, false, false] rfl rfl (zaZ HT_.out (by kernel_rfl)) (fun _ _ _ h => h) (Or.inl ⟨by rfl, ?_⟩) ?_ ?_
         rotate_left
         ·intro w'
          go_simp
          with_reducible rfl
         rotate_left
         ·simp only [Act.put, List.setIfInBounds_toArray, List.set_cons_zero, List.set_cons_succ, zaR, zaS]
          rfl
         refine take_ (i := 6) (N := some 102) (v := ?_) (a' := ?_) #[true, true, true, true, true, true, true, false, false, false, false, false, false, false, false, false, false, false, false, false, false, false, false, false, false, false, false, false] rfl rfl (take_ofW HT_.out HW_.out (by kernel_rfl)) (fun _ _ _ h => h) (Or.inl ⟨by rfl, ?_⟩) hHeld ?_ ?_
         rotate_left
         ·rintro w' ⟨s0, s1, s2, s3, s4, s5⟩
          go_simp
          with_reducible rfl
         rotate_left
         ·simp only [Act.put, List.setIfInBounds_toArray, List.set_cons_zero, List.set_cons_succ, zaR, zaS]
          rfl
         refine zbf (i := 7) (N := some 103) (v := ?_) (a' := ?_) #[true, true, true, true, true, true, true, true, false, false, false, false, false, false, false, false, false, false, false, false, false, false, false, false, false, false, false, false] rfl rfl (zaZ HT_.out (by kernel_rfl)) (fun _ _ _ h => h) (Or.inl ⟨by rfl, ?_⟩) ?_ ?_
         rotate_left
         ·intro w'
          go_simp
          with_reducible rfl
         rotate_left
         ·simp only [Act.put, List.setIfInBounds_toArray, List.set_cons_zero, List.set_cons_succ, zaR, zaS]
          rfl
         refine zbf (i := 8) (N := some 104) (v := ?_) (a' := ?_) #[true, true, true, true, true, true, true, true, true, false, false, false, false, false, false, false, false, false, false, false, false, false, false, false, false, false, false, false] rfl rfl (zaZ HT_.out (by kernel_rfl)) (fun _ _ _ h => h) (Or.inl ⟨by rfl, ?_⟩) ?_ ?_
         rotate_left
         ·intro w'
          go_simp
          with_reducible rfl
         rotate_left
         ·simp only [Act.put, List.setIfInBounds_toArray, List.set_cons_zero, List.set_cons_succ, zaR, zaS]
          rfl
         refine zbf (i := 9) (N := some 105) (v := ?_) (a' := ?_) #[true, true, true, true, true, true, true, true, true, true, false, false, false, false, false, false, false, false, false, false, false, false, false, false, false, false, false, false] rfl rfl (zaZ HT_.out (by kernel_rfl)) (fun _ _ _ h => h) (Or.inl ⟨by rfl, ?_⟩) ?_ ?_
         rotate_left
         ·intro w'
          go_simp
          with_reducible rfl
         rotate_left
         ·simp only [Act.put, List.setIfInBounds_toArray, List.set_cons_zero, List.set_cons_succ, zaR, zaS]
          rfl
         refine zbf (i := 10) (N := some 106) (v := undef) (a' := ?_) #[true, true, true, true, true, true, true, true, true, true, true, false, false, false, false, false, false, false, false, false, false, false, false, false, false, false, false, false] rfl rfl (zaZ HT_.out (by kernel_rfl)) (fun _ _ _ h => h) (Or.inr ⟨by rfl, rfl⟩) ?_ ?_
         rotate_left
         ·simp only [Act.put, List.setIfInBounds_toArray, List.set_cons_zero, List.set_cons_succ, zaR, zaS]
          rfl
         refine zbf (i := 11) (N := some 107) (v := undef) (a' := ?_) #[true, true, true, true, true, true, true, true, true, true, true, true, false, false, false, false, false, false, false, false, false, false, false, false, false, false, false, false] rfl rfl (zaZ HT_.out (by kernel_rfl)) (fun _ _ _ h => h) (Or.inr ⟨by rfl, rfl⟩) ?_ ?_
         rotate_left
         ·simp only [Act.put, List.setIfInBounds_toArray, List.set_cons_zero, List.set_cons_succ, zaR, zaS]
          rfl
         refine zbf (i := 12) (N := some 108) (v := undef) (a' := ?_) #[true, true, true, true, true, true, true, true, true, true, true, true, true, false, false, false, false, false, false, false, false, false, false, false, false, false, false, false] rfl rfl (zaZ HT_.out (by kernel_rfl)) (fun _ _ _ h => h) (Or.inr ⟨by rfl, rfl⟩) ?_ ?_
         rotate_left
         ·simp only [Act.put, List.setIfInBounds_toArray, List.set_cons_zero, List.set_cons_succ, zaR, zaS]
          rfl
         refine zbf (i := 13) (N := some 109) (v := undef) (a' := ?_) #[true, true, true, true, true, true, true, true, true, true, true, true, true, true, false, false, false, false, false, false, false, false, false, false, false, false, false, false] rfl rfl (zaZ HT_.out (by kernel_rfl)) (fun _ _ _ h => h) (Or.inr ⟨by rfl, rfl⟩) ?_ ?_
         rotate_left
         ·simp only [Act.put, List.setIfInBounds_toArray, List.set_cons_zero, List.set_cons_succ, zaR, zaS]
          rfl
         refine zbf (i := 14) (N := some 110) (v := undef) (a' := ?_) #[true, true, true, true, true, true, true, true, true, true, true, true, true, true, true, false, false, false, false, false, false, false, false, false, false, false, false, false] rfl rfl (zaZ HT_.out (by kernel_rfl)) (fun _ _ _ h => h) (Or.inr ⟨by rfl, rfl⟩) ?_ ?_
         rotate_left
         ·simp only [Act.put, List.setIfInBounds_toArray, List.set_cons_zero, List.set_cons_succ, zaR, zaS]
          rfl
         refine zbf (i := 15) (N := some 111) (v := undef) (a' := ?_) #[true, true, true, true, true, true, true, true, true, true, true, true, true, true, true, true, false, false, false, false, false, false, false, false, false, false, false, false] rfl rfl (zaZ HT_.out (by kernel_rfl)) (fun _ _ _ h => h) (Or.inr ⟨by rfl, rfl⟩) ?_ ?_
         rotate_left
         ·simp only [Act.put, List.setIfInBounds_toArray, List.set_cons_zero, List.set_cons_succ, zaR, zaS]
          rfl
         refine zbf (i := 16) (N := some 112) (v := undef) (a' := ?_) #[true, true, true, true, true, true, true, true, true, true, true, true, true, true, true, true, true, false, false, false, false, false, false, false, false, false, false, false] rfl rfl (zaZ HT_.out (by kernel_rfl)) (fun _ _ _ h => h) (Or.inr ⟨by rfl, rfl⟩) ?_ ?_
         rotate_left
         ·simp only [Act.put, List.setIfInBounds_toArray, List.set_cons_zero, List.set_cons_succ, zaR, zaS]
          rfl
         refine zbf (i := 17) (N := some 113) (v := ?_) (a' := ?_) #[true, true, true, true, true, true, true, true, true, true, true, true, true, true, true, true, true, true, false, false, false, false, false, false, false, false, false, false] rfl rfl (zaZ HT_.out (by kernel_rfl)) (fun _ _ _ h => h) (Or.inl ⟨by rfl, ?_⟩) ?_ ?_
         rotate_left
         ·intro w'
          go_simp
          with_reducible rfl
         rotate_left
         ·simp only [Act.put, List.setIfInBounds_toArray, List.set_cons_zero, List.set_cons_succ, zaR, zaS]
          rfl
         refine zbf (i := 18) (N := some 114) (v := ?_) (a' := ?_) #[true, true, true, true, true, true, true, true, true, true, true, true, true, true, true, true, true, true, true, false, false, false, false, false, false, false, false, false] rfl rfl (zaZ HT_.out (by kernel_rfl)) (fun _ _ _ h => h) (Or.inl ⟨by rfl, ?_⟩) ?_ ?_
         rotate_left
         ·intro w'
          go_simp
          with_reducible rfl
         rotate_left
         ·simp only [Act.put, List.setIfInBounds_toArray, List.set_cons_zero, List.set_cons_succ, zaR, zaS]
          rfl
         refine zbf (i := 19) (N := some 115) (v := undef) (a' := ?_) #[true, true, true, true, true, true, true, true, true, true, true, true, true, true, true, true, true, true, true, true, false, false, false, false, false, false, false, false] rfl rfl (zaZ HT_.out (by kernel_rfl)) (fun _ _ _ h => h) (Or.inr ⟨by rfl, rfl⟩) ?_ ?_
         rotate_left
         ·simp only [Act.put, List.setIfInBounds_toArray, List.set_cons_zero, List.set_cons_succ, zaR, zaS]
          rfl
         refine zbf (i := 20) (N := some 116) (v := undef) (a' := ?_) #[true, true, true, true, true, true, true, true, true, true, true, true, true, true, true, true, true, true, true, true, true, false, false, false, false, false, false, false] rfl rfl (zaZ HT_.out (by kernel_rfl)) (fun _ _ _ h => h) (Or.inr ⟨by rfl, rfl⟩) ?_ ?_
         rotate_left
         ·simp only [Act.put, List.setIfInBounds_toArray, List.set_cons_zero, List.set_cons_succ, zaR, zaS]
          rfl
         refine zbf (i := 21) (N := some 117) (v := undef) (a' := ?_) #[true, true, true, true, true, true, true, true, true, true, true, true, true, true, true, true, true, true, true, true, true, true, false, false, false, false, false, false] rfl rfl (zaZ HT_.out (by kernel_rfl)) (fun _ _ _ h => h) (Or.inr ⟨by rfl, rfl⟩) ?_ ?_
         rotate_left
         ·simp only [Act.put, List.setIfInBounds_toArray, List.set_cons_zero, List.set_cons_succ, zaR, zaS]
          rfl
         refine zbf (i := 22) (N := some 118) (v := undef) (a' := ?_) #[true, true, true, true, true, true, true, true, true, true, true, true, true, true, true, true, true, true, true, true, true, true, true, false, false, false, false, false] rfl rfl (zaZ HT_.out (by kernel_rfl)) (fun _ _ _ h => h) (Or.inr ⟨by rfl, rfl⟩) ?_ ?_
         rotate_left
         ·simp only [Act.put, List.setIfInBounds_toArray, List.set_cons_zero, List.set_cons_succ, zaR, zaS]
          rfl
         refine zbf (i := 23) (N := some 119) (v := undef) (a' := ?_) #[true, true, true, true, true, true, true, true, true, true, true, true, true, true, true, true, true, true, true, true, true, true, true, true, false, false, false, false] rfl rfl (zaZ HT_.out (by kernel_rfl)) (fun _ _ _ h => h) (Or.inr ⟨by rfl, rfl⟩) ?_ ?_
         rotate_left
         ·simp only [Act.put, List.setIfInBounds_toArray, List.set_cons_zero, List.set_cons_succ, zaR, zaS]
          rfl
         refine zbf (i := 24) (N := some 120) (v := undef) (a' := ?_) #[true, true, true, true, true, true, true, true, true, true, true, true, true, true, true, true, true, true, true, true, true, true, true, true, true, false, false, false] rfl rfl (zaZ HT_.out (by kernel_rfl)) (fun _ _ _ h => h) (Or.inr ⟨by rfl, rfl⟩) ?_ ?_
         rotate_left
         ·simp only [Act.put, List.setIfInBounds_toArray, List.set_cons_zero, List.set_cons_succ, zaR, zaS]
          rfl
         refine zbf (i := 25) (N := some 121) (v := undef) (a' := ?_) #[true, true, true, true, true, true, true, true, true, true, true, true, true, true, true, true, true, true, true, true, true, true, true, true, true, true, false, false] rfl rfl (zaZ HT_.out (by kernel_rfl)) (fun _ _ _ h => h) (Or.inr ⟨by rfl, rfl⟩) ?_ ?_
         rotate_left
         ·simp only [Act.put, List.setIfInBounds_toArray, List.set_cons_zero, List.set_cons_succ, zaR, zaS]
          rfl
         refine zbf (i := 26) (N := some 122) (v := ?_) (a' := ?_) #[true, true, true, true, true, true, true, true, true, true, true, true, true, true, true, true, true, true, true, true, true, true, true, true, true, true, true, false] rfl rfl (zaZ HT_.out (by kernel_rfl)) (fun _ _ _ h => h) (Or.inl ⟨by rfl, ?_⟩) ?_ ?_
         rotate_left
         ·intro w'
          go_simp
          with_reducible rfl
         rotate_left
         ·simp only [Act.put, List.setIfInBounds_toArray, List.set_cons_zero, List.set_cons_succ, zaR, zaS]
          rfl
         refine zbf (i := 27) (N := some 4) (v := ?_) (a' := ?_) #[true, true, true, true, true, true, true, true, true, true, true, true, true, true, true, true, true, true, true, true, true, true, true, true, true, true, true, true] rfl rfl (zaZ HT_.out (by kernel_rfl)) (fun _ _ _ h => h) (Or.inl ⟨by rfl, ?_⟩) ?_ ?_
         rotate_left
         ·intro w'
          go_simp
          with_reducible rfl
         rotate_left
         ·simp only [Act.put, List.setIfInBounds_toArray, List.set_cons_zero, List.set_cons_succ, zaR, zaS]
          rfl
         refine done_ (done_of HT_.out (by kernel_rfl)) ?_
         try go_wp2
         go_ret
         exact ⟨by first | rfl | (simp [zar, zas] <;> rfl) | (simp [*, zar, zas] <;> rfl), by repeat (first | (with_reducible first | exact HB.out | apply zad | apply zaa | apply zac | refine zae ?_ zbv.out | refine zae ?_ zbz.out | refine zae ?_ GE649.out) | exact HB.out)⟩
        rw [if_neg c87] at H
        have c87b0 : (t641 == 0) = false := beq_eq_false_iff_ne.mpr c87
        have c87b1 : (t641 != 0) = true := bne_iff_ne.mpr c87
        obtain rfl := Option.some.inj H
        have hnb125 := NB637_631.out
        have hnc125 := NB631_637.out
        have hcz126_0 : wc.cell? ⟨zbc, 0, none⟩ = some (.int .i64 zaE) := (zal zaP.out 0).trans rfl
        have hcz126_1 : wc.cell? ⟨zbc, 1, none⟩ = some (.string zaD) := (zal zaP.out 1).trans rfl
        have hcz126_2 : wc.cell? ⟨zbc, 2, none⟩ = some (.int .i64 zaC) := (zal zaP.out 2).trans rfl
        have hfz126_0 := zam zaP.out 0
        have hfz126_1 := zam zaP.out 1
        have hfz126_2 := zam zaP.out 2
        try go_wp2_with (first | ((with_reducible refine zan (f := 11) rfl ?_); refine zaN (some 95) rfl rfl Tryd.func11 (by kernel_rfl) rfl #[.agg #[.int .i64 zaE, .string zaD, .int .i64 zaC]] rfl (by (try simp only [List.map_toArray, List.map_cons, List.map_nil]); first | done | rfl | (simp only [List.length_drop, List.length_take]; rfl)) ?_; (with_reducible refine (impl_EndDecoder.calls kj18 zaE zaD zaC t641 t642 t643 t644 t645 t646 _ ?side1 A86.out).mono ?_); (case side1 => exact GT_below HG.out HB.out); rintro e w127 ⟨v647, rfl, ho0, hb⟩; refine ⟨_, rfl, ?_⟩; have n0_ := zab.mk (Kd.R_elder' zbe.out (Kd.R_base ho0) hb); have n1_ := zab.mk (Kd.R_elder' zax.out (Kd.R_base ho0) hb); have n2_ := zab.mk (Kd.zbm (Kd.R_new' (Kd.R_new' ho0 (Kd.R_lt zbe.out)) (Kd.R_lt zax.out)) (zav HB.out)); have n3_ := zab.mk (zaL (g := zbh) (o := .cells #[.int .i64 t626, .string t627, .slice Ao13 t628.length co13] 27 (0, 0)) zaV.out hb); have n4_ := zab.mk (zaL (g := zbc) (o := .cells #[.int .i64 zaE, .string zaD, .int .i64 zaC] 30 (0, 0)) zaP.out hb); have n5_ := zab.mk (zau HB.out hb); clear zbe zax zaV zaP HB; have zbe := n0_; have zax := n1_; have HO648 := n2_; have zaV := n3_; have zaP := n4_; have HB := n5_; clear n0_ n1_ n2_ n3_ n4_ n5_; (try clear hb); (try clear hb2); (try clear hk); (try clear hi); (try clear ho0)) | ((with_reducible refine zbb (N := 14) rfl ?_); (try (refine gate_guard (by rfl) ?_; dsimp only)); refine zbs ?hg (N := 14) ?hd (cs := #[.int .i64 0, .int .i64 0, .string (⟨#[]⟩ : ByteArray), .int .i64 0, .string (⟨#[]⟩ : ByteArray), .slice none 0 0]) (t := 33) ?hr ?_; (case hd => rfl); (case hg => rfl); (case hr => first | (go_simp; done) | (go_simp; rfl)); intro zaB hg w128 hbox hb; have n0_ := zab.mk (Kd.zbi zbe.out hb); have n1_ := zab.mk (Kd.zbi zax.out hb); have n2_ := zab.mk (Kd.zbi HO648.out hb); have n3_ := zab.mk (zaL (g := zbh) (o := .cells #[.int .i64 t626, .string t627, .slice Ao13 t628.length co13] 27 (0, 0)) zaV.out hb); have n4_ := zab.mk (zaL (g := zbc) (o := .cells #[.int .i64 zaE, .string zaD, .int .i64 zaC] 30 (0, 0)) zaP.out hb); have n5_ := zab.mk (zau HB.out hb); have n6_ := zab.mk (hbox); have n7_ := zab.mk ((by rw [hg]; exact (zav HB.out) : w.heap.size ≤ zaB)); have n8_ := zab.mk ((by rw [hg]; exact (zav HB.out) : w.heap.size ≤ zaB)); have n9_ := zab.mk ((by rw [hg]; exact Nat.ne_of_lt (blk_lt (g := zbh) (o := .cells #[.int .i64 t626, .string t627, .slice Ao13 t628.length co13] 27 (0, 0)) zaV.out) : zbh ≠ zaB)); have n10_ := zab.mk ((by rw [hg]; exact Nat.ne_of_gt (blk_lt (g := zbh) (o := .cells #[.int .i64 t626, .string t627, .slice Ao13 t628.length co13] 27 (0, 0)) zaV.out) : zaB ≠ zbh)); have n11_ := zab.mk ((by rw [hg]; exact Nat.ne_of_lt (blk_lt (g := zbc) (o := .cells #[.int .i64 zaE, .string zaD, .int .i64 zaC] 30 (0, 0)) zaP.out) : zbc ≠ zaB)); have n12_ := zab.mk ((by rw [hg]; exact Nat.ne_of_gt (blk_lt (g := zbc) (o := .cells #[.int .i64 zaE, .string zaD, .int .i64 zaC] 30 (0, 0)) zaP.out) : zaB ≠ zbc)); clear zbe zax HO648 zaV zaP HB; have zbe := n0_; have zax := n1_; have HO648 := n2_; have zaV := n3_; have zaP := n4_; have HB := n5_; have zbn := n6_; have GW649 := n7_; have GE649 := n8_; have zbx := n9_; have NB649_631 := n10_; have zby := n11_; have NB649_637 := n12_; clear n0_ n1_ n2_ n3_ n4_ n5_ n6_ n7_ n8_ n9_ n10_ n11_ n12_ hb hbox hg; have hnb129 := NB649_631.out; have hnc129 := zbx.out; have hnb130 := NB649_637.out; have hnc130 := zby.out; have hcz131_0 : w128.cell? ⟨zaB, 0, none⟩ = some (.int .i64 0) := (zal zbn.out 0).trans rfl; have hcz131_1 : w128.cell? ⟨zaB, 1, none⟩ = some (.int .i64 0) := (zal zbn.out 1).trans rfl; have hcz131_2 : w128.cell? ⟨zaB, 2, none⟩ = some (.string (⟨#[]⟩ : ByteArray)) := (zal zbn.out 2).trans rfl; have hcz131_3 : w128.cell? ⟨zaB, 3, none⟩ = some (.int .i64 0) := (zal zbn.out 3).trans rfl; have hcz131_4 : w128.cell? ⟨zaB, 4, none⟩ = some (.string (⟨#[]⟩ : ByteArray)) := (zal zbn.out 4).trans rfl; have hcz131_5 : w128.cell? ⟨zaB, 5, none⟩ = some (.slice none 0 0) := (zal zbn.out 5).trans rfl; have hfz131_0 := zam zbn.out 0; have hfz131_1 := zam zbn.out 1; have hfz131_2 := zam zbn.out 2; have hfz131_3 := zam zbn.out 3; have hfz131_4 := zam zbn.out 4; have hfz131_5 := zam zbn.out 5; obtain ⟨Ao132, co132, eo132⟩ := Kd.zbr HO648.out; subst eo132))
        have n0_ : zab (Kd.R (Kd.int .i64) 2 ((((((w128.setCell ⟨zaB, 0, none⟩ (.int .i64 t641)).setCell ⟨zaB, 1, none⟩ (.int .i64 t642)).setCell ⟨zaB, 2, none⟩ (.string t643)).setCell ⟨zaB, 3, none⟩ (.int .i64 t644)).setCell ⟨zaB, 4, none⟩ (.string t645)).setCell ⟨zaB, 5, none⟩ (.slice Ao132 t646.length co132)) w.heap.size (fun k_ => some k_ ≠ (.slice Ao13 t628.length co13 : Value).ownBlock ∧ some k_ ≠ (.slice Ao132 t646.length co132 : Value).ownBlock) u10 x10_2) := ⟨by (with_reducible repeat (first | apply Kd.R_alloc | apply Kd.zat | apply Kd.zaw)); exact Kd.za7 (Kd.za0 (p := ⟨zaB, 5, none⟩) (Kd.za0 (p := ⟨zaB, 4, none⟩) (Kd.za0 (p := ⟨zaB, 3, none⟩) (Kd.za0 (p := ⟨zaB, 2, none⟩) (Kd.za0 (p := ⟨zaB, 1, none⟩) (Kd.za0 (p := ⟨zaB, 0, none⟩) (Kd.zbF zbe.out zbn.out (by decide)) (fun _ hk => hk.2) (.int .i64 t641)) (fun _ hk => hk.2) (.int .i64 t642)) (fun _ hk => hk.2) (.string t643)) (fun _ hk => hk.2) (.int .i64 t644)) (fun _ hk => hk.2) (.string t645)) (fun _ hk => hk.2) (.slice Ao132 t646.length co132)) (fun _ hk => ⟨hk.1.1, hk.1.2⟩)⟩
        have n1_ : zab (Kd.R (Kd.int .i64) 2 ((((((w128.setCell ⟨zaB, 0, none⟩ (.int .i64 t641)).setCell ⟨zaB, 1, none⟩ (.int .i64 t642)).setCell ⟨zaB, 2, none⟩ (.string t643)).setCell ⟨zaB, 3, none⟩ (.int .i64 t644)).setCell ⟨zaB, 4, none⟩ (.string t645)).setCell ⟨zaB, 5, none⟩ (.slice Ao132 t646.length co132)) w.heap.size (fun k_ => some k_ ≠ (u10 : Value).ownBlock ∧ some k_ ≠ (.slice Ao132 t646.length co132 : Value).ownBlock) (.slice Ao13 t628.length co13) t628) := ⟨by (with_reducible repeat (first | apply Kd.R_alloc | apply Kd.zat | apply Kd.zaw)); exact Kd.za7 (Kd.za0 (p := ⟨zaB, 5, none⟩) (Kd.za0 (p := ⟨zaB, 4, none⟩) (Kd.za0 (p := ⟨zaB, 3, none⟩) (Kd.za0 (p := ⟨zaB, 2, none⟩) (Kd.za0 (p := ⟨zaB, 1, none⟩) (Kd.za0 (p := ⟨zaB, 0, none⟩) (Kd.zbF zax.out zbn.out (by decide)) (fun _ hk => hk.2) (.int .i64 t641)) (fun _ hk => hk.2) (.int .i64 t642)) (fun _ hk => hk.2) (.string t643)) (fun _ hk => hk.2) (.int .i64 t644)) (fun _ hk => hk.2) (.string t645)) (fun _ hk => hk.2) (.slice Ao132 t646.length co132)) (fun _ hk => ⟨hk.1.1, hk.1.2⟩)⟩
        have n2_ : zab (Kd.R (Kd.int .i64) 2 ((((((w128.setCell ⟨zaB, 0, none⟩ (.int .i64 t641)).setCell ⟨zaB, 1, none⟩ (.int .i64 t642)).setCell ⟨zaB, 2, none⟩ (.string t643)).setCell ⟨zaB, 3, none⟩ (.int .i64 t644)).setCell ⟨zaB, 4, none⟩ (.string t645)).setCell ⟨zaB, 5, none⟩ (.slice Ao132 t646.length co132)) w.heap.size (fun k_ => some k_ ≠ (u10 : Value).ownBlock ∧ some k_ ≠ (.slice Ao13 t628.length co13 : Value).ownBlock) (.slice Ao132 t646.length co132) t646) := ⟨by (with_reducible repeat (first | apply Kd.R_alloc | apply Kd.zat | apply Kd.zaw)); exact Kd.za7 (Kd.za0 (p := ⟨zaB, 5, none⟩) (Kd.za0 (p := ⟨zaB, 4, none⟩) (Kd.za0 (p := ⟨zaB, 3, none⟩) (Kd.za0 (p := ⟨zaB, 2, none⟩) (Kd.za0 (p := ⟨zaB, 1, none⟩) (Kd.za0 (p := ⟨zaB, 0, none⟩) (Kd.zbF HO648.out zbn.out (by decide)) (fun _ hk => hk.2) (.int .i64 t641)) (fun _ hk => hk.2) (.int .i64 t642)) (fun _ hk => hk.2) (.string t643)) (fun _ hk => hk.2) (.int .i64 t644)) (fun _ hk => hk.2) (.string t645)) (fun _ hk => hk.2) (.slice Ao132 t646.length co132)) (fun _ hk => ⟨hk.1.1.2, hk.1.2⟩)⟩
        have n3_ : zab (((((((w128.setCell ⟨zaB, 0, none⟩ (.int .i64 t641)).setCell ⟨zaB, 1, none⟩ (.int .i64 t642)).setCell ⟨zaB, 2, none⟩ (.string t643)).setCell ⟨zaB, 3, none⟩ (.int .i64 t644)).setCell ⟨zaB, 4, none⟩ (.string t645)).setCell ⟨zaB, 5, none⟩ (.slice Ao132 t646.length co132)).heap[zbh]? = some (.cells #[.int .i64 t626, .string t627, .slice Ao13 t628.length co13] 27 (0, 0))) := ⟨by (with_reducible repeat (first | refine zai ?_ _ | refine zak ?_ | refine zah ?_ _)); refine za6 ?_ zbx.out _; (with_reducible repeat (first | refine zai ?_ _ | refine zak ?_ | refine zah ?_ _)); refine za6 ?_ zbx.out _; (with_reducible repeat (first | refine zai ?_ _ | refine zak ?_ | refine zah ?_ _)); refine za6 ?_ zbx.out _; (with_reducible repeat (first | refine zai ?_ _ | refine zak ?_ | refine zah ?_ _)); refine za6 ?_ zbx.out _; (with_reducible repeat (first | refine zai ?_ _ | refine zak ?_ | refine zah ?_ _)); refine za6 ?_ zbx.out _; (with_reducible repeat (first | refine zai ?_ _ | refine zak ?_ | refine zah ?_ _)); refine za6 ?_ zbx.out _; (with_reducible repeat (first | refine zai ?_ _ | refine zak ?_ | refine zah ?_ _)); exact zaV.out⟩
        have n4_ : zab (((((((w128.setCell ⟨zaB, 0, none⟩ (.int .i64 t641)).setCell ⟨zaB, 1, none⟩ (.int .i64 t642)).setCell ⟨zaB, 2, none⟩ (.string t643)).setCell ⟨zaB, 3, none⟩ (.int .i64 t644)).setCell ⟨zaB, 4, none⟩ (.string t645)).setCell ⟨zaB, 5, none⟩ (.slice Ao132 t646.length co132)).heap[zbc]? = some (.cells #[.int .i64 zaE, .string zaD, .int .i64 zaC] 30 (0, 0))) := ⟨by (with_reducible repeat (first | refine zai ?_ _ | refine zak ?_ | refine zah ?_ _)); refine za6 ?_ zby.out _; (with_reducible repeat (first | refine zai ?_ _ | refine zak ?_ | refine zah ?_ _)); refine za6 ?_ zby.out _; (with_reducible repeat (first | refine zai ?_ _ | refine zak ?_ | refine zah ?_ _)); refine za6 ?_ zby.out _; (with_reducible repeat (first | refine zai ?_ _ | refine zak ?_ | refine zah ?_ _)); refine za6 ?_ zby.out _; (with_reducible repeat (first | refine zai ?_ _ | refine zak ?_ | refine zah ?_ _)); refine za6 ?_ zby.out _; (with_reducible repeat (first | refine zai ?_ _ | refine zak ?_ | refine zah ?_ _)); refine za6 ?_ zby.out _; (with_reducible repeat (first | refine zai ?_ _ | refine zak ?_ | refine zah ?_ _)); exact zaP.out⟩
        have n5_ : zab (((((((w128.setCell ⟨zaB, 0, none⟩ (.int .i64 t641)).setCell ⟨zaB, 1, none⟩ (.int .i64 t642)).setCell ⟨zaB, 2, none⟩ (.string t643)).setCell ⟨zaB, 3, none⟩ (.int .i64 t644)).setCell ⟨zaB, 4, none⟩ (.string t645)).setCell ⟨zaB, 5, none⟩ (.slice Ao132 t646.length co132)).heap[zaB]? = some (.cells #[.int .i64 t641, .int .i64 t642, .string t643, .int .i64 t644, .string t645, .slice Ao132 t646.length co132] 33 (0, 0))) := ⟨by (with_reducible repeat (first | refine zai ?_ _ | refine zak ?_ | refine zah ?_ _)); refine zaG (cs := #[.int .i64 t641, .int .i64 t642, .string t643, .int .i64 t644, .string t645, .slice none 0 0]) ?_ 5 _ rfl; (with_reducible repeat (first | refine zai ?_ _ | refine zak ?_ | refine zah ?_ _)); refine zaG (cs := #[.int .i64 t641, .int .i64 t642, .string t643, .int .i64 t644, .string (⟨#[]⟩ : ByteArray), .slice none 0 0]) ?_ 4 _ rfl; (with_reducible repeat (first | refine zai ?_ _ | refine zak ?_ | refine zah ?_ _)); refine zaG (cs := #[.int .i64 t641, .int .i64 t642, .string t643, .int .i64 0, .string (⟨#[]⟩ : ByteArray), .slice none 0 0]) ?_ 3 _ rfl; (with_reducible repeat (first | refine zai ?_ _ | refine zak ?_ | refine zah ?_ _)); refine zaG (cs := #[.int .i64 t641, .int .i64 t642, .string (⟨#[]⟩ : ByteArray), .int .i64 0, .string (⟨#[]⟩ : ByteArray), .slice none 0 0]) ?_ 2 _ rfl; (with_reducible repeat (first | refine zai ?_ _ | refine zak ?_ | refine zah ?_ _)); refine zaG (cs := #[.int .i64 t641, .int .i64 0, .string (⟨#[]⟩ : ByteArray), .int .i64 0, .string (⟨#[]⟩ : ByteArray), .slice none 0 0]) ?_ 1 _ rfl; (with_reducible repeat (first | refine zai ?_ _ | refine zak ?_ | refine zah ?_ _)); refine zaG (cs := #[.int .i64 0, .int .i64 0, .string (⟨#[]⟩ : ByteArray), .int .i64 0, .string (⟨#[]⟩ : ByteArray), .slice none 0 0]) ?_ 0 _ rfl; (with_reducible repeat (first | refine zai ?_ _ | refine zak ?_ | refine zah ?_ _)); exact zbn.out⟩
        have n6_ : zab (Below w.heap.size w ((((((w128.setCell ⟨zaB, 0, none⟩ (.int .i64 t641)).setCell ⟨zaB, 1, none⟩ (.int .i64 t642)).setCell ⟨zaB, 2, none⟩ (.string t643)).setCell ⟨zaB, 3, none⟩ (.int .i64 t644)).setCell ⟨zaB, 4, none⟩ (.string t645)).setCell ⟨zaB, 5, none⟩ (.slice Ao132 t646.length co132))) := ⟨by repeat (first | (with_reducible first | exact HB.out | apply zad | apply zaa | apply zac | refine zae ?_ zbv.out | refine zae ?_ zbz.out | refine zae ?_ GE649.out) | exact HB.out)⟩
        (try clear zbe)
        (try clear zax)
        (try clear HO648)
        (try clear zaV)
        (try clear zaP)
        (try clear zbn)
        (try clear HB)
        generalize ((((((w128.setCell ⟨zaB, 0, none⟩ (.int .i64 t641)).setCell ⟨zaB, 1, none⟩ (.int .i64 t642)).setCell ⟨zaB, 2, none⟩ (.string t643)).setCell ⟨zaB, 3, none⟩ (.int .i64 t644)).setCell ⟨zaB, 4, none⟩ (.string t645)).setCell ⟨zaB, 5, none⟩ (.slice Ao132 t646.length co132)) = w133 at n0_ n1_ n2_ n3_ n4_ n5_ n6_ ⊢
        have zbe := n0_
        have zax := n1_
        have HO648 := n2_
        have zaV := n3_
        have zaP := n4_
        have zbn := n5_
        have HB := n6_
        clear n0_ n1_ n2_ n3_ n4_ n5_ n6_
        have n0_ := zab.mk (Kd.zaw zbe.out)
        have n1_ := zab.mk (Kd.zaw zax.out)
        have n2_ := zab.mk (Kd.zaw HO648.out)
        have n3_ := zab.mk (zak zaV.out)
        have n4_ := zab.mk (zak zaP.out)
        have n5_ := zab.mk (zak zbn.out)
        have n6_ := zab.mk (zac HB.out)
        clear zbe zax HO648 zaV zaP zbn HB
        have zbe := n0_
        have zax := n1_
        have HO648 := n2_
        have zaV := n3_
        have zaP := n4_
        have zbn := n5_
        have HB := n6_
        clear n0_ n1_ n2_ n3_ n4_ n5_ n6_
        refine start_ (n := 28) (S := fun w' => w'.cell? ⟨zaB, 0, none⟩ = some (.int .i64 t641) ∧ w'.cell? ⟨zaB, 1, none⟩ = some (.int .i64 t642) ∧ w'.cell? ⟨zaB, 2, none⟩ = some (.string t643) ∧ w'.cell? ⟨zaB, 3, none⟩ = some (.int .i64 t644) ∧ w'.cell? ⟨zaB, 4, none⟩ = some (.string t645) ∧ w'.cell? ⟨zaB, 5, none⟩ = some (.slice Ao132 t646.length co132)) (ds := []) #[false, false, false, false, false, false, false, false, false, false, false, false, false, false, false, false, false, false, false, false, false, false, false, false, false, false, false, false] (by kernel_rfl) rfl rfl ⟨(zal zbn.out 0).trans rfl, (zal zbn.out 1).trans rfl, (zal zbn.out 2).trans rfl, (zal zbn.out 3).trans rfl, (zal zbn.out 4).trans rfl, (zal zbn.out 5).trans rfl⟩ (fun hHeld => ?_); refine with_tabW zay.tab24 zay.bits24 (fun HT_ HW_ => ?_)
        generalize w133.drew = w134 at zbe zax HO648 zaV zaP zbn HB hHeld ⊢
        refine zbf (i := 0) (N := some 96) (v := ?_) (a' := ?_) #[true, false, false, false, false, false, false, false, false, false, false, false, false, false, false, false, false, false, false, false, false, false, false, false, false, false, false, false] rfl rfl (zaZ HT_.out (by kernel_rfl)) (fun _ _ _ h => h) (Or.inl ⟨by rfl, ?_⟩) ?_ ?_
        rotate_left
        ·intro w'
         go_simp
         with_reducible rfl
        rotate_left
        ·simp only [Act.put, List.setIfInBounds_toArray, List.set_cons_zero, List.set_cons_succ, zaR, zaS]
         rfl
        refine take_ (i := 1) (N := some 97) (v := ?_) (a' := ?_) #[true, true, false, false, false, false, false, false, false, false, false, false, false, false, false, false, false, false, false, false, false, false, false, false, false, false, false, false] rfl rfl (take_ofW HT_.out HW_.out (by kernel_rfl)) (fun _ _ _ h => h) (Or.inl ⟨by rfl, ?_⟩) hHeld ?_ ?_
        rotate_left
        ·rintro w' ⟨s0, s1, s2, s3, s4, s5⟩
         go_simp
         with_reducible rfl
        rotate_left
        ·simp only [Act.put, List.setIfInBounds_toArray, List.set_cons_zero, List.set_cons_succ, zaR, zaS]
         rfl
        refine zbf (i := 2) (N := some 98) (v := ?_) (a' := ?_) #[true, true, true, false, false, false, false, false, false, false, false, false, false, false, false, false, false, false, false, false, false, false, false, false, false, false, false, false] rfl rfl (zaZ HT_.out (by kernel_rfl)) (fun _ _ _ h => h) (Or.inl ⟨by rfl, ?_⟩) ?_ ?_
        rotate_left
        ·intro w'
         go_simp
         with_reducible rfl
        rotate_left
        ·simp only [Act.put, List.setIfInBounds_toArray, List.set_cons_zero, List.set_cons_succ, zaR, zaS]
         rfl
        refine zbf (i := 3) (N := some 99) (v := ?_) (a' := ?_) #[true, true, true, true, false, false, false, false, false, false, false, false, false, false, false, false, false, false, false, false, false, false, false, false, false, false, false, false] rfl rfl (zaZ HT_.out (by kernel_rfl)) (fun _ _ _ h => h) (Or.inl ⟨by rfl, ?_⟩) ?_ ?_
        rotate_left
        ·intro w'
         go_simp
         with_reducible rfl
        rotate_left
        ·simp only [Act.put, List.setIfInBounds_toArray, List.set_cons_zero, List.set_cons_succ, zaR, zaS]
         rfl
        refine zbf (i := 4) (N := some 100) (v := undef) (a' := ?_) #[true, true, true, true, true, false, false, false, false, false, false, false, false, false, false, false, false, false, false, false, false, false, false, false, false, false, false, false] rfl rfl (zaZ HT_.out (by kernel_rfl)) (fun _ _ _ h => h) (Or.inr ⟨by rfl, rfl⟩) ?_ ?_
        rotate_left
        ·simp only [Act.put, List.setIfInBounds_toArray, List.set_cons_zero, List.set_cons_succ, zaR, zaS]
         rfl
        refine zbf (i := 5) (N := some 101) (v := undef) (a' := ?_) #[true, true, true, true, true, true, false, false, false, false, false, false, false, false, false, false, false, false, false, false, false, false, false, false, false, false, false, false] rfl rfl (zaZ HT_.out (by kernel_rfl)) (fun _ _ _ h => h) (Or.inr ⟨by rfl, rfl⟩) ?_ ?_
        rotate_left
        ·simp only [Act.put, List.setIfInBounds_toArray, List.set_cons_zero, List.set_cons_succ, zaR, zaS]
         rfl
        refine zbf (i := 6) (N := some 102) (v := undef) (a' := ?_) #[true, true, true, true, true, true, true, false, false, false, false, false, false, false, false, false, false, false, false, false, false, false, false, false, false, false, false, false] rfl rfl (zaZ HT_.out (by kernel_rfl)) (fun _ _ _ h => h) (Or.inr ⟨by rfl, rfl⟩) ?_ ?_
        rotate_left
        ·simp only [Act.put, List.setIfInBounds_toArray, List.set_cons_zero, List.set_cons_succ, zaR, zaS]
         rfl
        refine zbf (i := 7) (N := some 103) (v := undef) (a' := ?_) #[true, true, true, true, true, true, true, true, false, false, false, false, false, false, false, false, false, false, false, false, false, false, false, false, false, false, false, false] rfl rfl (zaZ HT_.out (by kernel_rfl)) (fun _ _ _ h => h) (Or.inr ⟨by rfl, rfl⟩) ?_ ?_
        rotate_left
        ·simp only [Act.put, List.setIfInBounds_toArray, List.set_cons_zero, List.set_cons_succ, zaR, zaS]
         rfl
        refine zbf (i := 8) (N := some 104) (v := ?_) (a' := ?_) #[true, true, true, true, true, true, true, true, true, false, false, false, false, false, false, false, false, false, false, false, false, false, false, false, false, false, false, false] rfl rfl (zaZ HT_.out (by kernel_rfl)) (fun _ _ _ h => h) (Or.inl ⟨by rfl, ?_⟩) ?_ ?_
        rotate_left
        ·intro w'
         go_simp
         with_reducible rfl
        rotate_left
        ·simp only [Act.put, List.setIfInBounds_toArray, List.set_cons_zero, List.set_cons_succ, zaR, zaS]
         rfl
        refine zbf (i := 9) (N := some 105) (v := ?_) (a' := ?_) #[true, true, true, true, true, true, true, true, true, true, false, false, false, false, false, false, false, false, false, false, false, false, false, false, false, false, false, false] rfl rfl (zaZ HT_.out (by kernel_rfl)) (fun _ _ _ h => h) (Or.inl ⟨by rfl, ?_⟩) ?_ ?_
        rotate_left
        ·intro w'
         go_simp
         with_reducible rfl
        rotate_left
        ·simp only [Act.put, List.setIfInBounds_toArray, List.set_cons_zero, List.set_cons_succ, zaR, zaS]
         rfl
        refine zbf (i := 10) (N := some 106) (v := undef) (a' := ?_) #[true, true, true, true, true, true, true, true, true, true, true, false, false, false, false, false, false, false, false, false, false, false, false, false, false, false, false, false] rfl rfl (zaZ HT_.out (by kernel_rfl)) (fun _ _ _ h => h) (Or.inr ⟨by rfl, rfl⟩) ?_ ?_
        rotate_left
        ·simp only [Act.put, List.setIfInBounds_toArray, List.set_cons_zero, List.set_cons_succ, zaR, zaS]
         rfl
        refine zbf (i := 11) (N := some 107) (v := undef) (a' := ?_) #[true, true, true, true, true, true, true, true, true, true, true, true, false, false, false, false, false, false, false, false, false, false, false, false, false, false, false, false] rfl rfl (zaZ HT_.out (by kernel_rfl)) (fun _ _ _ h => h) (Or.inr ⟨by rfl, rfl⟩) ?_ ?_
        rotate_left
        ·simp only [Act.put, List.setIfInBounds_toArray, List.set_cons_zero, List.set_cons_succ, zaR, zaS]
         rfl
        refine zbf (i := 12) (N := some 108) (v := undef) (a' := ?_) #[true, true, true, true, true, true, true, true, true, true, true, true, true, false, false, false, false, false, false, false, false, false, false, false, false, false, false, false] rfl rfl (zaZ HT_.out (by kernel_rfl)) (fun _ _ _ h => h) (Or.inr ⟨by rfl, rfl⟩) ?_ ?_
        rotate_left
        ·simp only [Act.put, List.setIfInBounds_toArray, List.set_cons_zero, List.set_cons_succ, zaR, zaS]
         rfl
        refine zbf (i := 13) (N := some 109) (v := undef) (a' := ?_) #[true, true, true, true, true, true, true, true, true, true, true, true, true, true, false, false, false, false, false, false, false, false, false, false, false, false, false, false] rfl rfl (zaZ HT_.out (by kernel_rfl)) (fun _ _ _ h => h) (Or.inr ⟨by rfl, rfl⟩) ?_ ?_
        rotate_left
        ·simp only [Act.put, List.setIfInBounds_toArray, List.set_cons_zero, List.set_cons_succ, zaR, zaS]
         rfl
        refine zbf (i := 14) (N := some 110) (v := undef) (a' := ?_) #[true, true, true, true, true, true, true, true, true, true, true, true, true, true, true, false, false, false, false, false, false, false, false, false, false, false, false, false] rfl rfl (zaZ HT_.out (by kernel_rfl)) (fun _ _ _ h => h) (Or.inr ⟨by rfl, rfl⟩) ?_ ?_
        rotate_left
        ·simp only [Act.put, List.setIfInBounds_toArray, List.set_cons_zero, List.set_cons_succ, zaR, zaS]
         rfl
        refine zbf (i := 15) (N := some 111) (v := undef) (a' := ?_) #[true, true, true, true, true, true, true, true, true, true, true, true, true, true, true, true, false, false, false, false, false, false, false, false, false, false, false, false] rfl rfl (zaZ HT_.out (by kernel_rfl)) (fun _ _ _ h => h) (Or.inr ⟨by rfl, rfl⟩) ?_ ?_
        rotate_left
        ·simp only [Act.put, List.setIfInBounds_toArray, List.set_cons_zero, List.set_cons_succ, zaR, zaS]
         rfl
        refine zbf (i := 16) (N := some 112) (v := undef) (a' := ?_) #[true, true, true, true, true, true, true, true, true, true, true, true, true, true, true, true, true, false, false, false, false, false, false, false, false, false, false, false] rfl rfl (zaZ HT_.out (by kernel_rfl)) (fun _ _ _ h => h) (Or.inr ⟨by rfl, rfl⟩) ?_ ?_
        rotate_left
        ·simp only [Act.put, List.setIfInBounds_toArray, List.set_cons_zero, List.set_cons_succ, zaR, zaS]
         rfl
        refine zbf (i := 17) (N := some 113) (v := ?_) (a' := ?_) #[true, true, true, true, true, true, true, true, true, true, true, true, true, true, true, true, true, true, false, false, false, false, false, false, false, false, false, false] rfl rfl (zaZ HT_.out (by kernel_rfl)) (fun _ _ _ h => h) (Or.inl ⟨by rfl, ?_⟩) ?_ ?_
        rotate_left
        ·intro w'
         go_simp
         with_reducible rfl
        rotate_left
        ·simp only [Act.put, List.setIfInBounds_toArray, List.set_cons_zero, List.set_cons_succ, zaR, zaS]
         rfl
        refine zbf (i := 18) (N := some 114) (v := ?_) (a' := ?_) #[true, true, true, true, true, true, true, true, true, true, true, true, true, true, true, true, true, true, true, false, false, false, false, false, false, false, false, false] rfl rfl (zaZ HT_.out (by kernel_rfl)) (fun _ _ _ h => h) (Or.inl ⟨by rfl, ?_⟩) ?_ ?_
        rotate_left
        ·intro w'
         go_simp
         with_reducible rfl
        rotate_left
        ·simp only [Act.put, List.setIfInBounds_toArray, List.set_cons_zero, List.set_cons_succ, zaR, zaS]
         rfl
        refine zbf (i := 19) (N := some 115) (v := undef) (a' := ?_) #[true, true, true, true, true, true, true, true, true, true, true, true, true, true, true, true, true, true, true, true, false, false, false, false, false, false, false, false] rfl rfl (zaZ HT_.out (by kernel_rfl)) (fun _ _ _ h => h) (Or.inr ⟨by rfl, rfl⟩) ?_ ?_
        rotate_left
        ·simp only [Act.put, List.setIfInBounds_toArray, List.set_cons_zero, List.set_cons_succ, zaR, zaS]
         rfl
        refine zbf (i := 20) (N := some 116) (v := undef) (a' := ?_) #[true, true, true, true, true, true, true, true, true, true, true, true, true, true, true, true, true, true, true, true, true, false, false, false, false, false, false, false] rfl rfl (zaZ HT_.out (by kernel_rfl)) (fun _ _ _ h => h) (Or.inr ⟨by rfl, rfl⟩) ?_ ?_
        rotate_left
        ·simp only [Act.put, List.setIfInBounds_toArray, List.set_cons_zero, List.set_cons_succ, zaR, zaS]
         rfl
        refine zbf (i := 21) (N := some 117) (v := undef) (a' := ?_) #[true, true, true, true, true, true, true, true, true, true, true, true, true, true, true, true, true, true, true, true, true, true, false, false, false, false, false, false] rfl rfl (zaZ HT_.out (by kernel_rfl)) (fun _ _ _ h => h) (Or.inr ⟨by rfl, rfl⟩) ?_ ?_
        rotate_left
        ·simp only [Act.put, List.setIfInBounds_toArray, List.set_cons_zero, List.set_cons_succ, zaR, zaS]
         rfl
        refine zbf (i := 22) (N := some 118) (v := undef) (a' := ?_) #[true, true, true, true, true, true, true, true, true, true, true, true, true, true, true, true, true, true, true, true, true, true, true, false, false, false, false, false] rfl rfl (zaZ HT_.out (by kernel_rfl)) (fun _ _ _ h => h) (Or.inr ⟨by rfl, rfl⟩) ?_ ?_
        rotate_left
        ·simp only [Act.put, List.setIfInBounds_toArray, List.set_cons_zero, List.set_cons_succ, zaR, zaS]
         rfl
        refine zbf (i := 23) (N := some 119) (v := undef) (a' := ?_) #[true, true, true, true, true, true, true, true, true, true, true, true, true, true, true, true, true, true, true, true, true, true, true, true, false, false, false, false] rfl rfl (zaZ HT_.out (by kernel_rfl)) (fun _ _ _ h => h) (Or.inr ⟨by rfl, rfl⟩) ?_ ?_
        rotate_left
        ·simp only [Act.put, List.setIfInBounds_toArray, List.set_cons_zero, List.set_cons_succ, zaR, zaS]
         rfl
        refine zbf (i := 24) (N := some 120) (v := undef) (a' := ?_) #[true, true, true, true, true, true, true, true, true, true, true, true, true, true, true, true, true, true, true, true, true, true, true, true, true, false, false, false] rfl rfl (zaZ HT_.out (by kernel_rfl)) (fun _ _ _ h => h) (Or.inr ⟨by rfl, rfl⟩) ?_ ?_
        rotate_left
        ·simp only [Act.put, List.setIfInBounds_toArray, List.set_cons_zero, List.set_cons_succ, zaR, zaS]
         rfl
        refine zbf (i := 25) (N := some 121) (v := undef) (a' := ?_) #[true, true, true, true, true, true, true, true, true, true, true, true, true, true, true, true, true, true, true, true, true, true, true, true, true, true, false, false] rfl rfl (zaZ HT_.out (by kernel_rfl)) (fun _ _ _ h => h) (Or.inr ⟨by rfl, rfl⟩) ?_ ?_
        rotate_left
        ·simp only [Act.put, List.setIfInBounds_toArray, List.set_cons_zero, List.set_cons_succ, zaR, zaS]
         rfl
        refine zbf (i := 26) (N := some 122) (v := ?_) (a' := ?_) #[true, true, true, true, true, true, true, true, true, true, true, true, true, true, true, true, true, true, true, true, true, true, true, true, true, true, true, false] rfl rfl (zaZ HT_.out (by kernel_rfl)) (fun _ _ _ h => h) (Or.inl ⟨by rfl, ?_⟩) ?_ ?_
        rotate_left
        ·intro w'
         go_simp
         with_reducible rfl
        rotate_left
        ·simp only [Act.put, List.setIfInBounds_toArray, List.set_cons_zero, List.set_cons_succ, zaR, zaS]
         rfl
        refine zbf (i := 27) (N := some 4) (v := ?_) (a' := ?_) #[true, true, true, true, true, true, true, true, true, true, true, true, true, true, true, true, true, true, true, true, true, true, true, true, true, true, true, true] rfl rfl (zaZ HT_.out (by kernel_rfl)) (fun _ _ _ h => h) (Or.inl ⟨by rfl, ?_⟩) ?_ ?_
        rotate_left
        ·intro w'
         go_simp
         with_reducible rfl
        rotate_left
        ·simp only [Act.put, List.setIfInBounds_toArray, List.set_cons_zero, List.set_cons_succ, zaR, zaS]
         rfl
        refine done_ (done_of HT_.out (by kernel_rfl)) ?_
        try go_wp2
        go_ret
        exact ⟨by first | rfl | (simp [zar, zas] <;> rfl) | (simp [*, zar, zas] <;> rfl), by repeat (first | (with_reducible first | exact HB.out | apply zad | apply zaa | apply zac | refine zae ?_ zbv.out | refine zae ?_ zbz.out | refine zae ?_ GE649.out) | exact HB.out)⟩
   rw [if_neg c8] at H
   have c8b0 : (t626 == 0) = false := beq_eq_false_iff_ne.mpr c8
   have c8b1 : (t626 != 0) = true := bne_iff_ne.mpr c8
   replace H := Option.bind_eq_some_iff.mp H
   obtain ⟨⟨t632, t633, t634⟩, A1350, H⟩ := H
   replace H : (some (t632 == t626)) = some r := H
   have A135 := zab.mk A1350; clear A1350; obtain rfl := Option.some.inj H
   try go_wp2_with (first | ((with_reducible refine zan (f := 5) rfl ?_); refine zaN (some 25) rfl rfl Tryd.func5 (by kernel_rfl) rfl #[.slice A0 l0.length c0] rfl (by (try simp only [List.map_toArray, List.map_cons, List.map_nil]); first | done | rfl | (simp only [List.length_drop, List.length_take]; rfl)) ?_; (with_reducible refine (za2.calls kj2 _ _ l0 t624 t625 _ ?side1 ?side2 A6.out).mono ?_); (case side1 => repeat (first | exact (Kd.C_below HR0.out HB.out) | (with_reducible refine Kd.C_alloc ?_ _) | (with_reducible refine Kd.C_drewN ?_ _) | (with_reducible refine Kd.C_drew ?_))); (case side2 => exact HC0.out); rintro e w136 ⟨rfl, hb⟩; refine ⟨_, rfl, ?_⟩; have n0_ := zab.mk (zau HB.out hb); clear HB; have HB := n0_; clear n0_; (try clear hb); (try clear hb2); (try clear hk); (try clear hi)) | ((with_reducible refine zan (f := 6) rfl ?_); refine zaN (some 30) rfl rfl Tryd.func6 (by kernel_rfl) rfl #[.int .i64 t624, .string t625] rfl (by (try simp only [List.map_toArray, List.map_cons, List.map_nil]); first | done | rfl | (simp only [List.length_drop, List.length_take]; rfl)) ?_; (with_reducible refine (spec_Decode.calls kj2 t624 t625 t626 t627 t628 _ A7.out).mono ?_); rintro e w137 ⟨v629, rfl, ho0, hb⟩; refine ⟨_, rfl, ?_⟩; have n0_ := zab.mk (Kd.zbm ho0 (zav HB.out)); have n1_ := zab.mk (zau HB.out hb); clear HB; have HO630 := n0_; have HB := n1_; clear n0_ n1_; (try clear hb); (try clear hb2); (try clear hk); (try clear hi); (try clear ho0)) | ((with_reducible refine zbb (N := 7) rfl ?_); (try (refine gate_guard (by rfl) ?_; dsimp only)); refine zbs ?hg (N := 7) ?hd (cs := #[.int .i64 0, .string (⟨#[]⟩ : ByteArray), .slice none 0 0]) (t := 27) ?hr ?_; (case hd => rfl); (case hg => rfl); (case hr => first | (go_simp; done) | (go_simp; rfl)); intro zbh hg w138 hbox hb; have n0_ := zab.mk (Kd.zbi HO630.out hb); have n1_ := zab.mk (zau HB.out hb); have n2_ := zab.mk (hbox); have n3_ := zab.mk ((by rw [hg]; exact (zav HB.out) : w.heap.size ≤ zbh)); have n4_ := zab.mk ((by rw [hg]; exact (zav HB.out) : w.heap.size ≤ zbh)); clear HO630 HB; have HO630 := n0_; have HB := n1_; have zaV := n2_; have GW631 := n3_; have zbv := n4_; clear n0_ n1_ n2_ n3_ n4_ hb hbox hg; have hcz139_0 : w138.cell? ⟨zbh, 0, none⟩ = some (.int .i64 0) := (zal zaV.out 0).trans rfl; have hcz139_1 : w138.cell? ⟨zbh, 1, none⟩ = some (.string (⟨#[]⟩ : ByteArray)) := (zal zaV.out 1).trans rfl; have hcz139_2 : w138.cell? ⟨zbh, 2, none⟩ = some (.slice none 0 0) := (zal zaV.out 2).trans rfl; have hfz139_0 := zam zaV.out 0; have hfz139_1 := zam zaV.out 1; have hfz139_2 := zam zaV.out 2; obtain ⟨Ao140, co140, eo140⟩ := Kd.zbr HO630.out; subst eo140))
   have n0_ : zab (Kd.R (Kd.int .i64) 2 (((w138.setCell ⟨zbh, 0, none⟩ (.int .i64 t626)).setCell ⟨zbh, 1, none⟩ (.string t627)).setCell ⟨zbh, 2, none⟩ (.slice Ao140 t628.length co140)) w.heap.size (fun _ => True) (.slice Ao140 t628.length co140) t628) := ⟨by (with_reducible repeat (first | apply Kd.R_alloc | apply Kd.zat | apply Kd.zaw)); exact Kd.za7 (Kd.za0 (p := ⟨zbh, 2, none⟩) (Kd.za0 (p := ⟨zbh, 1, none⟩) (Kd.za0 (p := ⟨zbh, 0, none⟩) (Kd.zbF HO630.out zaV.out (by decide)) (fun _ hk => hk.2) (.int .i64 t626)) (fun _ hk => hk.2) (.string t627)) (fun _ hk => hk.2) (.slice Ao140 t628.length co140)) (fun _ hk => trivial)⟩
   have n1_ : zab ((((w138.setCell ⟨zbh, 0, none⟩ (.int .i64 t626)).setCell ⟨zbh, 1, none⟩ (.string t627)).setCell ⟨zbh, 2, none⟩ (.slice Ao140 t628.length co140)).heap[zbh]? = some (.cells #[.int .i64 t626, .string t627, .slice Ao140 t628.length co140] 27 (0, 0))) := ⟨by (with_reducible repeat (first | refine zai ?_ _ | refine zak ?_ | refine zah ?_ _)); refine zaG (cs := #[.int .i64 t626, .string t627, .slice none 0 0]) ?_ 2 _ rfl; (with_reducible repeat (first | refine zai ?_ _ | refine zak ?_ | refine zah ?_ _)); refine zaG (cs := #[.int .i64 t626, .string (⟨#[]⟩ : ByteArray), .slice none 0 0]) ?_ 1 _ rfl; (with_reducible repeat (first | refine zai ?_ _ | refine zak ?_ | refine zah ?_ _)); refine zaG (cs := #[.int .i64 0, .string (⟨#[]⟩ : ByteArray), .slice none 0 0]) ?_ 0 _ rfl; (with_reducible repeat (first | refine zai ?_ _ | refine zak ?_ | refine zah ?_ _)); exact zaV.out⟩
   have n2_ : zab (Below w.heap.size w (((w138.setCell ⟨zbh, 0, none⟩ (.int .i64 t626)).setCell ⟨zbh, 1, none⟩ (.string t627)).setCell ⟨zbh, 2, none⟩ (.slice Ao140 t628.length co140))) := ⟨by repeat (first | (with_reducible first | exact HB.out | apply zad | apply zaa | apply zac | refine zae ?_ zbv.out) | exact HB.out)⟩
   (try clear HO630)
   (try clear zaV)
   (try clear HB)
   generalize (((w138.setCell ⟨zbh, 0, none⟩ (.int .i64 t626)).setCell ⟨zbh, 1, none⟩ (.string t627)).setCell ⟨zbh, 2, none⟩ (.slice Ao140 t628.length co140)) = w141 at n0_ n1_ n2_ ⊢
   have HO630 := n0_
   have zaV := n1_
   have HB := n2_
   clear n0_ n1_ n2_
   have n0_ := zab.mk (Kd.zaw HO630.out)
   have n1_ := zab.mk (zak zaV.out)
   have n2_ := zab.mk (zac HB.out)
   clear HO630 zaV HB
   have HO630 := n0_
   have zaV := n1_
   have HB := n2_
   clear n0_ n1_ n2_
   refine start_ (n := 8) (S := fun w' => w'.cell? ⟨zbh, 0, none⟩ = some (.int .i64 t626) ∧ w'.cell? ⟨zbh, 1, none⟩ = some (.string t627) ∧ w'.cell? ⟨zbh, 2, none⟩ = some (.slice Ao140 t628.length co140)) (ds := []) #[false, false, false, false, false, false, false, false] (by kernel_rfl) rfl rfl ⟨(zal zaV.out 0).trans rfl, (zal zaV.out 1).trans rfl, (zal zaV.out 2).trans rfl⟩ (fun hHeld => ?_); refine with_tabW zay.tab6 zay.bits6 (fun HT_ HW_ => ?_)
   generalize w141.drew = w142 at HO630 zaV HB hHeld ⊢
   refine zbf (i := 0) (N := some 34) (v := ?_) (a' := ?_) #[true, false, false, false, false, false, false, false] rfl rfl (zaZ HT_.out (by kernel_rfl)) (fun _ _ _ h => h) (Or.inl ⟨by rfl, ?_⟩) ?_ ?_
   rotate_left
   ·intro w'
    go_simp
    with_reducible rfl
   rotate_left
   ·simp only [Act.put, List.setIfInBounds_toArray, List.set_cons_zero, List.set_cons_succ, zaR, zaS]
    rfl
   refine zbf (i := 1) (N := some 35) (v := ?_) (a' := ?_) #[true, true, false, false, false, false, false, false] rfl rfl (zaZ HT_.out (by kernel_rfl)) (fun _ _ _ h => h) (Or.inl ⟨by rfl, ?_⟩) ?_ ?_
   rotate_left
   ·intro w'
    go_simp
    with_reducible rfl
   rotate_left
   ·simp only [Act.put, List.setIfInBounds_toArray, List.set_cons_zero, List.set_cons_succ, zaR, zaS]
    rfl
   refine zbf (i := 4) (N := some 38) (v := ?_) (a' := ?_) #[true, true, false, false, true, false, false, false] rfl rfl (zaZ HT_.out (by kernel_rfl)) (fun _ _ _ h => h) (Or.inl ⟨by rfl, ?_⟩) ?_ ?_
   rotate_left
   ·intro w'
    go_simp
    with_reducible rfl
   rotate_left
   ·simp only [Act.put, List.setIfInBounds_toArray, List.set_cons_zero, List.set_cons_succ, zaR, zaS]
    rfl
   refine take_ (i := 5) (N := some 39) (v := ?_) (a' := ?_) #[true, true, false, false, true, true, false, false] rfl rfl (take_ofW HT_.out HW_.out (by kernel_rfl)) (fun _ _ _ h => h) (Or.inl ⟨by rfl, ?_⟩) hHeld ?_ ?_
   rotate_left
   ·rintro w' ⟨s0, s1, s2⟩
    go_simp
    with_reducible rfl
   rotate_left
   ·simp only [Act.put, List.setIfInBounds_toArray, List.set_cons_zero, List.set_cons_succ, zaR, zaS]
    rfl
   refine one_ (i := 2) (N := some 36) #[true, true, true, false, true, true, false, false] rfl rfl (one_of HT_.out (by kernel_rfl)) (by decide) (fun K hK => ?_)
   refine goes_ Tryd.func7 (by kernel_rfl) rfl #[.int .i64 t624, .string t625] (by rfl) rfl rfl (by (try simp only [List.map_toArray, List.map_cons, List.map_nil]); first | done | rfl | (simp only [List.length_drop, List.length_take]; rfl)) ?_
   with_reducible refine (impl_Decode.calls kj2 t624 t625 t632 t633 t634 _ ?side1 A135.out).mono ?_
   (case side1 => exact GT_below HG.out HB.out)
   rintro e w143 ⟨v635, rfl, ho0, hb⟩
   obtain ⟨Ao_v635, co_v635, eo_v635⟩ := Kd.zbr ho0
   subst eo_v635
   refine ⟨_, rfl, ?_⟩
   have n0_ := zab.mk (Kd.R_elder' HO630.out (Kd.R_base ho0) hb)
   have n1_ := zab.mk (Kd.zbm (Kd.R_new' ho0 (Kd.R_lt HO630.out)) (zav HB.out))
   have n2_ := zab.mk (zaL (g := zbh) (o := .cells #[.int .i64 t626, .string t627, .slice Ao140 t628.length co140] 27 (0, 0)) zaV.out hb)
   have n3_ := zab.mk (zau HB.out hb)
   clear HO630 zaV HB
   have HO630 := n0_
   have HO636 := n1_
   have zaV := n2_
   have HB := n3_
   clear n0_ n1_ n2_ n3_
   (try clear hb)
   (try clear hb2)
   (try clear hk)
   (try clear hi)
   (try clear ho0)
   refine hK.out _ _ ⟨(zal zaV.out 0).trans rfl, (zal zaV.out 1).trans rfl, (zal zaV.out 2).trans rfl⟩ (fun hHeld => ?_)
   clear hK K
   refine norm_ (a' := ?_) ?_ ?_
   rotate_left
   ·show Act.put _ (some 36) _ = _
    simp only [Act.put, List.setIfInBounds_toArray, List.set_cons_zero, List.set_cons_succ, zaR, zaS]
    rfl
   refine zbf (i := 3) (N := some 37) (v := ?_) (a' := ?_) #[true, true, true, true, true, true, false, false] rfl rfl (zaZ HT_.out (by kernel_rfl)) (fun _ _ _ h => h) (Or.inl ⟨by rfl, ?_⟩) ?_ ?_
   rotate_left
   ·intro w'
    try simp only [fld27]
    go_simp
    try simp only [fld27, Result.andThen]
    with_reducible rfl
   rotate_left
   ·simp only [Act.put, List.setIfInBounds_toArray, List.set_cons_zero, List.set_cons_succ, zaR, zaS]
    rfl
   refine zbf (i := 6) (N := some 40) (v := ?_) (a' := ?_) #[true, true, true, true, true, true, true, false] rfl rfl (zaZ HT_.out (by kernel_rfl)) (fun _ _ _ h => h) (Or.inl ⟨by rfl, ?_⟩) ?_ ?_
   rotate_left
   ·intro w'
    try simp only [fld27]
    go_simp
    try simp only [fld27, Result.andThen]
    with_reducible rfl
   rotate_left
   ·simp only [Act.put, List.setIfInBounds_toArray, List.set_cons_zero, List.set_cons_succ, zaR, zaS]
    rfl
   refine zbf (i := 7) (N := some 4) (v := ?_) (a' := ?_) #[true, true, true, true, true, true, true, true] rfl rfl (zaZ HT_.out (by kernel_rfl)) (fun _ _ _ h => h) (Or.inl ⟨by rfl, ?_⟩) ?_ ?_
   rotate_left
   ·intro w'
    try simp only [fld27]
    go_simp
    try simp only [fld27, Result.andThen]
    with_reducible rfl
   rotate_left
   ·simp only [Act.put, List.setIfInBounds_toArray, List.set_cons_zero, List.set_cons_succ, zaR, zaS]
    rfl
   refine done_ (done_of HT_.out (by kernel_rfl)) ?_
   try go_wp2
   go_ret
   exact ⟨by first | rfl | (simp [zar, zas] <;> rfl) | (simp [*, zar, zas] <;> rfl), by repeat (first | (with_reducible first | exact HB.out | apply zad | apply zaa | apply zac | refine zae ?_ zbv.out) | exact HB.out)⟩
end Go.Proofs.YtfafjbolmeimmaaDoor.P
