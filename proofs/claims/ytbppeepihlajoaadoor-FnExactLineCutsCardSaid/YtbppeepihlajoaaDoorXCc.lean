/- The closure of impl.charCuts comes to a plain test. -/
import Derived.Test.YtbppeepihlajoaaDoorXIn
import Derived.Test.YtbppeepihlajoaaDoorL0
namespace Go.Proofs.YtbppeepihlajoaaDoor.P
open Go.RowKit Go.Proofs.YtbppeepihlajoaaDoorW.PrintWords Go.Proofs.YtbppeepihlajoaaDoorW.PrintLast Go.Proofs.YtbppeepihlajoaaDoorW.PrintMore
set_option linter.unusedVariables false
set_option linter.unusedSimpArgs false
def ccB (q p c d : Int) (bind picture : Bool) (flags : Int) : Bool := if q = 13 ∧ p = 10 then false else if c = 1 ∨ d = 1 then true else if d = 3 ∧ (c = 3 ∨ c = 4 ∨ c = 6 ∨ c = 7) then false else if (d = 4 ∨ d = 6) ∧ (c = 4 ∨ c = 5) then false else if (d = 5 ∨ d = 7) ∧ c = 5 then false else if c = 2 then false else if (1536 ≤ p ∧ p ≤ 1567) ∧ bind = true then false else if q = 7936 ∧ c = 8 ∧ picture = true then false else if c = 9 ∧ d = 9 ∧ Int.tmod flags 2 = 1 then false else true
set_option maxHeartbeats 4000000 in
set_option maxRecDepth 100000 in
theorem cc_calls (aq ap ac ad ab ai af : Nat) (q p c d : Int) (bind picture : Bool) (flags : Int) (w : World) (hq : w.cell? ⟨aq, 0, none⟩ = some (.int .i64 q)) (hp : w.cell? ⟨ap, 0, none⟩ = some (.int .i64 p)) (hc : w.cell? ⟨ac, 0, none⟩ = some (.int .i64 c)) (hd : w.cell? ⟨ad, 0, none⟩ = some (.int .i64 d)) (hb : w.cell? ⟨ab, 0, none⟩ = some (.bool bind)) (hi : w.cell? ⟨ai, 0, none⟩ = some (.bool picture)) (hf : w.cell? ⟨af, 0, none⟩ = some (.int .i64 flags)) :
  Calls Tryd.prog 170 #[.pointer (some ⟨aq, 0, none⟩), .pointer (some ⟨ap, 0, none⟩), .pointer (some ⟨ac, 0, none⟩), .pointer (some ⟨ad, 0, none⟩), .pointer (some ⟨ab, 0, none⟩), .pointer (some ⟨ai, 0, none⟩), .pointer (some ⟨af, 0, none⟩)] w fun e w' => e = .returned (.bool (ccB q p c d bind picture flags)) ∧ zau w w' := by
 obtain ⟨R, hR⟩ : ∃ R, ccB q p c d bind picture flags = R := ⟨_, rfl⟩
 rw [hR]
 unfold ccB at hR
 have HR := zab.mk hR; clear hR
 go_enter Tryd.func170, Tryd.ntmps170
 go_upto_region 1 with (fail)
 go_cut [8] (fun v wc => v = .bool (decide (q = 13 ∧ p = 10)) ∧ zau w wc)
 case first =>
  go_wp2
  all_goals
   go_meet
   case rel => exact ⟨by first | (simp [*]; done) | (congr 1; rw [Bool.eq_iff_iff]; simp [*]; done) | (congr 1; done) | (congr 1; rw [Bool.eq_iff_iff]; simp [*]; omega), by repeat (first | exact zau.refl _ | apply zau.step)⟩
 case rest =>
  obtain ⟨rfl, ⟨m0, rfl⟩⟩ := hcut
  have hR := HR.out
  by_cases t0 : q = 13 ∧ p = 10
  ·rw [if_pos t0] at hR
   subst hR
   have e0 : decide (q = 13 ∧ p = 10) = true := decide_eq_true t0
   rw [e0]
   clear e0 t0
   go_wp2
   go_ret
   exact ⟨rfl, by repeat (first | exact zau.refl _ | apply zau.step)⟩
  rw [if_neg t0] at hR
  have e0 : decide (q = 13 ∧ p = 10) = false := decide_eq_false t0
  rw [e0]
  clear e0 t0 HR; have HR := zab.mk hR; clear hR
  go_upto_region 3 with (fail)
  go_cut [15] (fun v wc => v = .bool (decide (c = 1 ∨ d = 1)) ∧ zau w wc)
  case first =>
   go_wp2
   all_goals
    go_meet
    case rel => exact ⟨by first | (simp [*]; done) | (congr 1; rw [Bool.eq_iff_iff]; simp [*]; done) | (congr 1; done) | (congr 1; rw [Bool.eq_iff_iff]; simp [*]; omega), by repeat (first | exact zau.refl _ | apply zau.step)⟩
  case rest =>
   obtain ⟨rfl, ⟨m1, rfl⟩⟩ := hcut
   have hR := HR.out
   by_cases t1 : c = 1 ∨ d = 1
   ·rw [if_pos t1] at hR
    subst hR
    have e1 : decide (c = 1 ∨ d = 1) = true := decide_eq_true t1
    rw [e1]
    clear e1 t1
    go_wp2
    go_ret
    exact ⟨rfl, by repeat (first | exact zau.refl _ | apply zau.step)⟩
   rw [if_neg t1] at hR
   have e1 : decide (c = 1 ∨ d = 1) = false := decide_eq_false t1
   rw [e1]
   clear e1 t1 HR; have HR := zab.mk hR; clear hR
   go_upto_region 5 with (fail)
   go_cut [22] (fun v wc => v = .bool (decide (d = 3 ∧ (c = 3 ∨ c = 4 ∨ c = 6 ∨ c = 7))) ∧ zau w wc)
   case first =>
    go_wp2
    all_goals
     go_meet
     case rel => exact ⟨by first | (simp [*]; done) | (congr 1; rw [Bool.eq_iff_iff]; simp [*]; done) | (congr 1; done) | (congr 1; rw [Bool.eq_iff_iff]; simp [*]; omega), by repeat (first | exact zau.refl _ | apply zau.step)⟩
   case rest =>
    obtain ⟨rfl, ⟨m2, rfl⟩⟩ := hcut
    have hR := HR.out
    by_cases t2 : d = 3 ∧ (c = 3 ∨ c = 4 ∨ c = 6 ∨ c = 7)
    ·rw [if_pos t2] at hR
     subst hR
     have e2 : decide (d = 3 ∧ (c = 3 ∨ c = 4 ∨ c = 6 ∨ c = 7)) = true := decide_eq_true t2
     rw [e2]
     clear e2 t2
     go_wp2
     go_ret
     exact ⟨rfl, by repeat (first | exact zau.refl _ | apply zau.step)⟩
    rw [if_neg t2] at hR
    have e2 : decide (d = 3 ∧ (c = 3 ∨ c = 4 ∨ c = 6 ∨ c = 7)) = false := decide_eq_false t2
    rw [e2]
    clear e2 t2 HR; have HR := zab.mk hR; clear hR
    go_upto_region 7 with (fail)
    go_cut [41] (fun v wc => v = .bool (decide ((d = 4 ∨ d = 6) ∧ (c = 4 ∨ c = 5))) ∧ zau w wc)
    case first =>
     go_wp2
     all_goals
      go_meet
      case rel => exact ⟨by first | (simp [*]; done) | (congr 1; rw [Bool.eq_iff_iff]; simp [*]; done) | (congr 1; done) | (congr 1; rw [Bool.eq_iff_iff]; simp [*]; omega), by repeat (first | exact zau.refl _ | apply zau.step)⟩
    case rest =>
     obtain ⟨rfl, ⟨m3, rfl⟩⟩ := hcut
     have hR := HR.out
     by_cases t3 : (d = 4 ∨ d = 6) ∧ (c = 4 ∨ c = 5)
     ·rw [if_pos t3] at hR
      subst hR
      have e3 : decide ((d = 4 ∨ d = 6) ∧ (c = 4 ∨ c = 5)) = true := decide_eq_true t3
      rw [e3]
      clear e3 t3
      go_wp2
      go_ret
      exact ⟨rfl, by repeat (first | exact zau.refl _ | apply zau.step)⟩
     rw [if_neg t3] at hR
     have e3 : decide ((d = 4 ∨ d = 6) ∧ (c = 4 ∨ c = 5)) = false := decide_eq_false t3
     rw [e3]
     clear e3 t3 HR; have HR := zab.mk hR; clear hR
     go_upto_region 9 with (fail)
     go_cut [56] (fun v wc => v = .bool (decide ((d = 5 ∨ d = 7) ∧ c = 5)) ∧ zau w wc)
     case first =>
      go_wp2
      all_goals
       go_meet
       case rel => exact ⟨by first | (simp [*]; done) | (congr 1; rw [Bool.eq_iff_iff]; simp [*]; done) | (congr 1; done) | (congr 1; rw [Bool.eq_iff_iff]; simp [*]; omega), by repeat (first | exact zau.refl _ | apply zau.step)⟩
     case rest =>
      obtain ⟨rfl, ⟨m4, rfl⟩⟩ := hcut
      have hR := HR.out
      by_cases t4 : (d = 5 ∨ d = 7) ∧ c = 5
      ·rw [if_pos t4] at hR
       subst hR
       have e4 : decide ((d = 5 ∨ d = 7) ∧ c = 5) = true := decide_eq_true t4
       rw [e4]
       clear e4 t4
       go_wp2
       go_ret
       exact ⟨rfl, by repeat (first | exact zau.refl _ | apply zau.step)⟩
      rw [if_neg t4] at hR
      have e4 : decide ((d = 5 ∨ d = 7) ∧ c = 5) = false := decide_eq_false t4
      rw [e4]
      clear e4 t4 HR; have HR := zab.mk hR; clear hR
      go_upto_region 11 with (fail)
      go_cut [67] (fun v wc => v = .bool (decide (c = 2)) ∧ zau w wc)
      case first =>
       go_wp2
       all_goals
        go_meet
        case rel => exact ⟨by first | (simp [*]; done) | (congr 1; rw [Bool.eq_iff_iff]; simp [*]; done) | (congr 1; done) | (congr 1; rw [Bool.eq_iff_iff]; simp [*]; omega), by repeat (first | exact zau.refl _ | apply zau.step)⟩
      case rest =>
       obtain ⟨rfl, ⟨m5, rfl⟩⟩ := hcut
       have hR := HR.out
       by_cases t5 : c = 2
       ·rw [if_pos t5] at hR
        subst hR
        have e5 : decide (c = 2) = true := decide_eq_true t5
        rw [e5]
        clear e5 t5
        go_wp2
        go_ret
        exact ⟨rfl, by repeat (first | exact zau.refl _ | apply zau.step)⟩
       rw [if_neg t5] at hR
       have e5 : decide (c = 2) = false := decide_eq_false t5
       rw [e5]
       clear e5 t5 HR; have HR := zab.mk hR; clear hR
       go_upto_region 13 with (fail)
       go_cut [70] (fun v wc => v = .bool (decide ((1536 ≤ p ∧ p ≤ 1567) ∧ bind = true)) ∧ zau w wc)
       case first =>
        go_wp2_with (fail)
        refine (zaq.calls p 1536 1567 (decide (1536 ≤ p ∧ p ≤ 1567)) _ (in_dec p 1536 1567)).mono ?_
        rintro e w4 ⟨rfl, ⟨m4, rfl⟩⟩
        by_cases b1 : 1536 ≤ p ∧ p ≤ 1567
        ·have e1 : decide (1536 ≤ p ∧ p ≤ 1567) = true := decide_eq_true b1
         have e2 : decide ((1536 ≤ p ∧ p ≤ 1567) ∧ bind = true) = bind := by rw [Bool.eq_iff_iff, decide_eq_true_iff]; exact ⟨fun h => h.2, fun h => ⟨b1, h⟩⟩
         have E2 := zab.mk e2; clear e2 b1
         rw [e1]
         go_wp2
         go_meet
         case rel => exact ⟨by first | rw [E2.out] | (rw [E2.out]; rfl), by repeat (first | exact zau.refl _ | apply zau.step)⟩
        have e1 : decide (1536 ≤ p ∧ p ≤ 1567) = false := decide_eq_false b1
        have e2 : decide ((1536 ≤ p ∧ p ≤ 1567) ∧ bind = true) = false := decide_eq_false (fun h => b1 h.1)
        have E2 := zab.mk e2; clear e2 b1
        rw [e1]
        go_wp2
        go_meet
        case rel => exact ⟨by first | rw [E2.out] | (rw [E2.out]; rfl), by repeat (first | exact zau.refl _ | apply zau.step)⟩
       case rest =>
        obtain ⟨rfl, ⟨m6, rfl⟩⟩ := hcut
        have hR := HR.out
        by_cases t6 : (1536 ≤ p ∧ p ≤ 1567) ∧ bind = true
        ·rw [if_pos t6] at hR
         subst hR
         have e6 : decide ((1536 ≤ p ∧ p ≤ 1567) ∧ bind = true) = true := decide_eq_true t6
         rw [e6]
         clear e6 t6
         go_wp2
         go_ret
         exact ⟨rfl, by repeat (first | exact zau.refl _ | apply zau.step)⟩
        rw [if_neg t6] at hR
        have e6 : decide ((1536 ≤ p ∧ p ≤ 1567) ∧ bind = true) = false := decide_eq_false t6
        rw [e6]
        clear e6 t6 HR; have HR := zab.mk hR; clear hR
        go_upto_region 15 with (fail)
        go_cut [76] (fun v wc => v = .bool (decide (q = 7936 ∧ c = 8 ∧ picture = true)) ∧ zau w wc)
        case first =>
         go_wp2
         all_goals
          go_meet
          case rel => exact ⟨by first | (simp [*]; done) | (congr 1; rw [Bool.eq_iff_iff]; simp [*]; done) | (congr 1; done) | (congr 1; rw [Bool.eq_iff_iff]; simp [*]; omega), by repeat (first | exact zau.refl _ | apply zau.step)⟩
        case rest =>
         obtain ⟨rfl, ⟨m7, rfl⟩⟩ := hcut
         have hR := HR.out
         by_cases t7 : q = 7936 ∧ c = 8 ∧ picture = true
         ·rw [if_pos t7] at hR
          subst hR
          have e7 : decide (q = 7936 ∧ c = 8 ∧ picture = true) = true := decide_eq_true t7
          rw [e7]
          clear e7 t7
          go_wp2
          go_ret
          exact ⟨rfl, by repeat (first | exact zau.refl _ | apply zau.step)⟩
         rw [if_neg t7] at hR
         have e7 : decide (q = 7936 ∧ c = 8 ∧ picture = true) = false := decide_eq_false t7
         rw [e7]
         clear e7 t7 HR; have HR := zab.mk hR; clear hR
         go_upto_region 17 with (fail)
         go_cut [86] (fun v wc => v = .bool (decide (c = 9 ∧ d = 9 ∧ Int.tmod flags 2 = 1)) ∧ zau w wc)
         case first =>
          go_wp2
          all_goals
           go_meet
           case rel => exact ⟨by first | (simp [*]; done) | (congr 1; rw [Bool.eq_iff_iff]; simp [*]; done) | (congr 1; done) | (congr 1; rw [Bool.eq_iff_iff]; simp [*]; omega), by repeat (first | exact zau.refl _ | apply zau.step)⟩
         case rest =>
          obtain ⟨rfl, ⟨m8, rfl⟩⟩ := hcut
          have hR := HR.out
          by_cases t8 : c = 9 ∧ d = 9 ∧ Int.tmod flags 2 = 1
          ·rw [if_pos t8] at hR
           subst hR
           have e8 : decide (c = 9 ∧ d = 9 ∧ Int.tmod flags 2 = 1) = true := decide_eq_true t8
           rw [e8]
           clear e8 t8
           go_wp2
           go_ret
           exact ⟨rfl, by repeat (first | exact zau.refl _ | apply zau.step)⟩
          rw [if_neg t8] at hR
          have e8 : decide (c = 9 ∧ d = 9 ∧ Int.tmod flags 2 = 1) = false := decide_eq_false t8
          rw [e8]
          clear e8 t8 HR; have HR := zab.mk hR; clear hR
          obtain rfl := HR.out
          go_wp2
          go_ret
          exact ⟨rfl, by repeat (first | exact zau.refl _ | apply zau.step)⟩
end Go.Proofs.YtbppeepihlajoaaDoor.P
