/- The closure of impl.lines comes to a plain test. -/
import Derived.Test.YtbppeepihlajoaaDoorL0
namespace Go.Proofs.YtbppeepihlajoaaDoor.P
open Go.RowKit Go.Proofs.YtbppeepihlajoaaDoorW.PrintWords Go.Proofs.YtbppeepihlajoaaDoorW.PrintLast Go.Proofs.YtbppeepihlajoaaDoorW.PrintMore
set_option linter.unusedVariables false
set_option linter.unusedSimpArgs false
def lnB (tk ch : Bool) (q p c d : Int) (gap opn dp : Bool) (flags : Int) : Bool × Bool := if tk = true ∨ ch = false then (false, false) else if q = 10 ∨ (q = 13 ∧ p ≠ 10) then (true, true) else if c = 1 then (false, false) else if c = 2 ∨ c = 4 then (false, false) else if gap = true then (true, false) else if q = 7936 then (false, false) else if d = 3 then (false, false) else if (c = 3 ∧ d ≠ 2) ∧ d ≠ 5 then (false, false) else if c = 7 ∨ c = 13 then (false, false) else if c = 5 ∧ d ≠ 2 then (false, false) else if opn = true then (false, false) else if d = 2 then (true, false) else if d = 8 ∨ c = 8 then (false, false) else if d = 5 then (!(c == 9), false) else if (d = 0 ∨ d = 9) ∧ (c = 0 ∨ c = 9) then (false, false) else if d = 11 ∧ c = 11 then (false, false) else if dp = true ∧ c = 9 then (false, false) else if (d = 12 ∧ c = 12) ∧ Int.tmod flags 2 = 1 then (false, false) else (true, false)
set_option maxHeartbeats 8000000 in
set_option maxRecDepth 100000 in
theorem ln_calls (aT aI aC aq ap ac ag ad ao ae af gT gC cT cC n i : Nat) (tk ch : Bool) (q p c d : Int) (gap opn dp : Bool) (flags : Int) (w : World) (hi : i < n)
  (hT : w.cell? ⟨aT, 0, none⟩ = some (.slice (some ⟨gT, 0, none⟩) n cT)) (hI : w.cell? ⟨aI, 0, none⟩ = some (.int .i64 i)) (hC : w.cell? ⟨aC, 0, none⟩ = some (.slice (some ⟨gC, 0, none⟩) n cC))
  (hq : w.cell? ⟨aq, 0, none⟩ = some (.int .i64 q)) (hp : w.cell? ⟨ap, 0, none⟩ = some (.int .i64 p)) (hc : w.cell? ⟨ac, 0, none⟩ = some (.int .i64 c)) (hg : w.cell? ⟨ag, 0, none⟩ = some (.bool gap)) (hd : w.cell? ⟨ad, 0, none⟩ = some (.int .i64 d)) (ho : w.cell? ⟨ao, 0, none⟩ = some (.bool opn)) (he : w.cell? ⟨ae, 0, none⟩ = some (.bool dp)) (hf : w.cell? ⟨af, 0, none⟩ = some (.int .i64 flags))
  (h1 : w.cell? ⟨gT, i, none⟩ = some (.bool tk)) (h2 : w.cell? ⟨gC, i, none⟩ = some (.bool ch)) :
  Calls Tryd.prog 124 #[.pointer (some ⟨aT, 0, none⟩), .pointer (some ⟨aI, 0, none⟩), .pointer (some ⟨aC, 0, none⟩), .pointer (some ⟨aq, 0, none⟩), .pointer (some ⟨ap, 0, none⟩), .pointer (some ⟨ac, 0, none⟩), .pointer (some ⟨ag, 0, none⟩), .pointer (some ⟨ad, 0, none⟩), .pointer (some ⟨ao, 0, none⟩), .pointer (some ⟨ae, 0, none⟩), .pointer (some ⟨af, 0, none⟩)] w fun e w' => e = .returned (.tuple #[.bool (lnB tk ch q p c d gap opn dp flags).1, .bool (lnB tk ch q p c d gap opn dp flags).2]) ∧ w' = w := by
 obtain ⟨R1, R2, hR⟩ : ∃ R1 R2, lnB tk ch q p c d gap opn dp flags = (R1, R2) := ⟨_, _, rfl⟩
 rw [hR]
 show Calls _ _ _ _ fun e w' => e = .returned (.tuple #[.bool R1, .bool R2]) ∧ w' = w
 unfold lnB at hR
 have HR := zab.mk hR; clear hR
 go_enter Tryd.func124, Tryd.ntmps124
 go_upto_region 1 with (fail)
 go_cut [13] (fun v wc => v = .bool (decide (tk = true ∨ ch = false)) ∧ w = wc)
 case first =>
  go_wp2
  all_goals
   go_meet
   case rel => exact ⟨by first | (simp [*]; done) | (congr 1; rw [Bool.eq_iff_iff]; simp [*]; done) | (congr 1; done) | (congr 1; rw [Bool.eq_iff_iff]; simp [*]; omega), rfl⟩
 case rest =>
  obtain ⟨rfl, rfl⟩ := hcut
  have hR := HR.out
  by_cases t0 : tk = true ∨ ch = false
  ·rw [if_pos t0] at hR
   cases hR
   have e0 : decide (tk = true ∨ ch = false) = true := decide_eq_true t0
   rw [e0]
   clear e0 t0
   go_wp2
   go_ret2
   exact ⟨rfl, rfl⟩
  rw [if_neg t0] at hR
  have e0 : decide (tk = true ∨ ch = false) = false := decide_eq_false t0
  rw [e0]
  clear e0 t0 HR; have HR := zab.mk hR; clear hR
  go_upto_region 3 with (fail)
  go_cut [25] (fun v wc => v = .bool (decide (q = 10 ∨ (q = 13 ∧ p ≠ 10))) ∧ w = wc)
  case first =>
   go_wp2
   all_goals
    go_meet
    case rel => exact ⟨by first | (simp [*]; done) | (congr 1; rw [Bool.eq_iff_iff]; simp [*]; done) | (congr 1; done) | (congr 1; rw [Bool.eq_iff_iff]; simp [*]; omega), rfl⟩
  case rest =>
   obtain ⟨rfl, rfl⟩ := hcut
   have hR := HR.out
   by_cases t1 : q = 10 ∨ (q = 13 ∧ p ≠ 10)
   ·rw [if_pos t1] at hR
    cases hR
    have e1 : decide (q = 10 ∨ (q = 13 ∧ p ≠ 10)) = true := decide_eq_true t1
    rw [e1]
    clear e1 t1
    go_wp2
    go_ret2
    exact ⟨rfl, rfl⟩
   rw [if_neg t1] at hR
   have e1 : decide (q = 10 ∨ (q = 13 ∧ p ≠ 10)) = false := decide_eq_false t1
   rw [e1]
   clear e1 t1 HR; have HR := zab.mk hR; clear hR
   go_upto_region 5 with (fail)
   go_cut [36] (fun v wc => v = .bool (decide (c = 1)) ∧ w = wc)
   case first =>
    go_wp2
    all_goals
     go_meet
     case rel => exact ⟨by first | (simp [*]; done) | (congr 1; rw [Bool.eq_iff_iff]; simp [*]; done) | (congr 1; done) | (congr 1; rw [Bool.eq_iff_iff]; simp [*]; omega), rfl⟩
   case rest =>
    obtain ⟨rfl, rfl⟩ := hcut
    have hR := HR.out
    by_cases t2 : c = 1
    ·rw [if_pos t2] at hR
     cases hR
     have e2 : decide (c = 1) = true := decide_eq_true t2
     rw [e2]
     clear e2 t2
     go_wp2
     go_ret2
     exact ⟨rfl, rfl⟩
    rw [if_neg t2] at hR
    have e2 : decide (c = 1) = false := decide_eq_false t2
    rw [e2]
    clear e2 t2 HR; have HR := zab.mk hR; clear hR
    go_upto_region 7 with (fail)
    go_cut [39] (fun v wc => v = .bool (decide (c = 2 ∨ c = 4)) ∧ w = wc)
    case first =>
     go_wp2
     all_goals
      go_meet
      case rel => exact ⟨by first | (simp [*]; done) | (congr 1; rw [Bool.eq_iff_iff]; simp [*]; done) | (congr 1; done) | (congr 1; rw [Bool.eq_iff_iff]; simp [*]; omega), rfl⟩
    case rest =>
     obtain ⟨rfl, rfl⟩ := hcut
     have hR := HR.out
     by_cases t3 : c = 2 ∨ c = 4
     ·rw [if_pos t3] at hR
      cases hR
      have e3 : decide (c = 2 ∨ c = 4) = true := decide_eq_true t3
      rw [e3]
      clear e3 t3
      go_wp2
      go_ret2
      exact ⟨rfl, rfl⟩
     rw [if_neg t3] at hR
     have e3 : decide (c = 2 ∨ c = 4) = false := decide_eq_false t3
     rw [e3]
     clear e3 t3 HR; have HR := zab.mk hR; clear hR
     go_upto_region 9 with (fail)
     go_cut [46] (fun v wc => v = .bool (decide (gap = true)) ∧ w = wc)
     case first =>
      go_wp2
      all_goals
       go_meet
       case rel => exact ⟨by first | (simp [*]; done) | (congr 1; rw [Bool.eq_iff_iff]; simp [*]; done) | (congr 1; done) | (congr 1; rw [Bool.eq_iff_iff]; simp [*]; omega), rfl⟩
     case rest =>
      obtain ⟨rfl, rfl⟩ := hcut
      have hR := HR.out
      by_cases t4 : gap = true
      ·rw [if_pos t4] at hR
       cases hR
       have e4 : decide (gap = true) = true := decide_eq_true t4
       rw [e4]
       clear e4 t4
       go_wp2
       go_ret2
       exact ⟨rfl, rfl⟩
      rw [if_neg t4] at hR
      have e4 : decide (gap = true) = false := decide_eq_false t4
      rw [e4]
      clear e4 t4 HR; have HR := zab.mk hR; clear hR
      go_upto_region 11 with (fail)
      go_cut [48] (fun v wc => v = .bool (decide (q = 7936)) ∧ w = wc)
      case first =>
       go_wp2
       all_goals
        go_meet
        case rel => exact ⟨by first | (simp [*]; done) | (congr 1; rw [Bool.eq_iff_iff]; simp [*]; done) | (congr 1; done) | (congr 1; rw [Bool.eq_iff_iff]; simp [*]; omega), rfl⟩
      case rest =>
       obtain ⟨rfl, rfl⟩ := hcut
       have hR := HR.out
       by_cases t5 : q = 7936
       ·rw [if_pos t5] at hR
        cases hR
        have e5 : decide (q = 7936) = true := decide_eq_true t5
        rw [e5]
        clear e5 t5
        go_wp2
        go_ret2
        exact ⟨rfl, rfl⟩
       rw [if_neg t5] at hR
       have e5 : decide (q = 7936) = false := decide_eq_false t5
       rw [e5]
       clear e5 t5 HR; have HR := zab.mk hR; clear hR
       go_upto_region 13 with (fail)
       go_cut [51] (fun v wc => v = .bool (decide (d = 3)) ∧ w = wc)
       case first =>
        go_wp2
        all_goals
         go_meet
         case rel => exact ⟨by first | (simp [*]; done) | (congr 1; rw [Bool.eq_iff_iff]; simp [*]; done) | (congr 1; done) | (congr 1; rw [Bool.eq_iff_iff]; simp [*]; omega), rfl⟩
       case rest =>
        obtain ⟨rfl, rfl⟩ := hcut
        have hR := HR.out
        by_cases t6 : d = 3
        ·rw [if_pos t6] at hR
         cases hR
         have e6 : decide (d = 3) = true := decide_eq_true t6
         rw [e6]
         clear e6 t6
         go_wp2
         go_ret2
         exact ⟨rfl, rfl⟩
        rw [if_neg t6] at hR
        have e6 : decide (d = 3) = false := decide_eq_false t6
        rw [e6]
        clear e6 t6 HR; have HR := zab.mk hR; clear hR
        go_upto_region 15 with (fail)
        go_cut [54] (fun v wc => v = .bool (decide ((c = 3 ∧ d ≠ 2) ∧ d ≠ 5)) ∧ w = wc)
        case first =>
         go_wp2
         all_goals
          go_meet
          case rel => exact ⟨by first | (simp [*]; done) | (congr 1; rw [Bool.eq_iff_iff]; simp [*]; done) | (congr 1; done) | (congr 1; rw [Bool.eq_iff_iff]; simp [*]; omega), rfl⟩
        case rest =>
         obtain ⟨rfl, rfl⟩ := hcut
         have hR := HR.out
         by_cases t7 : (c = 3 ∧ d ≠ 2) ∧ d ≠ 5
         ·rw [if_pos t7] at hR
          cases hR
          have e7 : decide ((c = 3 ∧ d ≠ 2) ∧ d ≠ 5) = true := decide_eq_true t7
          rw [e7]
          clear e7 t7
          go_wp2
          go_ret2
          exact ⟨rfl, rfl⟩
         rw [if_neg t7] at hR
         have e7 : decide ((c = 3 ∧ d ≠ 2) ∧ d ≠ 5) = false := decide_eq_false t7
         rw [e7]
         clear e7 t7 HR; have HR := zab.mk hR; clear hR
         go_upto_region 17 with (fail)
         go_cut [65] (fun v wc => v = .bool (decide (c = 7 ∨ c = 13)) ∧ w = wc)
         case first =>
          go_wp2
          all_goals
           go_meet
           case rel => exact ⟨by first | (simp [*]; done) | (congr 1; rw [Bool.eq_iff_iff]; simp [*]; done) | (congr 1; done) | (congr 1; rw [Bool.eq_iff_iff]; simp [*]; omega), rfl⟩
         case rest =>
          obtain ⟨rfl, rfl⟩ := hcut
          have hR := HR.out
          by_cases t8 : c = 7 ∨ c = 13
          ·rw [if_pos t8] at hR
           cases hR
           have e8 : decide (c = 7 ∨ c = 13) = true := decide_eq_true t8
           rw [e8]
           clear e8 t8
           go_wp2
           go_ret2
           exact ⟨rfl, rfl⟩
          rw [if_neg t8] at hR
          have e8 : decide (c = 7 ∨ c = 13) = false := decide_eq_false t8
          rw [e8]
          clear e8 t8 HR; have HR := zab.mk hR; clear hR
          go_upto_region 19 with (fail)
          go_cut [72] (fun v wc => v = .bool (decide (c = 5 ∧ d ≠ 2)) ∧ w = wc)
          case first =>
           go_wp2
           all_goals
            go_meet
            case rel => exact ⟨by first | (simp [*]; done) | (congr 1; rw [Bool.eq_iff_iff]; simp [*]; done) | (congr 1; done) | (congr 1; rw [Bool.eq_iff_iff]; simp [*]; omega), rfl⟩
          case rest =>
           obtain ⟨rfl, rfl⟩ := hcut
           have hR := HR.out
           by_cases t9 : c = 5 ∧ d ≠ 2
           ·rw [if_pos t9] at hR
            cases hR
            have e9 : decide (c = 5 ∧ d ≠ 2) = true := decide_eq_true t9
            rw [e9]
            clear e9 t9
            go_wp2
            go_ret2
            exact ⟨rfl, rfl⟩
           rw [if_neg t9] at hR
           have e9 : decide (c = 5 ∧ d ≠ 2) = false := decide_eq_false t9
           rw [e9]
           clear e9 t9 HR; have HR := zab.mk hR; clear hR
           go_upto_region 21 with (fail)
           go_cut [79] (fun v wc => v = .bool (decide (opn = true)) ∧ w = wc)
           case first =>
            go_wp2
            all_goals
             go_meet
             case rel => exact ⟨by first | (simp [*]; done) | (congr 1; rw [Bool.eq_iff_iff]; simp [*]; done) | (congr 1; done) | (congr 1; rw [Bool.eq_iff_iff]; simp [*]; omega), rfl⟩
           case rest =>
            obtain ⟨rfl, rfl⟩ := hcut
            have hR := HR.out
            by_cases t10 : opn = true
            ·rw [if_pos t10] at hR
             cases hR
             have e10 : decide (opn = true) = true := decide_eq_true t10
             rw [e10]
             clear e10 t10
             go_wp2
             go_ret2
             exact ⟨rfl, rfl⟩
            rw [if_neg t10] at hR
            have e10 : decide (opn = true) = false := decide_eq_false t10
            rw [e10]
            clear e10 t10 HR; have HR := zab.mk hR; clear hR
            go_upto_region 23 with (fail)
            go_cut [81] (fun v wc => v = .bool (decide (d = 2)) ∧ w = wc)
            case first =>
             go_wp2
             all_goals
              go_meet
              case rel => exact ⟨by first | (simp [*]; done) | (congr 1; rw [Bool.eq_iff_iff]; simp [*]; done) | (congr 1; done) | (congr 1; rw [Bool.eq_iff_iff]; simp [*]; omega), rfl⟩
            case rest =>
             obtain ⟨rfl, rfl⟩ := hcut
             have hR := HR.out
             by_cases t11 : d = 2
             ·rw [if_pos t11] at hR
              cases hR
              have e11 : decide (d = 2) = true := decide_eq_true t11
              rw [e11]
              clear e11 t11
              go_wp2
              go_ret2
              exact ⟨rfl, rfl⟩
             rw [if_neg t11] at hR
             have e11 : decide (d = 2) = false := decide_eq_false t11
             rw [e11]
             clear e11 t11 HR; have HR := zab.mk hR; clear hR
             go_upto_region 25 with (fail)
             go_cut [84] (fun v wc => v = .bool (decide (d = 8 ∨ c = 8)) ∧ w = wc)
             case first =>
              go_wp2
              all_goals
               go_meet
               case rel => exact ⟨by first | (simp [*]; done) | (congr 1; rw [Bool.eq_iff_iff]; simp [*]; done) | (congr 1; done) | (congr 1; rw [Bool.eq_iff_iff]; simp [*]; omega), rfl⟩
             case rest =>
              obtain ⟨rfl, rfl⟩ := hcut
              have hR := HR.out
              by_cases t12 : d = 8 ∨ c = 8
              ·rw [if_pos t12] at hR
               cases hR
               have e12 : decide (d = 8 ∨ c = 8) = true := decide_eq_true t12
               rw [e12]
               clear e12 t12
               go_wp2
               go_ret2
               exact ⟨rfl, rfl⟩
              rw [if_neg t12] at hR
              have e12 : decide (d = 8 ∨ c = 8) = false := decide_eq_false t12
              rw [e12]
              clear e12 t12 HR; have HR := zab.mk hR; clear hR
              go_upto_region 27 with (fail)
              go_cut [91] (fun v wc => v = .bool (decide (d = 5)) ∧ w = wc)
              case first =>
               go_wp2
               all_goals
                go_meet
                case rel => exact ⟨by first | (simp [*]; done) | (congr 1; rw [Bool.eq_iff_iff]; simp [*]; done) | (congr 1; done) | (congr 1; rw [Bool.eq_iff_iff]; simp [*]; omega), rfl⟩
              case rest =>
               obtain ⟨rfl, rfl⟩ := hcut
               have hR := HR.out
               by_cases t13 : d = 5
               ·rw [if_pos t13] at hR
                cases hR
                have e13 : decide (d = 5) = true := decide_eq_true t13
                rw [e13]
                clear e13 t13
                go_wp2
                go_ret2
                exact ⟨by first | rfl | (simp; done) | (congr 3; simp [bne]), rfl⟩
               rw [if_neg t13] at hR
               have e13 : decide (d = 5) = false := decide_eq_false t13
               rw [e13]
               clear e13 t13 HR; have HR := zab.mk hR; clear hR
               go_upto_region 29 with (fail)
               go_cut [96] (fun v wc => v = .bool (decide ((d = 0 ∨ d = 9) ∧ (c = 0 ∨ c = 9))) ∧ w = wc)
               case first =>
                go_wp2
                all_goals
                 go_meet
                 case rel => exact ⟨by first | (simp [*]; done) | (congr 1; rw [Bool.eq_iff_iff]; simp [*]; done) | (congr 1; done) | (congr 1; rw [Bool.eq_iff_iff]; simp [*]; omega), rfl⟩
               case rest =>
                obtain ⟨rfl, rfl⟩ := hcut
                have hR := HR.out
                by_cases t14 : (d = 0 ∨ d = 9) ∧ (c = 0 ∨ c = 9)
                ·rw [if_pos t14] at hR
                 cases hR
                 have e14 : decide ((d = 0 ∨ d = 9) ∧ (c = 0 ∨ c = 9)) = true := decide_eq_true t14
                 rw [e14]
                 clear e14 t14
                 go_wp2
                 go_ret2
                 exact ⟨rfl, rfl⟩
                rw [if_neg t14] at hR
                have e14 : decide ((d = 0 ∨ d = 9) ∧ (c = 0 ∨ c = 9)) = false := decide_eq_false t14
                rw [e14]
                clear e14 t14 HR; have HR := zab.mk hR; clear hR
                go_upto_region 30 with (fail)
                go_cut [96] (fun v wc => v = .bool (decide (d = 11 ∧ c = 11)) ∧ w = wc)
                case first =>
                 go_wp2
                 all_goals
                  go_meet
                  case rel => exact ⟨by first | (simp [*]; done) | (congr 1; rw [Bool.eq_iff_iff]; simp [*]; done) | (congr 1; done) | (congr 1; rw [Bool.eq_iff_iff]; simp [*]; omega), rfl⟩
                case rest =>
                 obtain ⟨rfl, rfl⟩ := hcut
                 have hR := HR.out
                 by_cases t15 : d = 11 ∧ c = 11
                 ·rw [if_pos t15] at hR
                  cases hR
                  have e15 : decide (d = 11 ∧ c = 11) = true := decide_eq_true t15
                  rw [e15]
                  clear e15 t15
                  go_wp2
                  go_ret2
                  exact ⟨rfl, rfl⟩
                 rw [if_neg t15] at hR
                 have e15 : decide (d = 11 ∧ c = 11) = false := decide_eq_false t15
                 rw [e15]
                 clear e15 t15 HR; have HR := zab.mk hR; clear hR
                 go_upto_region 32 with (fail)
                 go_cut [117] (fun v wc => v = .bool (decide (dp = true ∧ c = 9)) ∧ w = wc)
                 case first =>
                  go_wp2
                  all_goals
                   go_meet
                   case rel => exact ⟨by first | (simp [*]; done) | (congr 1; rw [Bool.eq_iff_iff]; simp [*]; done) | (congr 1; done) | (congr 1; rw [Bool.eq_iff_iff]; simp [*]; omega), rfl⟩
                 case rest =>
                  obtain ⟨rfl, rfl⟩ := hcut
                  have hR := HR.out
                  by_cases t16 : dp = true ∧ c = 9
                  ·rw [if_pos t16] at hR
                   cases hR
                   have e16 : decide (dp = true ∧ c = 9) = true := decide_eq_true t16
                   rw [e16]
                   clear e16 t16
                   go_wp2
                   go_ret2
                   exact ⟨rfl, rfl⟩
                  rw [if_neg t16] at hR
                  have e16 : decide (dp = true ∧ c = 9) = false := decide_eq_false t16
                  rw [e16]
                  clear e16 t16 HR; have HR := zab.mk hR; clear hR
                  go_upto_region 34 with (fail)
                  go_cut [123] (fun v wc => v = .bool (decide ((d = 12 ∧ c = 12) ∧ Int.tmod flags 2 = 1)) ∧ w = wc)
                  case first =>
                   go_wp2
                   all_goals
                    go_meet
                    case rel => exact ⟨by first | (simp [*]; done) | (congr 1; rw [Bool.eq_iff_iff]; simp [*]; done) | (congr 1; done) | (congr 1; rw [Bool.eq_iff_iff]; simp [*]; omega), rfl⟩
                  case rest =>
                   obtain ⟨rfl, rfl⟩ := hcut
                   have hR := HR.out
                   by_cases t17 : (d = 12 ∧ c = 12) ∧ Int.tmod flags 2 = 1
                   ·rw [if_pos t17] at hR
                    cases hR
                    have e17 : decide ((d = 12 ∧ c = 12) ∧ Int.tmod flags 2 = 1) = true := decide_eq_true t17
                    rw [e17]
                    clear e17 t17
                    go_wp2
                    go_ret2
                    exact ⟨rfl, rfl⟩
                   rw [if_neg t17] at hR
                   have e17 : decide ((d = 12 ∧ c = 12) ∧ Int.tmod flags 2 = 1) = false := decide_eq_false t17
                   rw [e17]
                   clear e17 t17 HR; have HR := zab.mk hR; clear hR
                   cases HR.out
                   go_wp2
                   go_ret2
                   exact ⟨rfl, rfl⟩
end Go.Proofs.YtbppeepihlajoaaDoor.P
