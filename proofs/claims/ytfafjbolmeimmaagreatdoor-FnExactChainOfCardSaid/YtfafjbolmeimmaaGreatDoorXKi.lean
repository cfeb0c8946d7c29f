/- impl.kind, walked: a point's category and script as nested tests. -/
import Derived.Test.YtfafjbolmeimmaaGreatDoorAb
import Derived.Test.YtfafjbolmeimmaaGreatDoorF5
import Derived.Test.YtfafjbolmeimmaaGreatDoorF8
namespace Go.Proofs.YtfafjbolmeimmaaGreatDoor.P
open Go.RowKit Go.Proofs.YtfafjbolmeimmaaGreatDoorW.PrintWords Go.Proofs.YtfafjbolmeimmaaGreatDoorW.PrintLast Go.Proofs.YtfafjbolmeimmaaGreatDoorW.PrintMore
set_option linter.unusedVariables false
set_option linter.unusedSimpArgs false
def kindP (p : Int) : Int × Int := if 512 ≤ p ∧ p < 1280 then (if p % 256 < 32 ∨ (64 ≤ p % 256 ∧ p % 256 ≤ 67) then (4, (p - p % 256) / 256) else if p % 256 < 64 ∨ (72 ≤ p % 256 ∧ p % 256 ≤ 75) ∨ (96 ≤ p % 256 ∧ p % 256 ≤ 97) then (5, (p - p % 256) / 256) else if 68 ≤ p % 256 ∧ p % 256 ≤ 71 then (6, (p - p % 256) / 256) else if 80 ≤ p % 256 ∧ p % 256 ≤ 89 then (8, (p - p % 256) / 256) else (0, 0)) else if (0 ≤ p ∧ p ≤ 31) ∨ (127 ≤ p ∧ p ≤ 159) then (1, 0) else if p = 32 ∨ p = 160 ∨ p = 8064 then (2, 0) else if (48 ≤ p ∧ p ≤ 57) then (8, 0) else if (65 ≤ p ∧ p ≤ 90) then (4, 1) else if (97 ≤ p ∧ p ≤ 122) then (5, 1) else if (33 ≤ p ∧ p ≤ 126) then (9, 0) else if p = 173 then (11, 0) else if (161 ≤ p ∧ p ≤ 191) then (10, 0) else if (1280 ≤ p ∧ p ≤ 1311) then (7, 5) else if (1360 ≤ p ∧ p ≤ 1369) then (8, 5) else if (1536 ≤ p ∧ p ≤ 1567) then (7, 6) else if (1568 ≤ p ∧ p ≤ 1579) ∨ p = 1584 ∨ p = 1585 then (3, 6) else if (1616 ≤ p ∧ p ≤ 1625) then (8, 6) else if (1792 ≤ p ∧ p ≤ 1810) ∨ (1824 ≤ p ∧ p ≤ 1844) ∨ (1857 ≤ p ∧ p ≤ 1883) ∨ (12288 ≤ p ∧ p ≤ 23459) then (7, 7) else if (2048 ≤ p ∧ p ≤ 2095) then (7, 8) else if (4096 ≤ p ∧ p ≤ 4159) then (3, 0) else if (7680 ≤ p ∧ p ≤ 7748) ∨ (7760 ≤ p ∧ p ≤ 7785) then (10, 0) else if (7936 ≤ p ∧ p ≤ 7947) ∨ p = 7953 ∨ p = 7954 then (11, 0) else if (8192 ≤ p ∧ p ≤ 9631) ∧ (p - 8192) % 512 < 416 then (if (p - 8192) % 512 < 208 then (4, 1) else (5, 1)) else if (9728 ≤ p ∧ p ≤ 9753) then (4, 1) else if (9984 ≤ p ∧ p ≤ 10009) ∨ (10032 ≤ p ∧ p ≤ 10035) then (10, 0) else if (10016 ≤ p ∧ p ≤ 10025) then (8, 0) else if (24576 ≤ p ∧ p ≤ 26623) then (7, 9) else (0, 0)
theorem in_f (p a b : Int) : impl_in.f p a b = some (decide (a ≤ p ∧ p ≤ b)) := by
 unfold impl_in.f
 by_cases h : p ≥ a
 ·rw [if_pos h]; congr 1; exact decide_eq_decide.2 ⟨fun h2 => ⟨h, h2⟩, fun h2 => h2.2⟩
 rw [if_neg h, decide_eq_false (fun h2 => h h2.1)]
theorem in_calls (p a b : Int) (w : World) : Calls Tryz.prog 127 #[.int .i64 p, .int .i64 a, .int .i64 b] w fun e w' => e = .returned (.bool (decide (a ≤ p ∧ p ≤ b))) ∧ zas w w' := impl_in.calls p a b _ w (in_f p a b)
theorem blk_bits : ∀ m : Nat, m < 768 → Go.bits .andNot .i64 ((512 + m : Nat) : Int) 255 = ((512 + m : Nat) : Int) - ((512 + m : Nat) : Int) % 256 ∧ Go.bits .and .i64 ((512 + m : Nat) : Int) 255 = ((512 + m : Nat) : Int) % 256 := by decide +kernel
theorem block_in (p : Int) (h : 512 ≤ p ∧ p < 1280) : impl_block.f p = some (p - p % 256, p % 256) := by
 unfold impl_block.f
 rw [if_pos h.1, if_pos h.2]
 obtain ⟨h1, h2⟩ := blk_bits (p - 512).toNat yq9
 have e : ((512 + (p - 512).toNat : Nat) : Int) = p := by omega
 rw [e] at h1 h2
 rw [h1, h2]
theorem block_out (p : Int) (h : ¬ (512 ≤ p ∧ p < 1280)) : impl_block.f p = some (0, 0) := by
 unfold impl_block.f
 by_cases h1 : p ≥ 512
 ·rw [if_pos h1, if_neg (fun h2 => h ⟨h1, h2⟩)]
 rw [if_neg h1]
theorem kend {v1 v2 : Value} {c s p : Int} (h1 : v1 = .int .i64 c) (h2 : v2 = .int .i64 s) (hk : kindP p = (c, s)) : Ending.returned (.tuple #[v1, v2]) = Ending.returned (.tuple #[.int .i64 (kindP p).1, .int .i64 (kindP p).2]) := by rw [h1, h2, hk]
def impl_kind.f (_k : Nat) (a0 : Int) : Option (Int × Int) := some (kindP a0)
set_option maxHeartbeats 8000000 in
set_option maxRecDepth 100000 in
theorem kind_calls (p : Int) (w : World) : Calls Tryz.prog 104 #[.int .i64 p] w fun e w' => e = .returned (.tuple #[.int .i64 (kindP p).1, .int .i64 (kindP p).2]) ∧ zas w w' := by
 by_cases hb : 512 ≤ p ∧ p < 1280
 ·have HB := zaa.mk (block_in p hb)
  go_enter Tryz.func104, Tryz.ntmps104
  go_wp2_with (first | (go_at_call 126; (with_reducible refine (impl_block.calls p _ _ _ HB.out).mono ?_); rintro e w1 ⟨rfl, ⟨nd, rfl⟩⟩) | (go_at_call 127; (with_reducible refine (in_calls _ _ _ _).mono ?_); rintro e w1 ⟨rfl, ⟨nd, rfl⟩⟩))
  all_goals (first | go_ret2 | go_ret)
  all_goals exact ⟨kend rfl rfl (by (try simp only [beq_iff_eq, beq_eq_false_iff_ne, ne_eq] at *); unfold kindP; repeat (first | rw [if_pos yq9] | rw [if_neg yq9])), yq11⟩
 have HB := zaa.mk (block_out p hb)
 go_enter Tryz.func104, Tryz.ntmps104
 go_wp2_with (first | (go_at_call 126; (with_reducible refine (impl_block.calls p _ _ _ HB.out).mono ?_); rintro e w1 ⟨rfl, ⟨nd, rfl⟩⟩) | (go_at_call 127; (with_reducible refine (in_calls _ _ _ _).mono ?_); rintro e w1 ⟨rfl, ⟨nd, rfl⟩⟩))
 all_goals (first | go_ret2 | go_ret)
 all_goals exact ⟨kend rfl rfl (by (try simp only [beq_iff_eq, beq_eq_false_iff_ne, ne_eq] at *); unfold kindP; repeat (first | rw [if_pos yq9] | rw [if_neg yq9])), yq11⟩
theorem impl_kind.calls (k : Nat) (a0 : Int) (r1 r2 : Int) (w : World) (h : impl_kind.f k a0 = some (r1, r2)) : Calls Tryz.prog 104 #[.int .i64 a0] w fun e w' => e = .returned (.tuple #[.int .i64 r1, .int .i64 r2]) ∧ zas w w' := by
 have h1 : kindP a0 = (r1, r2) := Option.some.inj h
 have e1 : r1 = (kindP a0).1 := by rw [h1]
 have e2 : r2 = (kindP a0).2 := by rw [h1]
 rw [e1, e2]
 exact kind_calls a0 w
end Go.Proofs.YtfafjbolmeimmaaGreatDoor.P
