/- Parts of a proof: words of the print tool that this claim uses, or plain lists. -/
import Derived.Test.YtfafjbolmeimmaaGreatDoorAb
import Derived.Test.YtfafjbolmeimmaaGreatDoorF7
import Derived.Test.YtfafjbolmeimmaaGreatDoorJ7
import Derived.Test.YtfafjbolmeimmaaGreatDoorF9
import Derived.Test.YtfafjbolmeimmaaGreatDoorJ6
import Derived.Test.YtfafjbolmeimmaaGreatDoorF6
import Derived.Test.YtfafjbolmeimmaaGreatDoorF11
import Derived.Lib.ValidLaws
import Derived.Lib.ValidAsc
namespace Go.Proofs.YtfafjbolmeimmaaGreatDoor.P
open Go.RowKit Go.Proofs.YtfafjbolmeimmaaGreatDoorW.PrintWords
set_option linter.unusedVariables false
theorem points_l (l : List S89) (hl : l.length ≤ 1099511627776) : ∀ (d i : Nat), l.length - i = d → i ≤ l.length → ∀ acc : List Int, acc.length ≤ i → Ev (fun k => impl_points.l0 k acc l (l.length : Int) (i : Int)) (acc ++ (l.drop i).map (·.f0)) := by
 intro d
 induction d with
 | zero =>
  intro i hd hi acc ha
  refine Ev.step (fun k => by rw [impl_points.l0]) ?_
  refine Ev.neg yq10 ((Ev.now _).to ?_)
  rw [List.drop_eq_nil_of_le yq10]
  simp
 | succ d ih =>
  intro i hd hi acc ha
  have hlt : i < l.length := by omega
  refine Ev.step (fun k => by rw [impl_points.l0]) ?_
  refine Ev.pos yq10 (Ev.pos yq10 (Ev.pos yq10 (Ev.pos yq10 ?_)))
  have e2 := w_succ i yq10
  have e3 : rd_T89 l (i : Int) = l[i] := by simp [rd_T89, hlt]
  rw [e2, e3]
  refine (ih (i + 1) yq10 yq10 _ (by rw [List.length_append, List.length_singleton]; omega)).to ?_
  rw [List.drop_eq_getElem_cons hlt, List.map_cons, List.append_assoc]
  rfl
theorem points_f (s : ByteArray) (hs : s.size ≤ 1099511627776) : Ev (fun k => impl_points.f k s) (pts s) := by
 refine Ev.bind (read_f s hs) ?_
 have := ats_len s 0
 refine (points_l (ats s) (by unfold ats; omega) _ 0 rfl yq10 [] yq27).to ?_
 simp [ats, pts, ats_pts]
end Go.Proofs.YtfafjbolmeimmaaGreatDoor.P
namespace Go.Proofs.YtfafjbolmeimmaaGreatDoor.P
open Go.RowKit Go.Proofs.YtfafjbolmeimmaaGreatDoorW.PrintWords
set_option linter.unusedVariables false
theorem dN1 {n b0 b1 b2 b3 : Nat} (h : b0 < 128) : Lib.decodeN n b0 b1 b2 b3 = (b0, 1) := by unfold Lib.decodeN; rw [if_pos h]
theorem dN0 {n b0 b1 b2 b3 : Nat} (h : (128 ≤ b0 ∧ b0 < 194) ∨ 245 ≤ b0) : Lib.decodeN n b0 b1 b2 b3 = (65533, 1) := by
 unfold Lib.decodeN
 repeat' split
 all_goals first | (exfalso; omega) | rfl
theorem dN2 {n b0 b1 b2 b3 : Nat} (h : 194 ≤ b0 ∧ b0 < 224) : Lib.decodeN n b0 b1 b2 b3 = if 1 < n ∧ b1 / 64 = 2 then (b0 % 32 * 64 + b1 % 64, 2) else (65533, 1) := by
 unfold Lib.decodeN
 repeat' split
 all_goals first | (exfalso; omega) | rfl
set_option maxRecDepth 100000 in
theorem dN3 {n b0 b1 b2 b3 : Nat} (h : 224 ≤ b0 ∧ b0 < 240) : Lib.decodeN n b0 b1 b2 b3 = if (1 < n ∧ b1 / 64 = 2) ∧ (2 < n ∧ b2 / 64 = 2) ∧ 2048 ≤ b0 % 16 * 4096 + b1 % 64 * 64 + b2 % 64 ∧ (b0 % 16 * 4096 + b1 % 64 * 64 + b2 % 64 < 55296 ∨ 57344 ≤ b0 % 16 * 4096 + b1 % 64 * 64 + b2 % 64) then (b0 % 16 * 4096 + b1 % 64 * 64 + b2 % 64, 3) else (65533, 1) := by
 unfold Lib.decodeN
 repeat' split
 all_goals first | (exfalso; omega) | rfl
set_option maxRecDepth 100000 in
theorem dN4 {n b0 b1 b2 b3 : Nat} (h : 240 ≤ b0 ∧ b0 < 245) : Lib.decodeN n b0 b1 b2 b3 = if (1 < n ∧ b1 / 64 = 2) ∧ (2 < n ∧ b2 / 64 = 2) ∧ (3 < n ∧ b3 / 64 = 2) ∧ 65536 ≤ b0 % 8 * 262144 + b1 % 64 * 4096 + b2 % 64 * 64 + b3 % 64 ∧ b0 % 8 * 262144 + b1 % 64 * 4096 + b2 % 64 * 64 + b3 % 64 ≤ 1114111 then (b0 % 8 * 262144 + b1 % 64 * 4096 + b2 % 64 * 64 + b3 % 64, 4) else (65533, 1) := by
 unfold Lib.decodeN
 repeat' split
 all_goals first | (exfalso; omega) | rfl
theorem isPoint_eq (p : Int) : spec_l01IsPoint.f p = some (isPt p) := by
 unfold spec_l01IsPoint.f
 by_cases h0 : 0 ≤ p
 ·rw [if_pos yq10]
  by_cases h1 : p ≤ 1114111
  ·rw [if_pos h1]
   by_cases h2 : p < 55296
   ·rw [if_pos h2, isPt_iff.2 ⟨h0, h1, .inl h2⟩]
   rw [if_neg h2]
   by_cases h3 : 57343 < p
   ·rw [isPt_iff.2 ⟨h0, h1, .inr h3⟩, decide_eq_true h3]
   rw [decide_eq_false h3, show isPt p = false from Bool.eq_false_iff.2 (fun h => by have := isPt_iff.1 h; omega)]
  rw [if_neg h1, show isPt p = false from Bool.eq_false_iff.2 (fun h => h1 (isPt_iff.1 h).2.1)]
 rw [if_neg yq10, show isPt p = false from Bool.eq_false_iff.2 (fun h => h0 (isPt_iff.1 h).1)]
theorem wr_j (p : Int) (hp : isPt p) : Ev (fun k => za0.j0 k p) (strOfNums (wrNums p)) := by
 obtain ⟨h0, h1, h2⟩ := isPt_iff.1 hp
 have e1 : Int.tdiv p 64 = p / 64 := Int.tdiv_eq_ediv_of_nonneg h0
 have e2 : Int.tdiv p 4096 = p / 4096 := Int.tdiv_eq_ediv_of_nonneg h0
 have e3 : Int.tdiv p 262144 = p / 262144 := Int.tdiv_eq_ediv_of_nonneg h0
 have e4 : Int.tmod p 64 = p % 64 := Int.tmod_eq_emod_of_nonneg h0
 refine Ev.step (fun k => by rw [za0.j0]) ?_
 rw [e1, e2, e3, e4, w64 (x := p / 64) yq10 yq10, w64 (x := p / 4096) yq10 yq10, w64 (x := p / 262144) yq10 yq10, w64 (x := 192 + p / 64) yq10 yq10, w64 (x := 128 + p % 64) yq10 yq10, w64 (x := 224 + p / 4096) yq10 yq10, w64 (x := 240 + p / 262144) yq10 yq10]
 have e5 : Int.tmod (p / 64) 64 = p / 64 % 64 := Int.tmod_eq_emod_of_nonneg yq10
 have e6 : Int.tmod (p / 4096) 64 = p / 4096 % 64 := Int.tmod_eq_emod_of_nonneg yq10
 rw [e5, e6, w64 (x := 128 + p / 64 % 64) yq10 yq10, w64 (x := 128 + p / 4096 % 64) yq10 yq10]
 by_cases c1 : p < 128
 ·exact Ev.pos c1 ((Ev.now _).to (by unfold wrNums; rw [if_pos c1]))
 by_cases c2 : p < 2048
 ·exact Ev.neg c1 (Ev.pos c2 ((Ev.now _).to (by unfold wrNums; rw [if_neg c1, if_pos c2])))
 by_cases c3 : p < 65536
 ·exact Ev.neg c1 (Ev.neg c2 (Ev.pos c3 ((Ev.now _).to (by unfold wrNums; rw [if_neg c1, if_neg c2, if_pos c3]))))
 exact Ev.neg c1 (Ev.neg c2 (Ev.neg c3 ((Ev.now _).to (by unfold wrNums; rw [if_neg c1, if_neg c2, if_neg c3]))))
theorem wr_ev (p : Int) : Ev (fun k => za0.f k p) (wrP p) := by
 unfold wrP
 refine Ev.bind (Ev.done (isPoint_eq p)) ?_
 by_cases h : isPt p
 ·rw [if_pos h]
  exact Ev.pos h (wr_j p h)
 rw [if_neg h]
 exact Ev.neg h (wr_j 65533 (by rw [isPt_iff]; omega))
theorem size_strOfNums (l : List Int) : (strOfNums l).size = l.length := by
 unfold strOfNums
 show ((l.map fun n => UInt8.ofNat n.toNat).toArray).size = _
 simp
theorem wrP_size {p : Int} (h : isPt p) : ((wrP p).size : Int) = if p < 128 then 1 else if p < 2048 then 2 else if p < 65536 then 3 else 4 := by
 unfold wrP
 rw [if_pos h, size_strOfNums]
 unfold wrNums
 repeat' split
 all_goals rfl
def nextR (r : Nat × Nat) : Int × Int × Bool := ((r.1 : Int), (r.2 : Int), !(r.1 == 65533 && r.2 == 1))
theorem nextR_bad : nextR (65533, 1) = (65533, 1, false) := rfl
theorem nextR_good {v n : Nat} (h : v ≠ 65533 ∨ n ≠ 1) : nextR (v, n) = ((v : Int), (n : Int), true) := by
 unfold nextR
 rcases h with h | h
 ·rw [beq_eq_false_iff_ne.2 h]; rfl
 rw [beq_eq_false_iff_ne.2 h]; simp
theorem next_end (s : ByteArray) (i n v : Nat) (hn : 1 ≤ n) (hn4 : n ≤ 3) (hv : v ≤ 4000000) : Ev (fun k => zax.l0 k s (i : Int) (n : Int) (v : Int) ((n + 1 : Nat) : Int))
  (if isPt (v : Int) = true ∧ (if v < 128 then 1 else if v < 2048 then 2 else if v < 65536 then 3 else 4) = n + 1 then ((v : Int), ((n + 1 : Nat) : Int), true) else (65533, 1, false)) := by
 refine Ev.step (fun k => by rw [zax.l0]) ?_
 refine Ev.neg yq10 ?_
 refine Ev.bind (Ev.done (isPoint_eq _)) ?_
 by_cases h : isPt (v : Int) = true
 ·refine Ev.pos h (Ev.bind (wr_ev _) ?_)
  have hsz := wrP_size h
  have e1 := w_succ n yq10
  rw [e1]
  have hsz2 : ((wrP (v : Int)).size : Int) = ((if v < 128 then 1 else if v < 2048 then 2 else if v < 65536 then 3 else 4 : Nat) : Int) := by
   rw [hsz]
   by_cases c1 : v < 128
   ·rw [if_pos yq10, if_pos c1]; rfl
   rw [if_neg yq10, if_neg c1]
   by_cases c2 : v < 2048
   ·rw [if_pos yq10, if_pos c2]; rfl
   rw [if_neg yq10, if_neg c2]
   by_cases c3 : v < 65536
   ·rw [if_pos yq10, if_pos c3]; rfl
   rw [if_neg yq10, if_neg c3]; rfl
  generalize (if v < 128 then 1 else if v < 2048 then 2 else if v < 65536 then 3 else 4) = m at *
  by_cases h2 : m = n + 1
  ·exact Ev.pos yq10 ((Ev.now _).to (by rw [if_pos ⟨h, h2⟩]))
  exact Ev.neg yq10 ((Ev.now _).to (by rw [if_neg (fun h3 => h2 h3.2)]))
 exact Ev.neg h ((Ev.now _).to (by rw [if_neg (fun h3 => h h3.1)]))
theorem next_step (s : ByteArray) (i n v j : Nat) (hs : s.size ≤ 1099511627776) (hj : j ≤ n) (hn : n ≤ 3) (hi : i + j < s.size) (hv : v ≤ 70000) (r : Int × Int × Bool)
  (hbad : (s.get! (i + j)).toNat / 64 ≠ 2 → r = (65533, 1, false))
  (hgood : (s.get! (i + j)).toNat / 64 = 2 → Ev (fun k => zax.l0 k s (i : Int) (n : Int) ((v * 64 + (s.get! (i + j)).toNat % 64 : Nat) : Int) ((j + 1 : Nat) : Int)) r) :
  Ev (fun k => zax.l0 k s (i : Int) (n : Int) (v : Int) (j : Int)) r := by
 have hb : (s.get! (i + j)).toNat < 256 := (s.get! (i + j)).toNat_lt
 have hbt : bt s ((i + j : Nat) : Int) = ((s.get! (i + j)).toNat : Int) := bt_get s (i + j)
 generalize (s.get! (i + j)).toNat = b at *
 refine Ev.step (fun k => by rw [zax.l0]) ?_
 have e0 : wrap64 ((i : Int) + (j : Int)) = ((i + j : Nat) : Int) := by rw [w64 yq10 yq10]; omega
 rw [e0, hbt, w64 (x := (b : Int)) yq10 yq10]
 refine Ev.pos yq10 (Ev.pos yq10 (Ev.pos yq10 ?_))
 by_cases h1 : (b : Int) < 128
 ·rw [hbad yq10]; exact Ev.pos h1 (Ev.now _)
 refine Ev.neg h1 ?_
 by_cases h2 : (b : Int) > 191
 ·rw [hbad yq10]; exact Ev.pos h2 (Ev.now _)
 refine Ev.neg h2 ?_
 have hq : b / 64 = 2 := by clear hbad hgood hbt e0; omega
 have e1 : wrap64 ((v : Int) * 64) = (v : Int) * 64 := w64 yq10 yq10
 have e2 : Int.tmod (b : Int) 64 = (b : Int) % 64 := Int.tmod_eq_emod_of_nonneg yq10
 have e3 : wrap64 ((v : Int) * 64 + (b : Int) % 64) = ((v * 64 + b % 64 : Nat) : Int) := by rw [w64 yq10 yq10]; omega
 have e4 := w_succ j yq10
 rw [e1, e2, e3, e4]
 exact hgood hq
theorem next_j2 (s : ByteArray) (i n v : Nat) (hs : s.size ≤ 1099511627776) (hi : i < s.size) (hn : n ≤ 3) (r : Int × Int × Bool)
  (hbad : ¬ i + n < s.size → r = (65533, 1, false))
  (hgood : i + n < s.size → Ev (fun k => zax.l0 k s (i : Int) (n : Int) (v : Int) ((1 : Nat) : Int)) r) :
  Ev (fun k => zax.j2 k s (i : Int) (n : Int) (v : Int)) r := by
 refine Ev.step (fun k => by rw [zax.j2]) ?_
 have e0 : wrap64 ((i : Int) + (n : Int)) = ((i + n : Nat) : Int) := by rw [w64 yq10 yq10]; omega
 rw [e0]
 by_cases h : i + n < s.size
 ·exact Ev.neg yq10 (hgood h)
 rw [hbad h]; exact Ev.pos yq10 (Ev.now _)
theorem next_2 (s : ByteArray) (hs : s.size ≤ 1099511627776) (i : Nat) (hi : i < s.size) (b0 b1 b2 b3 : Nat) (hc1 : (s.get! (i + 1)).toNat = b1) (h0 : 194 ≤ b0 ∧ b0 < 224) :
  Ev (fun k => zax.j2 k s (i : Int) ((1 : Nat) : Int) ((b0 % 32 : Nat) : Int)) (nextR (Lib.decodeN (s.size - i) b0 b1 b2 b3)) := by
 rw [dN2 h0]
 refine next_j2 s i 1 (b0 % 32) hs hi yq10 _ (fun h => by rw [if_neg yq10, nextR_bad]) (fun h => ?_)
 refine next_step s i 1 (b0 % 32) 1 hs yq10 yq10 yq10 yq10 _ (fun g => by rw [hc1] at g; rw [if_neg yq10, nextR_bad]) (fun g => ?_)
 rw [hc1] at g ⊢
 refine (next_end s i 1 _ yq10 yq10 yq10).to ?_
 symm
 rw [if_pos yq10, nextR_good yq10]
 rw [if_pos ⟨isPt_iff.2 yq10, by rw [if_neg yq10, if_pos yq10]⟩]
theorem next_3 (s : ByteArray) (hs : s.size ≤ 1099511627776) (i : Nat) (hi : i < s.size) (b0 b1 b2 b3 : Nat) (hc1 : (s.get! (i + 1)).toNat = b1) (hc2 : (s.get! (i + 2)).toNat = b2) (h0 : 224 ≤ b0 ∧ b0 < 240) :
  Ev (fun k => zax.j2 k s (i : Int) ((2 : Nat) : Int) ((b0 % 16 : Nat) : Int)) (nextR (Lib.decodeN (s.size - i) b0 b1 b2 b3)) := by
 rw [dN3 h0]
 refine next_j2 s i 2 (b0 % 16) hs hi yq10 _ (fun h => by rw [if_neg yq10, nextR_bad]) (fun h => ?_)
 refine next_step s i 2 (b0 % 16) 1 hs yq10 yq10 yq10 yq10 _ (fun g => by rw [hc1] at g; rw [if_neg yq10, nextR_bad]) (fun g1 => ?_)
 rw [hc1] at g1 ⊢
 refine next_step s i 2 _ 2 hs yq10 yq10 yq10 yq10 _ (fun g => by rw [hc2] at g; rw [if_neg yq10, nextR_bad]) (fun g2 => ?_)
 rw [hc2] at g2 ⊢
 refine (next_end s i 2 _ yq10 yq10 yq10).to ?_
 have ev : (b0 % 16 * 64 + b1 % 64) * 64 + b2 % 64 = b0 % 16 * 4096 + b1 % 64 * 64 + b2 % 64 := by omega
 rw [ev]
 symm
 have hv0 : b0 % 16 * 4096 + b1 % 64 * 64 + b2 % 64 < 65536 := by omega
 clear ev
 generalize b0 % 16 * 4096 + b1 % 64 * 64 + b2 % 64 = v at *
 by_cases hv : 2048 ≤ v ∧ (v < 55296 ∨ 57344 ≤ v)
 ·rw [if_pos yq10, nextR_good yq10, if_pos ⟨isPt_iff.2 yq10, by rw [if_neg yq10, if_neg yq10, if_pos hv0]⟩]
 rw [if_neg yq10, nextR_bad, if_neg]
 rintro ⟨hp, hz⟩
 have := isPt_iff.1 hp
 by_cases c1 : v < 2048
 ·split at hz
  ·omega
  first | omega | (rw [if_pos c1] at hz; omega)
 omega
theorem next_4 (s : ByteArray) (hs : s.size ≤ 1099511627776) (i : Nat) (hi : i < s.size) (b0 b1 b2 b3 : Nat) (hc1 : (s.get! (i + 1)).toNat = b1) (hc2 : (s.get! (i + 2)).toNat = b2) (hc3 : (s.get! (i + 3)).toNat = b3) (h0 : 240 ≤ b0 ∧ b0 < 245) :
  Ev (fun k => zax.j2 k s (i : Int) ((3 : Nat) : Int) ((b0 % 8 : Nat) : Int)) (nextR (Lib.decodeN (s.size - i) b0 b1 b2 b3)) := by
 rw [dN4 h0]
 refine next_j2 s i 3 (b0 % 8) hs hi yq10 _ (fun h => by rw [if_neg yq10, nextR_bad]) (fun h => ?_)
 refine next_step s i 3 (b0 % 8) 1 hs yq10 yq10 yq10 yq10 _ (fun g => by rw [hc1] at g; rw [if_neg yq10, nextR_bad]) (fun g1 => ?_)
 rw [hc1] at g1 ⊢
 refine next_step s i 3 _ 2 hs yq10 yq10 yq10 yq10 _ (fun g => by rw [hc2] at g; rw [if_neg yq10, nextR_bad]) (fun g2 => ?_)
 rw [hc2] at g2 ⊢
 refine next_step s i 3 _ 3 hs yq10 yq10 yq10 yq10 _ (fun g => by rw [hc3] at g; rw [if_neg yq10, nextR_bad]) (fun g3 => ?_)
 rw [hc3] at g3 ⊢
 refine (next_end s i 3 _ yq10 yq10 yq10).to ?_
 have ev : ((b0 % 8 * 64 + b1 % 64) * 64 + b2 % 64) * 64 + b3 % 64 = b0 % 8 * 262144 + b1 % 64 * 4096 + b2 % 64 * 64 + b3 % 64 := by omega
 rw [ev]
 symm
 clear ev
 generalize b0 % 8 * 262144 + b1 % 64 * 4096 + b2 % 64 * 64 + b3 % 64 = v at *
 by_cases hv : 65536 ≤ v ∧ v ≤ 1114111
 ·rw [if_pos yq10, nextR_good yq10, if_pos ⟨isPt_iff.2 yq10, by rw [if_neg yq10, if_neg yq10, if_neg yq10]⟩]
 rw [if_neg yq10, nextR_bad, if_neg]
 rintro ⟨hp, hz⟩
 have := isPt_iff.1 hp
 by_cases c1 : v < 65536
 ·split at hz
  ·omega
  split at hz
  ·omega
  first | omega | (rw [if_pos c1] at hz; omega)
 omega
theorem next_g (s : ByteArray) (hs : s.size ≤ 1099511627776) (i : Nat) (hi : i < s.size) (b0 b1 b2 b3 : Nat) (hb : b0 < 256) (hc0 : (s.get! i).toNat = b0) (hc1 : (s.get! (i + 1)).toNat = b1) (hc2 : (s.get! (i + 2)).toNat = b2) (hc3 : (s.get! (i + 3)).toNat = b3) :
  Ev (fun k => zax.f k s (i : Int)) (nextR (Lib.decodeN (s.size - i) b0 b1 b2 b3)) := by
 unfold zax.f
 rw [bt_get, hc0, w64 (x := (b0 : Int)) yq10 yq10]
 refine Ev.pos yq10 (Ev.pos yq10 ?_)
 by_cases h1 : b0 < 128
 ·rw [dN1 h1, nextR_good yq10]
  exact Ev.pos yq10 (Ev.now _)
 refine Ev.neg yq10 ?_
 by_cases h2 : b0 < 194
 ·rw [dN0 yq10, nextR_bad]
  refine Ev.neg yq10 ?_
  refine Ev.step (fun k => by rw [zax.j0]) (Ev.neg yq27 (Ev.neg yq10 ?_))
  refine Ev.step (fun k => by rw [zax.j1]) (Ev.neg yq27 (Ev.neg yq10 (Ev.now _)))
 refine Ev.pos yq10 ?_
 by_cases h3 : b0 < 224
 ·rw [decide_eq_true (show (b0 : Int) < 224 by omega)]
  refine Ev.step (fun k => by rw [zax.j0]) (Ev.pos rfl ?_)
  have e : Int.tmod (b0 : Int) 32 = ((b0 % 32 : Nat) : Int) := by rw [Int.tmod_eq_emod_of_nonneg yq10]; omega
  rw [e]
  exact next_2 s hs i hi b0 b1 b2 b3 hc1 yq10
 rw [decide_eq_false (show ¬ (b0 : Int) < 224 by omega)]
 refine Ev.step (fun k => by rw [zax.j0]) (Ev.neg yq27 (Ev.pos yq10 ?_))
 by_cases h4 : b0 < 240
 ·rw [decide_eq_true (show (b0 : Int) < 240 by omega)]
  refine Ev.step (fun k => by rw [zax.j1]) (Ev.pos rfl ?_)
  have e : Int.tmod (b0 : Int) 16 = ((b0 % 16 : Nat) : Int) := by rw [Int.tmod_eq_emod_of_nonneg yq10]; omega
  rw [e]
  exact next_3 s hs i hi b0 b1 b2 b3 hc1 hc2 yq10
 rw [decide_eq_false (show ¬ (b0 : Int) < 240 by omega)]
 refine Ev.step (fun k => by rw [zax.j1]) (Ev.neg yq27 (Ev.pos yq10 ?_))
 by_cases h5 : b0 < 245
 ·refine Ev.pos yq10 ?_
  have e : Int.tmod (b0 : Int) 8 = ((b0 % 8 : Nat) : Int) := by rw [Int.tmod_eq_emod_of_nonneg yq10]; omega
  rw [e]
  exact next_4 s hs i hi b0 b1 b2 b3 hc1 hc2 hc3 yq10
 rw [dN0 yq10, nextR_bad]
 exact Ev.neg yq10 (Ev.now _)
theorem next_f (s : ByteArray) (hs : s.size ≤ 1099511627776) (i : Nat) (hi : i < s.size) : Ev (fun k => zax.f k s (i : Int)) (nextR (dec s i)) := by
 rw [dec_eq]
 exact next_g s hs i hi _ _ _ _ (s.get! i).toNat_lt rfl rfl rfl rfl
end Go.Proofs.YtfafjbolmeimmaaGreatDoor.P
namespace Go.Proofs.YtfafjbolmeimmaaGreatDoor.P
open Go.RowKit Go.Proofs.YtfafjbolmeimmaaGreatDoorW.PrintWords
set_option linter.unusedVariables false
theorem spoints_l (s : ByteArray) (hs : s.size ≤ 1099511627776) : ∀ i, ∀ acc : List Int, acc.length + (s.size - i) ≤ 1099511627776 → Ev (fun k => zaY.l0 k s acc (i : Int)) (acc ++ ptsFrom s i) := by
 refine rec_places s (motive := fun i => ∀ acc : List Int, acc.length + (s.size - i) ≤ 1099511627776 → Ev (fun k => zaY.l0 k s acc (i : Int)) (acc ++ ptsFrom s i)) ?_ ?_
 ·intro i h acc ha
  refine Ev.step (fun k => by rw [zaY.l0]) ?_
  rw [ptsFrom_ge h, List.append_nil]
  exact Ev.neg yq10 (Ev.now _)
 intro i h ih acc ha
 have hb := dec_bd s i h
 refine Ev.step (fun k => by rw [zaY.l0]) ?_
 refine Ev.pos yq10 (Ev.bind (next_f s hs i h) (Ev.pos yq10 ?_))
 have e2 : wrap64 ((i : Int) + (nextR (dec s i)).2.1) = ((i + (dec s i).2 : Nat) : Int) := by
  show wrap64 ((i : Int) + ((dec s i).2 : Int)) = _
  rw [w64 yq10 yq10]; omega
 rw [e2]
 refine (ih _ (by rw [List.length_append, List.length_singleton]; omega)).to ?_
 rw [ptsFrom_lt h]
 simp [nextR]
theorem spoints_f (s : ByteArray) (hs : s.size ≤ 1099511627776) : Ev (fun k => zaY.f k s) (pts s) :=
 (spoints_l s hs 0 [] (by simp; omega)).to (by simp [pts])
end Go.Proofs.YtfafjbolmeimmaaGreatDoor.P
namespace Go.Proofs.YtfafjbolmeimmaaGreatDoor.P
open Go.RowKit Go.Proofs.YtfafjbolmeimmaaGreatDoorW.PrintWords
set_option linter.unusedVariables false
theorem wrNums_byte (p : Int) : ∀ b ∈ wrNums p, 0 ≤ b ∧ b ≤ 255 := by
 intro b hb
 unfold wrNums at hb
 split at hb
 ·simp only [List.mem_cons, List.mem_nil_iff, or_false] at hb; omega
 split at hb
 ·simp only [List.mem_cons, List.mem_nil_iff, or_false] at hb; omega
 split at hb <;> (simp only [List.mem_cons, List.mem_nil_iff, or_false] at hb; omega)
theorem bytesOf_strOfNums : ∀ (l : List Int), (∀ b ∈ l, 0 ≤ b ∧ b ≤ 255) → bytesOf (strOfNums l) = l := by
 intro l h
 unfold bytesOf strOfNums
 simp only [List.map_map]
 conv => rhs; rw [← List.map_id l]
 apply List.map_congr_left
 intro b hb
 have := h b hb
 simp only [Function.comp, id, UInt8.toNat_ofNat']
 omega
theorem bytesOf_wrP (p : Int) : bytesOf (wrP p) = wrB p := bytesOf_strOfNums _ (wrNums_byte _)
theorem text_l (l : List Int) (hl : l.length ≤ 1099511627776) : ∀ (d i : Nat), l.length - i = d → i ≤ l.length → ∀ acc : List Int, acc.length ≤ 4 * i → Ev (fun k => za7.l0 k l acc (i : Int)) (strOfNums (acc ++ txtB (l.drop i))) := by
 intro d
 induction d with
 | zero =>
  intro i hd hi acc ha
  refine Ev.step (fun k => by rw [za7.l0]) ?_
  refine Ev.neg yq10 ((Ev.now _).to ?_)
  rw [List.drop_eq_nil_of_le yq10]
  simp [txtB]
 | succ d ih =>
  intro i hd hi acc ha
  have hlt : i < l.length := by omega
  refine Ev.step (fun k => by rw [za7.l0]) ?_
  have e3 : rd l (i : Int) = l[i] := by simp [rd, hlt]
  have hw := wrB_len l[i]
  have hsz : (wrP l[i]).size = (wrB l[i]).length := by rw [← bytesOf_wrP, bytesOf_length]
  rw [e3]
  refine Ev.pos yq10 (Ev.pos yq10 (Ev.bind (wr_ev _) (Ev.pos yq10 ?_)))
  have e2 := w_succ i yq10
  rw [e2, bytesOf_wrP]
  refine (ih (i + 1) yq10 yq10 _ (by rw [List.length_append]; omega)).to ?_
  rw [List.drop_eq_getElem_cons hlt]
  show _ = strOfNums (acc ++ (wrB l[i] ++ txtB (l.drop (i + 1))))
  rw [List.append_assoc]
theorem text_f (l : List Int) (hl : l.length ≤ 1099511627776) : Ev (fun k => za7.f k l) (txt l) :=
 (text_l l hl _ 0 rfl yq10 [] yq27).to (by simp [txt])
theorem bytesOf_drop (s : ByteArray) (i : Nat) (h : i < s.size) : (bytesOf s).drop i = ((s.get! i).toNat : Int) :: (bytesOf s).drop (i + 1) := by
 have hl : i < (bytesOf s).length := by rw [bytesOf_length]; exact h
 rw [List.drop_eq_getElem_cons hl]
 congr 1
 have := rd_bytesOf s (i : Int)
 rw [bt_get] at this
 rw [← this]
 simp [rd, hl]
theorem good_bytes (n b0 b1 b2 b3 v m : Nat) (hd : Lib.decodeN n b0 b1 b2 b3 = (v, m)) (hn : 1 ≤ n) (h0 : b0 < 256) (h1 : b1 < 256) (h2 : b2 < 256) (h3 : b3 < 256) (hg : ¬ (v = 65533 ∧ m = 1)) :
  (m = 1 ∧ wrB (v : Int) = [(b0 : Int)]) ∨ (m = 2 ∧ 1 < n ∧ wrB (v : Int) = [(b0 : Int), (b1 : Int)]) ∨ (m = 3 ∧ 2 < n ∧ wrB (v : Int) = [(b0 : Int), (b1 : Int), (b2 : Int)]) ∨ (m = 4 ∧ 3 < n ∧ wrB (v : Int) = [(b0 : Int), (b1 : Int), (b2 : Int), (b3 : Int)]) := by
 by_cases c1 : b0 < 128
 ·rw [dN1 c1] at hd
  cases hd
  left
  refine ⟨rfl, ?_⟩
  unfold wrB
  rw [isPt_iff.2 yq10, if_pos rfl]
  unfold wrNums
  rw [if_pos yq10]
  congr 1
  omega
 by_cases c2 : b0 < 194 ∨ 245 ≤ b0
 ·rw [dN0 yq10] at hd
  cases hd
  exact absurd ⟨rfl, rfl⟩ hg
 by_cases c3 : b0 < 224
 ·rw [dN2 yq10] at hd
  split at hd
  ·cases hd
   right; left
   refine ⟨rfl, yq10, ?_⟩
   unfold wrB
   rw [isPt_iff.2 yq10, if_pos rfl]
   unfold wrNums
   rw [if_neg yq10, if_pos yq10]
   simp only [List.cons.injEq, and_true]
   omega
  cases hd
  exact absurd ⟨rfl, rfl⟩ hg
 by_cases c4 : b0 < 240
 ·rw [dN3 yq10] at hd
  split at hd
  ·cases hd
   right; right; left
   refine ⟨rfl, yq10, ?_⟩
   unfold wrB
   rw [isPt_iff.2 yq10, if_pos rfl]
   unfold wrNums
   rw [if_neg yq10, if_neg yq10, if_pos yq10]
   simp only [List.cons.injEq, and_true]
   omega
  cases hd
  exact absurd ⟨rfl, rfl⟩ hg
 rw [dN4 yq10] at hd
 split at hd
 ·cases hd
  right; right; right
  refine ⟨rfl, yq10, ?_⟩
  unfold wrB
  rw [isPt_iff.2 yq10, if_pos rfl]
  unfold wrNums
  rw [if_neg yq10, if_neg yq10, if_neg yq10]
  simp only [List.cons.injEq, and_true]
  omega
 cases hd
 exact absurd ⟨rfl, rfl⟩ hg
theorem good_at (s : ByteArray) (i : Nat) (h : i < s.size) (hg : badAt s i = false) : (bytesOf s).drop i = wrB ((dec s i).1 : Int) ++ (bytesOf s).drop (i + (dec s i).2) := by
 have hg' : ¬ ((dec s i).1 = 65533 ∧ (dec s i).2 = 1) := by
  rintro ⟨e1, e2⟩
  unfold badAt at hg
  rw [e1, e2] at hg
  cases hg
 obtain ⟨v, m, hd⟩ : ∃ v m, dec s i = (v, m) := ⟨_, _, rfl⟩
 rw [hd] at hg' ⊢
 rw [dec_eq] at hd
 rcases good_bytes _ _ _ _ _ v m hd yq10 (s.get! i).toNat_lt (s.get! (i + 1)).toNat_lt (s.get! (i + 2)).toNat_lt (s.get! (i + 3)).toNat_lt hg' with ⟨rfl, e⟩ | ⟨rfl, h1, e⟩ | ⟨rfl, h1, e⟩ | ⟨rfl, h1, e⟩
 ·rw [e, bytesOf_drop s i h]; rfl
 ·rw [e, bytesOf_drop s i h, bytesOf_drop s (i + 1) yq10]; rfl
 ·rw [e, bytesOf_drop s i h, bytesOf_drop s (i + 1) yq10, bytesOf_drop s (i + 2) yq10]; rfl
 rw [e, bytesOf_drop s i h, bytesOf_drop s (i + 1) yq10, bytesOf_drop s (i + 2) yq10, bytesOf_drop s (i + 3) yq10]; rfl
def goodFrom (s : ByteArray) (i : Nat) : Bool :=
 if h : i < s.size then !badAt s i && goodFrom s (i + (dec s i).2) else true
termination_by s.size - i
decreasing_by have := dec_bd s i h; omega
theorem goodFrom_lt {s : ByteArray} {i : Nat} (h : i < s.size) : goodFrom s i = (!badAt s i && goodFrom s (i + (dec s i).2)) := by rw [goodFrom, dif_pos h]
theorem goodFrom_ge {s : ByteArray} {i : Nat} (h : ¬ i < s.size) : goodFrom s i = true := by rw [goodFrom, dif_neg h]
theorem bad_bytes (s : ByteArray) (i : Nat) (h : i < s.size) (hb : badAt s i = true) (r : List Int) : (bytesOf s).drop i ≠ wrB 65533 ++ r := by
 intro e
 have e0 : wrB 65533 = [239, 191, 189] := by decide
 rw [e0] at e
 have hl := congrArg List.length e
 rw [List.length_drop, bytesOf_length, List.length_append] at hl
 simp only [List.length_cons, List.length_nil] at hl
 rw [bytesOf_drop s i h, bytesOf_drop s (i + 1) yq10, bytesOf_drop s (i + 2) yq10] at e
 simp only [List.cons_append, List.nil_append, List.cons.injEq] at e
 obtain ⟨e1, e2, e3, _⟩ := e
 have hd := dec_eq s i
 rw [show (s.get! i).toNat = 239 by omega, show (s.get! (i + 1)).toNat = 191 by omega, show (s.get! (i + 2)).toNat = 189 by omega, dN3 yq10, if_pos yq10] at hd
 unfold badAt at hb
 rw [hd] at hb
 cases hb
theorem bad_at (s : ByteArray) (i : Nat) (hb : badAt s i = true) : (dec s i).1 = 65533 ∧ (dec s i).2 = 1 := by
 unfold badAt at hb
 simpa using hb
theorem back_from (s : ByteArray) : ∀ i, (txtB (ptsFrom s i) = (bytesOf s).drop i ↔ goodFrom s i = true) := by
 refine rec_places s (motive := fun i => (txtB (ptsFrom s i) = (bytesOf s).drop i ↔ goodFrom s i = true)) ?_ ?_
 ·intro i h
  show _ ↔ _
  rw [ptsFrom_ge h, goodFrom_ge h, List.drop_eq_nil_of_le (by rw [bytesOf_length]; omega)]
  simp [txtB]
 intro i h ih
 show _ ↔ _
 rw [ptsFrom_lt h, goodFrom_lt h]
 have e : txtB (((dec s i).1 : Int) :: ptsFrom s (i + (dec s i).2)) = wrB ((dec s i).1 : Int) ++ txtB (ptsFrom s (i + (dec s i).2)) := rfl
 rw [e]
 cases hb : badAt s i with
 | false =>
  rw [good_at s i h hb, List.append_cancel_left_eq, ih]
  simp
 | true =>
  constructor
  ·intro he
   exfalso
   rw [(bad_at s i hb).1] at he
   exact bad_bytes s i h hb _ he.symm
  intro he
  simp at he
theorem bytesOf_inj {s t : ByteArray} (h : bytesOf s = bytesOf t) : s = t := by
 unfold bytesOf at h
 have h2 : s.data.toList = t.data.toList := by
  refine List.map_inj_right (f := fun b : UInt8 => (b.toNat : Int)) ?_ |>.1 h
  intro a b hab
  have : a.toNat = b.toNat := by omega
  exact UInt8.toNat_inj.1 this
 cases s with
 | mk a =>
  cases t with
  | mk b =>
   congr
   exact Array.toList_inj.1 h2
theorem bytesOf_txt (l : List Int) : bytesOf (txt l) = txtB l := by
 refine bytesOf_strOfNums _ ?_
 intro b hb
 obtain ⟨p, _, hp⟩ := List.mem_flatMap.1 hb
 exact wrNums_byte _ b hp
theorem txt_back (s : ByteArray) : txt (pts s) = s ↔ goodFrom s 0 = true := by
 rw [← back_from s 0, List.drop_zero]
 constructor
 ·intro h
  have := congrArg bytesOf h
  rw [bytesOf_txt] at this
  exact this
 intro h
 apply bytesOf_inj
 rw [bytesOf_txt]
 exact h
theorem decodeL_at (s : ByteArray) (i : Nat) : Lib.decodeL (s.data.toList.drop i) = dec s i := by
 have h := Lib.tail_decode s i 0
 rw [Nat.add_zero] at h
 unfold dec
 rw [← h, ← Lib.ext_list]
 rfl
theorem valid_from (s : ByteArray) : ∀ i, Lib.validD (s.data.toList.drop i) = goodFrom s i := by
 refine rec_places s (motive := fun i => Lib.validD (s.data.toList.drop i) = goodFrom s i) ?_ ?_
 ·intro i h
  show _ = _
  rw [goodFrom_ge h, List.drop_eq_nil_of_le (by rw [data_length]; omega)]
  rfl
 intro i h ih
 show _ = _
 have hne : s.data.toList.drop i ≠ [] := by
  intro e
  have := congrArg List.length e
  rw [List.length_drop, data_length] at this
  simp at this
  omega
 rw [Lib.validD_step _ hne, decodeL_at, List.drop_drop, goodFrom_lt h, ih]
 cases hb : badAt s i with
 | true =>
  rw [if_pos (bad_at s i hb)]
  rfl
 | false =>
  rw [if_neg]
  ·rfl
  rintro ⟨e1, e2⟩
  unfold badAt at hb
  rw [e1, e2] at hb
  cases hb
theorem valid_eq (s : ByteArray) : Lib.validD s.data.toList = goodFrom s 0 := by
 have := valid_from s 0
 rw [List.drop_zero] at this
 exact this
end Go.Proofs.YtfafjbolmeimmaaGreatDoor.P
