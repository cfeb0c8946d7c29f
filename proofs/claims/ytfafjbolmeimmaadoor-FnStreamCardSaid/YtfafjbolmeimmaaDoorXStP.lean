/- The program's reader of bytes comes to the same pieces. -/
import Derived.Test.YtfafjbolmeimmaaDoorF18
import Derived.Test.YtfafjbolmeimmaaDoorF17
import Derived.Test.YtfafjbolmeimmaaDoorF16
import Derived.Test.YtfafjbolmeimmaaDoorF14
import Derived.Test.YtfafjbolmeimmaaDoorF13
import Derived.Test.YtfafjbolmeimmaaDoorXStB
import Derived.Test.YtfafjbolmeimmaaDoorXUn
import Derived.Test.YtfafjbolmeimmaaDoorXWr
import Derived.Test.YtfafjbolmeimmaaDoorXTy
namespace Go.Proofs.YtfafjbolmeimmaaDoor.P
open Go.RowKit Go.Proofs.YtfafjbolmeimmaaDoorW.PrintWords Go.Proofs.YtfafjbolmeimmaaDoorW.PrintMore
set_option linter.unusedVariables false
theorem cl_step (x : ByteArray) (hx : x.size ≤ 1099511627776) (n m : Nat) (hn : n ≤ 4) (hm : m ≤ 4) (lo hi : Nat) (b : Nat) (hb : m < x.size → bt x (m : Int) = (b : Int)) (r : Nat)
  (hstop : ¬ (m < n ∧ m < x.size ∧ lo ≤ b ∧ b ≤ hi) → r = m) (hgo : m < n → m < x.size → lo ≤ b → b ≤ hi → Ev (fun k => zaM.l0 k x (n : Int) 128 191 ((m + 1 : Nat) : Int)) ((r : Int), ((r : Int) == (n : Int)))) :
  Ev (fun k => zaM.l0 k x (n : Int) (lo : Int) (hi : Int) (m : Int)) ((r : Int), ((r : Int) == (n : Int))) := by
 have e := zab.mk (w_succ m (by omega))
 refine Ev.step (fun k => by rw [zaM.l0, e.out]) ?_
 by_cases c1 : m < n
 ·refine Ev.pos (by omega) ?_
  by_cases c2 : m < x.size
  ·refine Ev.pos (by omega) (Ev.pos (by omega) ?_)
   rw [hb c2]
   by_cases c3 : lo ≤ b
   ·refine Ev.pos (by omega) ?_
    by_cases c4 : b ≤ hi
    ·exact Ev.pos (by omega) (hgo c1 c2 c3 c4)
    rw [hstop (by omega)]
    exact Ev.neg (by omega) (Ev.now _)
   rw [hstop (by omega)]
   exact Ev.neg (by omega) (Ev.now _)
  rw [hstop (by omega)]
  exact Ev.neg (by omega) (Ev.now _)
 rw [hstop (by omega)]
 exact Ev.neg (by omega) (Ev.now _)
theorem could_f (x : ByteArray) (b0 : Nat) (hx0 : 0 < x.size) (h0 : bt x 0 = (b0 : Int)) (hb : b0 < 256) (r : Nat) (e0 : need b0 = 0 → r = 0) (e1 : need b0 = 1 → r = 1)
  (h : 2 ≤ need b0 → Ev (fun k => zaM.l0 k x (need b0 : Int) (loB b0 : Int) (hiB b0 : Int) ((1 : Nat) : Int)) ((r : Int), ((r : Int) == (need b0 : Int)))) :
  Ev (fun k => zaM.f k x) ((r : Int), decide (need b0 ≠ 0 ∧ r = need b0)) := by
 have eb : need b0 ≠ 0 → ((r : Int) == (need b0 : Int)) = decide (need b0 ≠ 0 ∧ r = need b0) := by
  intro hn
  rw [Bool.eq_iff_iff, beq_iff_eq, decide_eq_true_iff]
  omega
 have j3 : ∀ (n : Nat) (lo hi : Int), need b0 = n → 2 ≤ n → lo = (loB b0 : Int) → hi = (hiB b0 : Int) → Ev (fun k => zaM.j3 k x (n : Int) lo hi) ((r : Int), decide (need b0 ≠ 0 ∧ r = need b0)) := by
  rintro n lo hi rfl h2 rfl rfl
  refine Ev.step (fun k => by rw [zaM.j3]; rfl) ((h h2).to ?_)
  rw [eb (by omega)]
 unfold zaM.f
 rw [h0]
 refine Ev.pos (by omega) ?_
 by_cases c1 : b0 < 128
 ·have hn : need b0 = 1 := by unfold need; rw [if_pos c1]
  rw [e1 hn]
  refine Ev.pos (by omega) ((Ev.now _).to ?_)
  rw [hn]
  rfl
 refine Ev.neg (by omega) ?_
 have zero : need b0 = 0 → ((0 : Int), false) = ((r : Int), decide (need b0 ≠ 0 ∧ r = need b0)) := by
  intro hn
  rw [e0 hn, hn]
  rfl
 have J2 : ∀ b, b = decide (240 ≤ b0 ∧ b0 ≤ 244) → ¬ (194 ≤ b0 ∧ b0 < 240) → Ev (fun k => zaM.j2 k x (b0 : Int) 128 191 b) ((r : Int), decide (need b0 ≠ 0 ∧ r = need b0)) := by
  rintro b rfl hr
  refine Ev.step (fun k => by rw [zaM.j2]) ?_
  by_cases c : 240 ≤ b0 ∧ b0 ≤ 244
  ·have hn : need b0 = 4 := by unfold need; rw [if_neg c1, if_neg (by omega), if_neg (by omega), if_neg (by omega), if_pos (by omega)]
   refine Ev.pos (decide_eq_true c) ?_
   by_cases d1 : b0 = 240
   ·subst d1
    exact Ev.pos rfl (Ev.neg (by omega) (j3 4 _ _ hn (by omega) rfl rfl))
   refine Ev.neg (by omega) ?_
   have l1 : loB b0 = 128 := by unfold loB; rw [if_neg (by omega), if_neg d1]
   by_cases d2 : b0 = 244
   ·subst d2
    exact Ev.pos rfl (j3 4 _ _ hn (by omega) rfl rfl)
   have l2 : hiB b0 = 191 := by unfold hiB; rw [if_neg (by omega), if_neg d2]
   exact Ev.neg (by omega) (j3 4 _ _ hn (by omega) (by rw [l1]; rfl) (by rw [l2]; rfl))
  refine Ev.neg (by rw [decide_eq_false c]; simp) ((Ev.now _).to (zero ?_))
  unfold need
  rw [if_neg c1]
  by_cases d : b0 < 194
  ·rw [if_pos d]
  rw [if_neg d, if_neg (by omega), if_neg (by omega), if_neg (by omega)]
 have J1 : ∀ b, b = decide (224 ≤ b0 ∧ b0 ≤ 239) → ¬ (194 ≤ b0 ∧ b0 < 224) → Ev (fun k => zaM.j1 k x (b0 : Int) 128 191 b) ((r : Int), decide (need b0 ≠ 0 ∧ r = need b0)) := by
  rintro b rfl hr
  refine Ev.step (fun k => by rw [zaM.j1]) ?_
  by_cases c : 224 ≤ b0 ∧ b0 ≤ 239
  ·have hn : need b0 = 3 := by unfold need; rw [if_neg c1, if_neg (by omega), if_neg (by omega), if_pos (by omega)]
   refine Ev.pos (decide_eq_true c) ?_
   by_cases d1 : b0 = 224
   ·subst d1
    exact Ev.pos rfl (Ev.neg (by omega) (j3 3 _ _ hn (by omega) rfl rfl))
   refine Ev.neg (by omega) ?_
   have l1 : loB b0 = 128 := by unfold loB; rw [if_neg d1, if_neg (by omega)]
   by_cases d2 : b0 = 237
   ·subst d2
    exact Ev.pos rfl (j3 3 _ _ hn (by omega) rfl rfl)
   have l2 : hiB b0 = 191 := by unfold hiB; rw [if_neg d2, if_neg (by omega)]
   exact Ev.neg (by omega) (j3 3 _ _ hn (by omega) (by rw [l1]; rfl) (by rw [l2]; rfl))
  refine Ev.neg (by rw [decide_eq_false c]; simp) ?_
  by_cases d : 240 ≤ b0
  ·refine Ev.pos (by omega) (J2 _ ?_ (by omega))
   rw [decide_eq_decide]
   omega
  exact Ev.neg (by omega) (J2 _ (decide_eq_false (by omega)).symm (by omega))
 have J0 : ∀ b, b = decide (194 ≤ b0 ∧ b0 ≤ 223) → Ev (fun k => zaM.j0 k x (b0 : Int) 128 191 b) ((r : Int), decide (need b0 ≠ 0 ∧ r = need b0)) := by
  rintro b rfl
  refine Ev.step (fun k => by rw [zaM.j0]) ?_
  by_cases c : 194 ≤ b0 ∧ b0 ≤ 223
  ·have hn : need b0 = 2 := by unfold need; rw [if_neg c1, if_neg (by omega), if_pos (by omega)]
   have l1 : loB b0 = 128 := by unfold loB; rw [if_neg (by omega), if_neg (by omega)]
   have l2 : hiB b0 = 191 := by unfold hiB; rw [if_neg (by omega), if_neg (by omega)]
   exact Ev.pos (decide_eq_true c) (j3 2 _ _ hn (by omega) (by rw [l1]; rfl) (by rw [l2]; rfl))
  refine Ev.neg (by rw [decide_eq_false c]; simp) ?_
  by_cases d : 224 ≤ b0
  ·refine Ev.pos (by omega) (J1 _ ?_ (by omega))
   rw [decide_eq_decide]
   omega
  exact Ev.neg (by omega) (J1 _ (decide_eq_false (by omega)).symm (by omega))
 by_cases c2 : 194 ≤ b0
 ·refine Ev.pos (by omega) (J0 _ ?_)
  rw [decide_eq_decide]
  omega
 exact Ev.neg (by omega) (J0 _ (decide_eq_false (by omega)).symm)
theorem could_ev (D : ByteArray) (hD : D.size ≤ 1099511627776) (i e : Nat) (h : i < e) (he : e ≤ D.size) :
  Ev (fun k => zaM.f k (D.extract i e)) ((run1 D i e : Int), decide (need (bN D i) ≠ 0 ∧ run1 D i e = need (bN D i))) := by
 have hsz := size_ext D i e (by omega) he
 have hb : ∀ t, t < (D.extract i e).size → bt (D.extract i e) (t : Int) = (bN D (i + t) : Int) := fun t ht => bt_ext D i e t he (by omega)
 have h0 : bt (D.extract i e) 0 = (bN D i : Int) := hb 0 (by omega)
 have hn4 := need_le (bN D i)
 refine could_f _ (bN D i) (by omega) h0 (bN_lt D i) _ (fun hn => by unfold run1; rw [if_pos (by omega)]; exact hn) (fun hn => by unfold run1; rw [if_pos (by omega)]; exact hn) (fun h2 => ?_)
 generalize D.extract i e = x at *
 have hr : run1 D i e = if ¬ (i + 1 < e ∧ loB (bN D i) ≤ bN D (i + 1) ∧ bN D (i + 1) ≤ hiB (bN D i)) then 1
  else if need (bN D i) = 2 then 2
  else if ¬ (i + 2 < e ∧ 128 ≤ bN D (i + 2) ∧ bN D (i + 2) ≤ 191) then 2
  else if need (bN D i) = 3 then 3
  else if ¬ (i + 3 < e ∧ 128 ≤ bN D (i + 3) ∧ bN D (i + 3) ≤ 191) then 3
  else 4 := by unfold run1; rw [if_neg (by omega)]
 rw [hr]
 clear hr
 refine cl_step x (by omega) _ 1 hn4 (by omega) _ _ (bN D (i + 1)) (fun h1 => hb 1 h1) _ (fun hc => if_pos (by omega)) (fun a1 a2 a3 a4 => ?_)
 rw [if_neg (fun hc => hc ⟨by omega, a3, a4⟩)]
 refine cl_step x (by omega) _ 2 hn4 (by omega) 128 191 (bN D (i + 2)) (fun h1 => hb 2 h1) _ (fun hc => ?_) (fun b1 b2 b3 b4 => ?_)
 ·by_cases hn2 : need (bN D i) = 2
  ·rw [if_pos hn2]
  rw [if_neg hn2, if_pos (by omega)]
 rw [if_neg (by omega), if_neg (fun hc => hc ⟨by omega, b3, b4⟩)]
 refine cl_step x (by omega) _ 3 hn4 (by omega) 128 191 (bN D (i + 3)) (fun h1 => hb 3 h1) _ (fun hc => ?_) (fun d1 d2 d3 d4 => ?_)
 ·by_cases hn3 : need (bN D i) = 3
  ·rw [if_pos hn3]
  rw [if_neg hn3, if_pos (by omega)]
 rw [if_neg (by omega), if_neg (fun hc => hc ⟨by omega, d3, d4⟩)]
 exact cl_step x (by omega) _ 4 hn4 (by omega) 128 191 (bN D (i + 4)) (fun h1 => hb 4 h1) _ (fun hc => rfl) (fun f1 => absurd f1 (by omega))
theorem ext2 (D : ByteArray) (a b c d : Nat) (h : a + d ≤ b) : (D.extract a b).extract c d = D.extract (a + c) (a + d) := by
 rw [ByteArray.extract_extract]
 congr 1
 omega
theorem ext_end (D : ByteArray) (a b c : Nat) (hab : a ≤ b) (hb : b ≤ D.size) : (D.extract a b).extract c (D.extract a b).size = D.extract (a + c) b := by
 rw [size_ext D a b hab hb, ext2 D a b c (b - a) (by omega)]
 congr 1
 omega
theorem u2_ext (big : Bool) (D : ByteArray) (a : Nat) (h : a + 2 ≤ D.size) : u2 big (D.extract a (a + 2)) 0 = u2 big D a := by
 unfold u2
 rw [get_ext D a (a + 2) 0 h (by omega), get_ext D a (a + 2) (0 + 1) h (by omega)]
 rfl
theorem u4_ext (big : Bool) (D : ByteArray) (a : Nat) (h : a + 4 ≤ D.size) : u4 big (D.extract a (a + 4)) 0 = u4 big D a := by
 unfold u4
 rw [get_ext D a (a + 4) 0 h (by omega), get_ext D a (a + 4) (0 + 1) h (by omega), get_ext D a (a + 4) (0 + 2) h (by omega), get_ext D a (a + 4) (0 + 3) h (by omega)]
 rfl
theorem unit2_f (f : Int) (D : ByteArray) (a : Nat) (h : a + 2 ≤ D.size) : zbD.f f (D.extract a (a + 2)) = some (u2 (decide (f = 2)) D a : Int) := by
 unfold zbD.f
 rw [if_pos (by rw [size_ext D a (a + 2) (by omega) h]; omega), u2_ext _ D a h]
theorem unit4_f (f : Int) (D : ByteArray) (a : Nat) (h : a + 4 ≤ D.size) : zbD.f f (D.extract a (a + 4)) = some (u4 (decide (f = 4)) D a : Int) := by
 unfold zbD.f
 have hs := size_ext D a (a + 4) (by omega) h
 rw [if_neg (by omega), if_pos (by omega), u4_ext _ D a h]
theorem in_f (p a b : Int) : impl_in.f p a b = some (decide (a ≤ p ∧ p ≤ b)) := by
 unfold impl_in.f
 by_cases h : p ≥ a
 ·rw [if_pos h, Option.some.injEq, decide_eq_decide]
  omega
 rw [if_neg h, decide_eq_false (by omega)]
theorem dec_ext (D : ByteArray) (i : Nat) (h : i < D.size) (hg : badAt D i = false) : (dec (D.extract i (i + (dec D i).2)) 0).1 = (dec D i).1 ∧ i + (dec D i).2 ≤ D.size := by
 have hb := dec_bd D i h
 have hgood := good_at D i h hg
 have hp : isPt ((dec D i).1 : Int) = true := isPt_iff.2 (by omega)
 obtain ⟨a1, a2, a3, a4, a5⟩ := dec_wr D i ((dec D i).1 : Int) hp _ hgood
 have hsz := size_ext D i (i + (dec D i).2) (by omega) (by omega)
 have hbytes : (bytesOf (D.extract i (i + (dec D i).2))).drop 0 = wrB ((dec D i).1 : Int) ++ [] := by
  have e1 : bytesOf (D.extract i (i + (dec D i).2)) = ((bytesOf D).drop i).take (dec D i).2 := by
   unfold bytesOf
   rw [Lib.extract_data, List.map_take, List.map_drop]
   congr 1
   omega
  rw [List.drop_zero, List.append_nil, e1, hgood, a3]
  simp
 obtain ⟨b1, b2, _⟩ := dec_wr (D.extract i (i + (dec D i).2)) 0 ((dec D i).1 : Int) hp [] hbytes
 exact ⟨by omega, by omega⟩
theorem rd_ats (x : ByteArray) (h : 0 < x.size) : (rd_T78 (ats x) 0).f0 = ((dec x 0).1 : Int) ∧ 0 < (ats x).length := by
 unfold ats
 rw [atsFrom_lt h]
 exact ⟨rfl, by simp⟩
theorem piece_ev (f : Int) (hf : 1 ≤ f ∧ f ≤ 5) (D : ByteArray) (hD : D.size ≤ 1099511627776) (i e : Nat) (h : i < e) (he : e ≤ D.size) :
  Ev (fun k => impl_piece.f k f (D.extract i e)) ((pcF f D i e).1, ((pcF f D i e).2.1 : Int), (pcF f D i e).2.2.1, (pcF f D i e).2.2.2) := by
 have hsz := size_ext D i e (by omega) he
 have hszI : ((D.extract i e).size : Int) = ((e - i : Nat) : Int) := by rw [hsz]
 unfold impl_piece.f
 by_cases c1 : f = 1
 ·refine Ev.pos c1 (Ev.bind (could_ev D hD i e h he) ?_)
  have hp : pcF f D i e = pcEight D i e := by unfold pcF; rw [if_pos c1]
  rw [hp]
  unfold pcEight
  have hrb := run1_bd D i e h
  have hn4 := need_le (bN D i)
  by_cases c2 : run1 D i e = 0
  ·rw [if_pos c2]
   exact Ev.pos (by dsimp only; omega) (Ev.now _)
  rw [if_neg c2]
  refine Ev.neg (by dsimp only; omega) ?_
  by_cases c3 : run1 D i e = need (bN D i)
  ·rw [if_pos c3]
   have hnz : need (bN D i) ≠ 0 := by omega
   refine Ev.pos (by rw [decide_eq_true ⟨hnz, c3⟩]) (Ev.pos (by dsimp only; omega) (Ev.pos (by dsimp only; omega) ?_))
   obtain ⟨d1, d2⟩ := run1_dec D i e h he hnz c3
   have hbad : badAt D i = false := by
    unfold badAt
    simp only [Bool.and_eq_false_iff, beq_eq_false_iff_ne]
    by_cases a : (dec D i).1 = 65533
    ·exact .inr fun hh => d2 ⟨a, hh⟩
    exact .inl a
   obtain ⟨x1, x2⟩ := dec_ext D i (by omega) hbad
   have ex : (D.extract i e).extract 0 ((run1 D i e : Int)).toNat = D.extract i (i + (dec D i).2) := by
    rw [Int.toNat_natCast, ext2 D i e 0 _ (by omega), c3, d1]
    rfl
   dsimp only
   rw [ex]
   have hs2 := size_ext D i (i + (dec D i).2) (by omega) x2
   refine Ev.bind (read_f _ (by omega)) ?_
   obtain ⟨y1, y2⟩ := rd_ats (D.extract i (i + (dec D i).2)) (by omega)
   refine Ev.pos (by omega) ((Ev.now _).to ?_)
   rw [y1, x1]
  rw [if_neg c3]
  refine Ev.neg (by rw [decide_eq_false (fun hc => c3 hc.2)]; simp) ((Ev.now _).to ?_)
  rw [hszI]
  have : ((run1 D i e : Int) == ((e - i : Nat) : Int)) = decide (i + run1 D i e = e) := by
   rw [Bool.eq_iff_iff, beq_iff_eq, decide_eq_true_iff]
   omega
  dsimp only
  rw [this]
 refine Ev.neg c1 ?_
 by_cases c3 : f ≤ 3
 ·have hp : pcF f D i e = pcSixteen (decide (f = 2)) D i e := by unfold pcF; rw [if_neg c1, if_pos c3]
  rw [hp]
  unfold pcSixteen
  refine Ev.pos c3 ?_
  by_cases s1 : e - i < 2
  ·rw [if_pos s1]
   refine Ev.pos (by omega) ((Ev.now _).to ?_)
   rw [hszI]
  rw [if_neg s1]
  refine Ev.neg (by omega) (Ev.pos (by omega) (Ev.pos (by omega) ?_))
  rw [ext2 D i e 0 2 (by omega), Nat.add_zero]
  refine Ev.bind (Ev.done (unit2_f f D i (by omega))) (Ev.bind (Ev.done (in_f _ _ _)) ?_)
  by_cases v1 : u2 (decide (f = 2)) D i < 55296 ∨ 57343 < u2 (decide (f = 2)) D i
  ·rw [if_pos v1]
   exact Ev.neg (by rw [decide_eq_false (by omega)]; simp) (Ev.now _)
  rw [if_neg v1]
  refine Ev.pos (by rw [decide_eq_true (by omega)]) ?_
  by_cases v2 : 56320 ≤ u2 (decide (f = 2)) D i
  ·rw [if_pos v2]
   exact Ev.pos (by omega) (Ev.now _)
  rw [if_neg v2]
  refine Ev.neg (by omega) ?_
  by_cases s2 : e - i < 4
  ·rw [if_pos s2]
   exact Ev.pos (by omega) (Ev.now _)
  rw [if_neg s2]
  refine Ev.neg (by omega) (Ev.pos (by omega) (Ev.pos (by omega) ?_))
  rw [ext2 D i e 2 4 (by omega)]
  refine Ev.bind (Ev.done (unit2_f f D (i + 2) (by omega))) (Ev.bind (Ev.done (in_f _ _ _)) ?_)
  have l2 := u2_lt (decide (f = 2)) D (i + 2)
  generalize u2 (decide (f = 2)) D (i + 2) = y at *
  generalize u2 (decide (f = 2)) D i = v at *
  by_cases v3 : 56320 ≤ y ∧ y ≤ 57343
  ·rw [if_pos v3]
   refine Ev.pos (by rw [decide_eq_true (by omega)]) ((Ev.now _).to ?_)
   rw [w64 (x := (v : Int) - 55296) (by omega) (by omega), w64 (x := ((v : Int) - 55296) * 1024) (by omega) (by omega), w64 (x := 65536 + ((v : Int) - 55296) * 1024) (by omega) (by omega), w64 (x := 65536 + ((v : Int) - 55296) * 1024 + (y : Int)) (by omega) (by omega), w64 (by omega) (by omega)]
   rfl
  rw [if_neg v3]
  exact Ev.neg (by rw [decide_eq_false (by omega)]; simp) (Ev.now _)
 have hp : pcF f D i e = pcWide (decide (f = 4)) D i e := by unfold pcF; rw [if_neg c1, if_neg c3]
 rw [hp]
 unfold pcWide
 refine Ev.neg c3 ?_
 by_cases s1 : e - i < 4
 ·rw [if_pos s1]
  refine Ev.pos (by omega) ((Ev.now _).to ?_)
  rw [hszI]
 rw [if_neg s1]
 refine Ev.neg (by omega) (Ev.pos (by omega) (Ev.pos (by omega) ?_))
 rw [ext2 D i e 0 4 (by omega), Nat.add_zero]
 refine Ev.bind (Ev.done (unit4_f f D i (by omega))) (Ev.bind (Ev.done (iPoint_eq _)) ?_)
 by_cases v1 : isPt (u4 (decide (f = 4)) D i : Int) = true
 ·exact Ev.pos v1 ((Ev.now _).to (by rw [if_pos v1]; rfl))
 exact Ev.neg v1 ((Ev.now _).to (by rw [if_neg v1]; rfl))
end Go.Proofs.YtfafjbolmeimmaaDoor.P
