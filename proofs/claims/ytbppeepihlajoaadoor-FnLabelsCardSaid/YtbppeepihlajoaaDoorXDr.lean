/- The draws of texts always end, with a text of some length. -/
import Derived.Test.YtbppeepihlajoaaDoorB5
import Derived.Test.YtbppeepihlajoaaDoorB2
import Derived.Test.YtbppeepihlajoaaDoorXSnP
import Derived.Test.YtbppeepihlajoaaDoorXTx
namespace Go.Proofs.YtbppeepihlajoaaDoor.P
open Go.RowKit Go.Proofs.YtbppeepihlajoaaDoorW.PrintWords Go.Proofs.YtbppeepihlajoaaDoorW.PrintMore
set_option linter.unusedVariables false
def OkP (p : Int) : Prop := 0 ≤ p ∧ p ≤ 2000000
def Dr {α : Type} (z : Int) (g : Nat → Option (α × Int × Int × Int)) (P : α → Prop) : Prop := ∃ a p m, Ev g (a, p, m, z) ∧ P a ∧ OkP p
theorem Dr.ret {α : Type} {z : Int} {a : α} {p m : Int} {P : α → Prop} (h : P a) (hp : OkP p) : Dr z (fun _ => some (a, p, m, z)) P := ⟨a, p, m, Ev.now _, h, hp⟩
theorem Dr.bind {α β : Type} {z : Int} {g : Nat → Option (α × Int × Int × Int)} {f : Nat → (α × Int × Int × Int) → Option (β × Int × Int × Int)} {P : α → Prop} {Q : β → Prop} (h : Dr z g P) (k : ∀ a p m, P a → OkP p → Dr z (fun n => f n (a, p, m, z)) Q) : Dr z (fun n => (g n).bind (f n)) Q := by
 obtain ⟨a, p, m, h1, h2, h3⟩ := h
 obtain ⟨b, q, m', k1, k2, k3⟩ := k a p m h2 h3
 exact ⟨b, q, m', Ev.bind h1 k1, k2, k3⟩
theorem Dr.ev {γ β : Type} {z : Int} {g : Nat → Option γ} {f : Nat → γ → Option (β × Int × Int × Int)} {Q : β → Prop} {c : γ} (h : Ev g c) (k : Dr z (fun n => f n c) Q) : Dr z (fun n => (g n).bind (f n)) Q := by
 obtain ⟨b, q, m', k1, k2, k3⟩ := k
 exact ⟨b, q, m', Ev.bind h k1, k2, k3⟩
theorem Dr.lit {γ β : Type} {z : Int} {c : γ} {f : Nat → γ → Option (β × Int × Int × Int)} {Q : β → Prop} (k : Dr z (fun n => f n c) Q) : Dr z (fun n => (some c).bind (f n)) Q := k
theorem Dr.pos {β : Type} {z : Int} {c : Prop} [Decidable c] {a b : Nat → Option (β × Int × Int × Int)} {Q : β → Prop} (h : c) (k : Dr z a Q) : Dr z (fun n => if c then a n else b n) Q := by
 obtain ⟨x, q, m', k1, k2, k3⟩ := k
 exact ⟨x, q, m', Ev.pos h k1, k2, k3⟩
theorem Dr.neg {β : Type} {z : Int} {c : Prop} [Decidable c] {a b : Nat → Option (β × Int × Int × Int)} {Q : β → Prop} (h : ¬ c) (k : Dr z b Q) : Dr z (fun n => if c then a n else b n) Q := by
 obtain ⟨x, q, m', k1, k2, k3⟩ := k
 exact ⟨x, q, m', Ev.neg h k1, k2, k3⟩
theorem Dr.ite {β : Type} {z : Int} {c : Prop} [Decidable c] {a b : Nat → Option (β × Int × Int × Int)} {Q : β → Prop} (h : Dr z a Q) (k : Dr z b Q) : Dr z (fun n => if c then a n else b n) Q := by
 by_cases hc : c
 ·exact Dr.pos hc h
 exact Dr.neg hc k
theorem Dr.step {β : Type} {z : Int} {g f : Nat → Option (β × Int × Int × Int)} {Q : β → Prop} (h : ∀ k, g (k + 1) = f k) (k : Dr z f Q) : Dr z g Q := by
 obtain ⟨x, q, m', k1, k2, k3⟩ := k
 exact ⟨x, q, m', Ev.step h k1, k2, k3⟩
theorem Dr.mono {β : Type} {z : Int} {g : Nat → Option (β × Int × Int × Int)} {P Q : β → Prop} (h : Dr z g P) (k : ∀ a, P a → Q a) : Dr z g Q := by
 obtain ⟨x, q, m', k1, k2, k3⟩ := h
 exact ⟨x, q, m', k1, k x k2, k3⟩
theorem n_dr (l : List Int) (hl : l.length ≤ 1048576) (z p m a1 : Int) (hp : OkP p) (ha : a1 ≤ 9223372036854775807) : Dr z (fun _ => zaf.f l p m z a1) (fun r => 0 ≤ r ∧ (1 ≤ a1 → r < a1) ∧ (a1 < 1 → r = 0)) := by
 obtain ⟨r, q, m', h1, h2, h3, h4, h5, h6⟩ := n_ex l p m z a1 hp.1 (by have := hp.2; omega) (by omega) ha
 exact ⟨r, q, m', Ev.done h1, ⟨h2, h3, fun h => by omega⟩, h5, by have := hp.2; omega⟩
theorem one_dr (l : List Int) (hl : l.length ≤ 1048576) (z p m a1 : Int) (hp : OkP p) (ha : a1 ≤ 9223372036854775807) : Dr z (fun _ => zax.f l p m z a1) (fun _ => True) := by
 unfold zax.f
 exact Dr.bind (n_dr l hl z p m a1 hp ha) fun a p m h hp => Dr.ret trivial hp
theorem pt4_dr (l : List Int) (hl : l.length ≤ 1048576) (x4 : Int) (x : Bool) (z p m : Int) (hp : OkP p) : Dr z (fun k => zal.j4 k x4 x l p m z) (fun _ => True) := by
 refine Dr.step (fun k => by rw [zal.j4]) ?_
 repeat' first
  | exact Dr.ret trivial (by assumption)
  | (refine Dr.bind (n_dr l hl z _ _ _ (by assumption) (by decide)) fun a p m h hp => ?_; dsimp only at h hp ⊢)
  | (refine Dr.lit ?_; dsimp only)
  | refine Dr.pos (by first | exact And.left (by assumption) | (simp only [List.length_cons, List.length_nil]; omega)) ?_
  | refine Dr.ite ?_ ?_
theorem pt3_dr (l : List Int) (hl : l.length ≤ 1048576) (x4 : Int) (x : Bool) (z p m : Int) (hp : OkP p) : Dr z (fun k => zal.j3 k x4 x l p m z) (fun _ => True) := by
 refine Dr.step (fun k => by rw [zal.j3]) ?_
 repeat' first
  | exact Dr.ret trivial (by assumption)
  | exact pt4_dr l hl _ _ z _ _ (by assumption)
  | (refine Dr.bind (n_dr l hl z _ _ _ (by assumption) (by decide)) fun a p m h hp => ?_; dsimp only at h hp ⊢)
  | (refine Dr.lit ?_; dsimp only)
  | refine Dr.pos (by first | exact And.left (by assumption) | (simp only [List.length_cons, List.length_nil]; omega)) ?_
  | refine Dr.ite ?_ ?_
theorem pt2_dr (l : List Int) (hl : l.length ≤ 1048576) (x4 : Int) (x : Bool) (z p m : Int) (hp : OkP p) : Dr z (fun k => zal.j2 k x4 x l p m z) (fun _ => True) := by
 refine Dr.step (fun k => by rw [zal.j2]) ?_
 repeat' first
  | exact Dr.ret trivial (by assumption)
  | exact pt3_dr l hl _ _ z _ _ (by assumption)
  | (refine Dr.bind (n_dr l hl z _ _ _ (by assumption) (by decide)) fun a p m h hp => ?_; dsimp only at h hp ⊢)
  | (refine Dr.lit ?_; dsimp only)
  | refine Dr.pos (by first | exact And.left (by assumption) | (simp only [List.length_cons, List.length_nil]; omega)) ?_
  | refine Dr.ite ?_ ?_
theorem pt1_dr (l : List Int) (hl : l.length ≤ 1048576) (x4 : Int) (x : Bool) (z p m : Int) (hp : OkP p) : Dr z (fun k => zal.j1 k x4 x l p m z) (fun _ => True) := by
 refine Dr.step (fun k => by rw [zal.j1]) ?_
 repeat' first
  | exact Dr.ret trivial (by assumption)
  | exact pt2_dr l hl _ _ z _ _ (by assumption)
  | (refine Dr.bind (n_dr l hl z _ _ _ (by assumption) (by decide)) fun a p m h hp => ?_; dsimp only at h hp ⊢)
  | (refine Dr.lit ?_; dsimp only)
  | refine Dr.pos (by first | exact And.left (by assumption) | (simp only [List.length_cons, List.length_nil]; omega)) ?_
  | refine Dr.ite ?_ ?_
theorem pt0_dr (l : List Int) (hl : l.length ≤ 1048576) (x4 : Int) (x : Bool) (z p m : Int) (hp : OkP p) : Dr z (fun k => zal.j0 k x4 x l p m z) (fun _ => True) := by
 refine Dr.step (fun k => by rw [zal.j0]) ?_
 repeat' first
  | exact Dr.ret trivial (by assumption)
  | exact pt1_dr l hl _ _ z _ _ (by assumption)
  | (refine Dr.bind (n_dr l hl z _ _ _ (by assumption) (by decide)) fun a p m h hp => ?_; dsimp only at h hp ⊢)
  | (refine Dr.lit ?_; dsimp only)
  | refine Dr.pos (by first | exact And.left (by assumption) | (simp only [List.length_cons, List.length_nil]; omega)) ?_
  | refine Dr.ite ?_ ?_
theorem point_dr (l : List Int) (hl : l.length ≤ 1048576) (z p m : Int) (hp : OkP p) : Dr z (fun k => zal.f k l p m z) (fun _ => True) := by
 unfold zal.f
 repeat' first
  | exact Dr.ret trivial (by assumption)
  | exact pt0_dr l hl _ _ z _ _ (by assumption)
  | (refine Dr.bind (n_dr l hl z _ _ _ (by assumption) (by decide)) fun a p m h hp => ?_; dsimp only at h hp ⊢)
  | (refine Dr.lit ?_; dsimp only)
  | refine Dr.pos (by first | exact And.left (by assumption) | (simp only [List.length_cons, List.length_nil]; omega)) ?_
  | refine Dr.ite ?_ ?_
theorem txt_size4 (l : List Int) : (txt l).size ≤ 4 * l.length := by
 unfold txt
 rw [size_strOfNums]
 exact txtB_len l
theorem textOf_dr (l : List Int) (hl : l.length ≤ 1048576) (z : Int) : ∀ (j : Nat) (x : List Int) (p m : Int), OkP p → x.length + j ≤ 1000000 → Dr z (fun k => zaI.l0 k (j : Int) x l p m z) (fun t => t.size ≤ 4 * (x.length + j))
 | 0, x, p, m, hp, hx => by
  refine Dr.step (fun k => by rw [zaI.l0]) (Dr.neg (by omega) (Dr.ev (text_f x (by omega)) ?_))
  exact Dr.ret (P := fun t : ByteArray => t.size ≤ 4 * (x.length + 0)) (txt_size4 x) hp
 | j + 1, x, p, m, hp, hx => by
  refine Dr.step (fun k => by rw [zaI.l0]) (Dr.pos (by omega) (Dr.bind (point_dr l hl z p m hp) fun a p m _ hp => ?_))
  refine Dr.pos (by omega) ?_
  have e : wrap64 (((j + 1 : Nat) : Int) - 1) = (j : Int) := by rw [w64 (by omega) (by omega)]; omega
  dsimp only
  rw [e]
  refine (textOf_dr l hl z j (x ++ [a]) p m hp (by rw [List.length_append, List.length_singleton]; omega)).mono fun t ht => ?_
  rw [List.length_append, List.length_singleton] at ht
  omega
theorem long_dr (l : List Int) (z : Int) (s : ByteArray) (hs : s.size = 2) (n : Nat) (hn : n ≤ 1000000) : ∀ (d : Nat) (x : List Int) (p m : Int), OkP p → n + 1 ≤ x.length + d → x.length ≤ 2000000 → Dr z (fun k => zaM.l0 k s (n : Int) x l p m z) (fun t => t.size ≤ n)
 | 0, x, p, m, hp, hd, hx => by
  refine Dr.step (fun k => by rw [zaM.l0]) (Dr.neg (by omega) (Dr.pos (by omega) (Dr.pos (by omega) ?_)))
  refine Dr.ret ?_ hp
  rw [size_strOfNums, List.length_take]
  omega
 | d + 1, x, p, m, hp, hd, hx => by
  have hb : (bytesOf s).length = 2 := by unfold bytesOf; rw [List.length_map, Array.length_toList]; exact hs
  refine Dr.step (fun k => by rw [zaM.l0]) ?_
  by_cases h : (x.length : Int) < (n : Int)
  ·exact Dr.pos h (Dr.pos (by omega) (long_dr l z s hs n hn d (x ++ bytesOf s) p m hp (by rw [List.length_append, hb]; omega) (by rw [List.length_append, hb]; omega)))
  refine Dr.neg h (Dr.pos (by omega) (Dr.pos (by omega) ?_))
  refine Dr.ret ?_ hp
  rw [size_strOfNums, List.length_take]
  omega
theorem ext_size (s : ByteArray) (i j : Nat) : (s.extract i j).size ≤ s.size := by rw [ByteArray.size_extract]; omega
theorem spoil0_dr (l : List Int) (hl : l.length ≤ 1048576) (z p m : Int) (t : ByteArray) (ht : t.size ≤ 200000) (x : Int) (hx : 0 ≤ x ∧ x ≤ (t.size : Int)) (c : ByteArray) (hc : c.size ≤ 10) (f : Bool) (hf : x = (t.size : Int) → f = true) (hp : OkP p) : Dr z (fun k => zay.j0 k t x c f l p m z) (fun t => t.size ≤ 1000000) := by
 have e1 := fun i j => ext_size t i j
 have e2 := fun i j => ByteArray.size_append (a := t.extract i j) (b := c)
 refine Dr.step (fun k => by rw [zay.j0]) ?_
 have s1 : ∀ i j, (t.extract i j).size ≤ 200000 := fun i j => Nat.le_trans (ext_size t i j) ht
 have s2 : ∀ i j, (t.extract i j ++ c).size ≤ 200010 := fun i j => by rw [ByteArray.size_append]; have := s1 i j; omega
 have g1 := s1 0 x.toNat
 have g2 := s2 0 x.toNat
 have g3 := s1 x.toNat t.size
 cases f with
 | true =>
  refine Dr.pos rfl (Dr.pos hx.1 (Dr.pos hx.2 (Dr.pos (by omega) (Dr.pos (by omega) (Dr.ret ?_ hp)))))
  rw [ByteArray.size_append]
  omega
 | false =>
  have hne : x < (t.size : Int) := by
   rcases Int.lt_or_eq_of_le hx.2 with h | h
   ·exact h
   exact absurd (hf h) (by simp)
  have ew : wrap64 (x + 1) = x + 1 := w64 (by omega) (by omega)
  have g4 := s1 (x + 1).toNat t.size
  refine Dr.neg (by simp) (Dr.bind (one_dr l hl z p m 2 hp (by decide)) fun a p m _ hp => ?_)
  dsimp only
  rw [ew]
  refine Dr.ite (Dr.pos hx.1 (Dr.pos hx.2 (Dr.pos (by omega) (Dr.pos (by omega) (Dr.pos (by omega) (Dr.ret ?_ hp)))))) (Dr.pos hx.1 (Dr.pos hx.2 (Dr.pos (by omega) (Dr.pos (by omega) (Dr.pos (by omega) (Dr.pos (by omega) (Dr.ret ?_ hp)))))))
  ·rw [ByteArray.size_append]; omega
  rw [ByteArray.size_append]; omega
theorem spoil_dr (l : List Int) (hl : l.length ≤ 1048576) (z p m : Int) (t : ByteArray) (ht : t.size ≤ 200000) (hp : OkP p) : Dr z (fun k => zay.f k l p m z t) (fun t => t.size ≤ 1000000) := by
 unfold zay.f
 have ew : wrap64 ((t.size : Int) + 1) = (t.size : Int) + 1 := w64 (by omega) (by omega)
 rw [ew]
 refine Dr.bind (n_dr l hl z p m _ hp (by omega)) fun x p m hx hp => Dr.bind (n_dr l hl z p m 17 hp (by decide)) fun c p m hc hp => ?_
 dsimp only at hx hc hp ⊢
 have hx1 := hx.2.1 (by omega)
 refine Dr.pos hc.1 (Dr.pos (hc.2.1 (by decide)) (Dr.lit ?_))
 by_cases h : x = (t.size : Int)
 ·exact Dr.pos h (spoil0_dr l hl z p m t ht x ⟨hx.1, by omega⟩ _ (by rw [size_strOfNums]; simp) true (fun _ => rfl) hp)
 refine Dr.neg h (Dr.bind (one_dr l hl z p m 3 hp (by decide)) fun a p m _ hp => ?_)
 exact spoil0_dr l hl z p m t ht x ⟨hx.1, by omega⟩ _ (by rw [size_strOfNums]; simp) _ (fun e => absurd e h) hp
theorem text0_dr (l : List Int) (hl : l.length ≤ 1048576) (z p m : Int) (t : ByteArray) (ht : t.size ≤ 1000000) (hp : OkP p) : Dr z (fun k => zaz.j0 k t l p m z) (fun t => t.size ≤ 1000000) := by
 refine Dr.step (fun k => by rw [zaz.j0]) (Dr.bind (one_dr l hl z p m 200 hp (by decide)) fun a p m _ hp => ?_)
 refine Dr.ite (Dr.bind (n_dr l hl z p m 3 hp (by decide)) fun c p m hc hp => ?_) (Dr.ret ht hp)
 have hc2 := hc.2.1 (by decide)
 obtain ⟨j, hj⟩ : ∃ j : Nat, wrap64 (65535 + c) = (j : Int) := ⟨(65535 + c).toNat, by rw [w64 (by omega) (by omega)]; omega⟩
 have hj2 : j ≤ 70000 := by
  rw [w64 (by omega) (by omega)] at hj
  omega
 dsimp only
 rw [hj]
 unfold zaM.f
 refine Dr.bind (long_dr l z _ rfl j (by omega) (j + 1) [] p m hp (by simp) (by simp)) fun t p m ht hp => ?_
 exact Dr.ret (P := fun t : ByteArray => t.size ≤ 1000000) (by show t.size ≤ 1000000; omega) hp
theorem text_dr (l : List Int) (hl : l.length ≤ 1048576) (z p m : Int) (hz : 0 ≤ z ∧ z ≤ 12) (hp : OkP p) : Dr z (fun k => zaz.f k l p m z) (fun t => t.size ≤ 1000000) := by
 unfold zaz.f
 have ew : wrap64 (8 + wrap64 (2 * z)) = 8 + 2 * z := by rw [w64 (x := 2 * z) (by omega) (by omega), w64 (by omega) (by omega)]
 rw [ew]
 refine Dr.bind (n_dr l hl z p m _ hp (by omega)) fun x p m hx hp => ?_
 have hx1 := hx.2.1 (by omega)
 obtain ⟨j, rfl⟩ : ∃ j : Nat, x = (j : Int) := ⟨x.toNat, by have := hx.1; omega⟩
 unfold zaI.f
 refine Dr.bind (textOf_dr l hl z j [] p m hp (by simp; omega)) fun t p m ht hp => Dr.bind (one_dr l hl z p m 12 hp (by decide)) fun a p m _ hp => ?_
 have ht' : t.size ≤ 200000 := by rw [List.length_nil] at ht; omega
 exact Dr.ite (Dr.bind (spoil_dr l hl z p m t ht' hp) fun t p m ht hp => text0_dr l hl z p m t ht hp) (text0_dr l hl z p m t (by omega) hp)
theorem pick_dr (l : List Int) (hl : l.length ≤ 1048576) (z p m : Int) (ts : List ByteArray) (h0 : 0 < ts.length) (h1 : ts.length ≤ 1000000) (B : Nat) (hB : ∀ t ∈ ts, t.size ≤ B) (hp : OkP p) : Dr z (fun _ => spec_l01Src_pick.f l p m z ts) (fun t => t.size ≤ B) := by
 unfold spec_l01Src_pick.f
 refine Dr.bind (n_dr l hl z p m _ hp (by omega)) fun x p m hx hp => ?_
 have hx1 := hx.2.1 (by omega)
 refine Dr.pos hx.1 (Dr.pos hx1 (Dr.ret ?_ hp))
 have hx0 := hx.1
 obtain ⟨j, rfl⟩ : ∃ j : Nat, x = (j : Int) := ⟨x.toNat, by omega⟩
 have hj : j < ts.length := by omega
 have e : rdOf ByteArray.empty ts (j : Int) = ts[j] := by simp [rdOf, hj]
 rw [e]
 exact hB _ (List.getElem_mem hj)
theorem write_ev4 (q : Int) : ∃ t : ByteArray, Ev (fun k => zaF.f k q) t ∧ t.size ≤ 4 := by
 refine ⟨wrP q, wr_ev q, ?_⟩
 have := txt_size4 [q]
 have e : txt [q] = wrP q := by
  unfold txt txtB wrP wrB
  simp
 rw [e] at this
 simpa using this
theorem name_dr (l : List Int) (hl : l.length ≤ 1048576) (z x4 : Int) : ∀ (j : Nat) (x : ByteArray) (x5 p m : Int), OkP p → j ≤ 1000 → x.size + 4 * j ≤ 1000000 → Dr z (fun k => zaq.l0 k x x4 x5 (j : Int) l p m z) (fun t => t.size ≤ 1000000)
 | 0, x, x5, p, m, hp, hj, hx => Dr.step (fun k => by rw [zaq.l0]) (Dr.neg (by omega) (Dr.ret (by omega) hp))
 | j + 1, x, x5, p, m, hp, hj, hx => by
  have e : wrap64 (((j + 1 : Nat) : Int) - 1) = (j : Int) := by rw [w64 (by omega) (by omega)]; omega
  have J : ∀ (x5 p m : Int), OkP p → Dr z (fun k => zaq.j1 k x x4 x5 ((j + 1 : Nat) : Int) l p m z) (fun t => t.size ≤ 1000000) := by
   intro x5 p m hp
   refine Dr.step (fun k => by rw [zaq.j1, e]) ?_
   have app : ∀ t : ByteArray, t.size ≤ 4 → (x ++ t).size + 4 * j ≤ 1000000 := fun t ht => by rw [ByteArray.size_append]; omega
   refine Dr.ite ?_ (Dr.ite ?_ (Dr.ite ?_ ?_))
   ·refine Dr.bind (pick_dr l hl z p m _ (by simp) (by simp) 4 (by simp; decide) hp) fun t p m ht hp => ?_
    exact Dr.pos (by dsimp only; omega) (name_dr l hl z x4 j _ x5 p m hp (by omega) (app t ht))
   ·refine Dr.lit (Dr.bind (n_dr l hl z p m 9 hp (by decide)) fun c p m hc hp => ?_)
    refine Dr.pos hc.1 (Dr.pos (hc.2.1 (by decide)) ?_)
    obtain ⟨t, h1, h2⟩ := write_ev4 (wrap64 (x4 + rd [32, 33, 34, 37, 50, 0, 5, 80, 81] c))
    exact Dr.ev h1 (Dr.pos (by omega) (name_dr l hl z x4 j _ x5 p m hp (by omega) (app t h2)))
   ·refine Dr.lit (Dr.bind (n_dr l hl z p m 10 hp (by decide)) fun c p m hc hp => ?_)
    refine Dr.pos hc.1 (Dr.pos (hc.2.1 (by decide)) ?_)
    obtain ⟨t, h1, h2⟩ := write_ev4 (rd [1280, 1281, 8192, 4096, 24577, 2049, 9984, 10016, 7936, 609] c)
    exact Dr.ev h1 (Dr.pos (by omega) (name_dr l hl z x4 j _ x5 p m hp (by omega) (app t h2)))
   exact name_dr l hl z x4 j x x5 p m hp (by omega) (by omega)
  refine Dr.step (fun k => by rw [zaq.l0]) (Dr.pos (by omega) (Dr.bind (one_dr l hl z p m 8 hp (by decide)) fun a p m _ hp => ?_))
  exact Dr.ite (Dr.bind (n_dr l hl z p m 3 hp (by decide)) fun c p m _ hp => J c p m hp) (J x5 p m hp)
theorem nameText_dr (l : List Int) (hl : l.length ≤ 1048576) (z p m : Int) (hz : 0 ≤ z ∧ z ≤ 12) (hp : OkP p) : Dr z (fun k => zaq.f k l p m z) (fun t => t.size ≤ 1000000) := by
 unfold zaq.f
 refine Dr.bind (n_dr l hl z p m 3 hp (by decide)) fun c p m _ hp => Dr.bind (n_dr l hl z p m 3 hp (by decide)) fun d p m _ hp => ?_
 have hq : 0 ≤ Int.tdiv z 2 ∧ Int.tdiv z 2 ≤ 6 := by rw [Int.tdiv_eq_ediv_of_nonneg hz.1]; omega
 have ew : wrap64 (8 + wrap64 (Int.tdiv z 2)) = 8 + Int.tdiv z 2 := by rw [w64 (x := Int.tdiv z 2) (by omega) (by omega), w64 (by omega) (by omega)]
 dsimp only
 rw [ew]
 refine Dr.bind (n_dr l hl z p m _ hp (by omega)) fun x p m hx hp => ?_
 have hx1 := hx.2.1 (by omega)
 obtain ⟨j, rfl⟩ : ∃ j : Nat, x = (j : Int) := ⟨x.toNat, by have := hx.1; omega⟩
 exact name_dr l hl z _ j _ _ p m hp (by omega) (by show 0 + 4 * j ≤ 1000000; omega)
theorem source_ev (l : List Int) (hl : l.length ≤ 1048576) : ∃ m z : Int, Ev (fun k => zaH.f k l) (l, 0, m, z) ∧ 0 ≤ z ∧ z ≤ 12 := by
 unfold zaH.f
 suffices H : ∀ (d i : Nat) (mix : Int), l.length + 1 ≤ i + d → ∃ m z : Int, Ev (fun k => zaH.l0 k l (i : Int) l 0 mix 0) (l, 0, m, z) ∧ 0 ≤ z ∧ z ≤ 12 from H (l.length + 1) 0 _ (by omega)
 have hw : wrap64 ((l.length : Int) / 20) = (l.length : Int) / 20 := w64 (by omega) (by omega)
 have fin : ∀ mix : Int, ∃ m z : Int, Ev (fun _ => if wrap64 ((l.length : Int) / 20) > 12 then some (l, (0 : Int), mix, (12 : Int)) else some (l, 0, mix, wrap64 ((l.length : Int) / 20))) (l, 0, m, z) ∧ 0 ≤ z ∧ z ≤ 12 := by
  intro mix
  by_cases h : wrap64 ((l.length : Int) / 20) > 12
  ·exact ⟨mix, 12, Ev.pos h (Ev.now _), by omega, by omega⟩
  exact ⟨mix, _, Ev.neg h (Ev.now _), by omega, by omega⟩
 intro d
 induction d with
 | zero =>
  intro i mix hi
  obtain ⟨m, z, h1, h2⟩ := fin mix
  exact ⟨m, z, Ev.step (fun k => by rw [zaH.l0]) (Ev.neg (by omega) h1), h2⟩
 | succ d ih =>
  intro i mix hi
  by_cases h : (i : Int) < (l.length : Int)
  ·by_cases h64 : (i : Int) < 64
   ·obtain ⟨m, z, h1, h2⟩ := ih (i + 1) (IntKind.u64.wrap ((Go.bits .xor .u64 mix (IntKind.u64.wrap (rd l (i : Int)))) * 1099511628211)) (by omega)
    exact ⟨m, z, Ev.step (fun k => by rw [zaH.l0, w_succ i (by omega)]) (Ev.pos h (Ev.pos h64 (Ev.pos (by omega) h1))), h2⟩
   obtain ⟨m, z, h1, h2⟩ := fin mix
   exact ⟨m, z, Ev.step (fun k => by rw [zaH.l0]) (Ev.pos h (Ev.neg h64 h1)), h2⟩
  obtain ⟨m, z, h1, h2⟩ := fin mix
  exact ⟨m, z, Ev.step (fun k => by rw [zaH.l0]) (Ev.neg h h1), h2⟩
theorem drawLabel (l : List Int) (hl : l.length ≤ 1048576) : ∃ t : ByteArray, Ev (fun k => zaZ.f k l) t ∧ t.size ≤ 1000000 := by
 obtain ⟨m, z, h1, h2⟩ := source_ev l hl
 unfold zaZ.f
 obtain ⟨a, p, m', k1, _, k2⟩ := one_dr l hl z 0 m 2 ⟨by omega, by omega⟩ (by decide)
 by_cases h : a = true
 ·obtain ⟨t, p2, m2, t1, t2, _⟩ := text_dr l hl z p m' h2 k2
  exact ⟨t, Ev.bind h1 (Ev.bind k1 (Ev.pos h (Ev.bind t1 (Ev.now _)))), t2⟩
 obtain ⟨t, p2, m2, t1, t2, _⟩ := nameText_dr l hl z p m' h2 k2
 exact ⟨t, Ev.bind h1 (Ev.bind k1 (Ev.neg h (Ev.bind t1 (Ev.now _)))), by omega⟩
end Go.Proofs.YtbppeepihlajoaaDoor.P
