/- The draws of coded texts always end, with bytes of some length. -/
import Derived.Test.YtfafjbolmeimmaaDoorF8
import Derived.Test.YtfafjbolmeimmaaDoorF5
import Derived.Test.YtfafjbolmeimmaaDoorXSnP
import Derived.Test.YtfafjbolmeimmaaDoorXTx
namespace Go.Proofs.YtfafjbolmeimmaaDoor.P
open Go.RowKit Go.Proofs.YtfafjbolmeimmaaDoorW.PrintWords Go.Proofs.YtfafjbolmeimmaaDoorW.PrintMore
set_option linter.unusedVariables false
def OkP (p : Int) : Prop := 0 ≤ p ∧ p ≤ 2000000
def Dr {α : Type} (z : Int) (g : Nat → Option (α × Int × Int × Int)) (P : α → Prop) : Prop := ∃ a p m, Ev g (a, p, m, z) ∧ P a ∧ OkP p
theorem Dr.ret {α : Type} {z : Int} {a : α} {p m : Int} {P : α → Prop} (h : P a) (hp : OkP p) : Dr z (fun _ => some (a, p, m, z)) P := ⟨a, p, m, Ev.now _, h, hp⟩
theorem Dr.bind {α β : Type} {z : Int} {g : Nat → Option (α × Int × Int × Int)} {f : Nat → (α × Int × Int × Int) → Option (β × Int × Int × Int)} {P : α → Prop} {Q : β → Prop} (h : Dr z g P) (k : ∀ a p m, P a → OkP p → Dr z (fun n => f n (a, p, m, z)) Q) : Dr z (fun n => (g n).bind (f n)) Q := by
 obtain ⟨a, p, m, h1, h2, h3⟩ := h
 obtain ⟨b, q, m', k1, k2, k3⟩ := k a p m h2 h3
 exact ⟨b, q, m', Ev.bind h1 k1, k2, k3⟩
theorem Dr.ev {γ β : Type} {z : Int} {g : Nat → Option γ} {f : Nat → γ → Option (β × Int × Int × Int)} {Q : β → Prop} {c : γ} (h : Ev g c) (k : Dr z (fun n => f n c) Q) : Dr z (fun n => (g n).bind (f n)) Q := by
 obtain ⟨b, q, m', k1, k2, k3⟩ := k
 exact ⟨b, q, m', Ev.bind h k1, k2, k3⟩
theorem Dr.lit {γ β : Type} {z : Int} {c : γ} {f : Nat → γ → Option (β × Int × Int × Int)} {Q : β → Prop} (k : Dr z (fun n => f n c) Q) : Dr z (fun n => (some c).bind (f n)) Q := k
theorem Dr.pos {β : Type} {z : Int} {c : Prop} [Decidable c] {a b : Nat → Option (β × Int × Int × Int)} {Q : β → Prop} (h : c) (k : Dr z a Q) : Dr z (fun n => if c then a n else b n) Q := by
 obtain ⟨x, q, m', k1, k2, k3⟩ := k
 exact ⟨x, q, m', Ev.pos h k1, k2, k3⟩
theorem Dr.neg {β : Type} {z : Int} {c : Prop} [Decidable c] {a b : Nat → Option (β × Int × Int × Int)} {Q : β → Prop} (h : ¬ c) (k : Dr z b Q) : Dr z (fun n => if c then a n else b n) Q := by
 obtain ⟨x, q, m', k1, k2, k3⟩ := k
 exact ⟨x, q, m', Ev.neg h k1, k2, k3⟩
theorem Dr.ite {β : Type} {z : Int} {c : Prop} [Decidable c] {a b : Nat → Option (β × Int × Int × Int)} {Q : β → Prop} (h : Dr z a Q) (k : Dr z b Q) : Dr z (fun n => if c then a n else b n) Q := by
 by_cases hc : c
 ·exact Dr.pos hc h
 exact Dr.neg hc k
theorem Dr.step {β : Type} {z : Int} {g f : Nat → Option (β × Int × Int × Int)} {Q : β → Prop} (h : ∀ k, g (k + 1) = f k) (k : Dr z f Q) : Dr z g Q := by
 obtain ⟨x, q, m', k1, k2, k3⟩ := k
 exact ⟨x, q, m', Ev.step h k1, k2, k3⟩
theorem Dr.mono {β : Type} {z : Int} {g : Nat → Option (β × Int × Int × Int)} {P Q : β → Prop} (h : Dr z g P) (k : ∀ a, P a → Q a) : Dr z g Q := by
 obtain ⟨x, q, m', k1, k2, k3⟩ := h
 exact ⟨x, q, m', k1, k x k2, k3⟩
theorem n_dr (l : List Int) (hl : l.length ≤ 1048576) (z p m a1 : Int) (hp : OkP p) (ha : a1 ≤ 9223372036854775807) : Dr z (fun _ => zaj.f l p m z a1) (fun r => 0 ≤ r ∧ (1 ≤ a1 → r < a1) ∧ (a1 < 1 → r = 0)) := by
 obtain ⟨r, q, m', h1, h2, h3, h4, h5, h6⟩ := n_ex l p m z a1 hp.1 (by have := hp.2; omega) (by omega) ha
 exact ⟨r, q, m', Ev.done h1, ⟨h2, h3, fun h => by omega⟩, h5, by have := hp.2; omega⟩
theorem one_dr (l : List Int) (hl : l.length ≤ 1048576) (z p m a1 : Int) (hp : OkP p) (ha : a1 ≤ 9223372036854775807) : Dr z (fun _ => za5.f l p m z a1) (fun _ => True) := by
 unfold za5.f
 exact Dr.bind (n_dr l hl z p m a1 hp ha) fun a p m h hp => Dr.ret trivial hp
theorem pt4_dr (l : List Int) (hl : l.length ≤ 1048576) (x4 : Int) (x : Bool) (z p m : Int) (hp : OkP p) : Dr z (fun k => zaz.j4 k x4 x l p m z) (fun _ => True) := by
 refine Dr.step (fun k => by rw [zaz.j4]) ?_
 repeat' first
  | exact Dr.ret trivial (by assumption)
  | (refine Dr.bind (n_dr l hl z _ _ _ (by assumption) (by decide)) fun a p m h hp => ?_; dsimp only at h hp ⊢)
  | (refine Dr.lit ?_; dsimp only)
  | refine Dr.pos (by first | exact And.left (by assumption) | (simp only [List.length_cons, List.length_nil]; omega)) ?_
  | refine Dr.ite ?_ ?_
theorem pt3_dr (l : List Int) (hl : l.length ≤ 1048576) (x4 : Int) (x : Bool) (z p m : Int) (hp : OkP p) : Dr z (fun k => zaz.j3 k x4 x l p m z) (fun _ => True) := by
 refine Dr.step (fun k => by rw [zaz.j3]) ?_
 repeat' first
  | exact Dr.ret trivial (by assumption)
  | exact pt4_dr l hl _ _ z _ _ (by assumption)
  | (refine Dr.bind (n_dr l hl z _ _ _ (by assumption) (by decide)) fun a p m h hp => ?_; dsimp only at h hp ⊢)
  | (refine Dr.lit ?_; dsimp only)
  | refine Dr.pos (by first | exact And.left (by assumption) | (simp only [List.length_cons, List.length_nil]; omega)) ?_
  | refine Dr.ite ?_ ?_
theorem pt2_dr (l : List Int) (hl : l.length ≤ 1048576) (x4 : Int) (x : Bool) (z p m : Int) (hp : OkP p) : Dr z (fun k => zaz.j2 k x4 x l p m z) (fun _ => True) := by
 refine Dr.step (fun k => by rw [zaz.j2]) ?_
 repeat' first
  | exact Dr.ret trivial (by assumption)
  | exact pt3_dr l hl _ _ z _ _ (by assumption)
  | (refine Dr.bind (n_dr l hl z _ _ _ (by assumption) (by decide)) fun a p m h hp => ?_; dsimp only at h hp ⊢)
  | (refine Dr.lit ?_; dsimp only)
  | refine Dr.pos (by first | exact And.left (by assumption) | (simp only [List.length_cons, List.length_nil]; omega)) ?_
  | refine Dr.ite ?_ ?_
theorem pt1_dr (l : List Int) (hl : l.length ≤ 1048576) (x4 : Int) (x : Bool) (z p m : Int) (hp : OkP p) : Dr z (fun k => zaz.j1 k x4 x l p m z) (fun _ => True) := by
 refine Dr.step (fun k => by rw [zaz.j1]) ?_
 repeat' first
  | exact Dr.ret trivial (by assumption)
  | exact pt2_dr l hl _ _ z _ _ (by assumption)
  | (refine Dr.bind (n_dr l hl z _ _ _ (by assumption) (by decide)) fun a p m h hp => ?_; dsimp only at h hp ⊢)
  | (refine Dr.lit ?_; dsimp only)
  | refine Dr.pos (by first | exact And.left (by assumption) | (simp only [List.length_cons, List.length_nil]; omega)) ?_
  | refine Dr.ite ?_ ?_
theorem pt0_dr (l : List Int) (hl : l.length ≤ 1048576) (x4 : Int) (x : Bool) (z p m : Int) (hp : OkP p) : Dr z (fun k => zaz.j0 k x4 x l p m z) (fun _ => True) := by
 refine Dr.step (fun k => by rw [zaz.j0]) ?_
 repeat' first
  | exact Dr.ret trivial (by assumption)
  | exact pt1_dr l hl _ _ z _ _ (by assumption)
  | (refine Dr.bind (n_dr l hl z _ _ _ (by assumption) (by decide)) fun a p m h hp => ?_; dsimp only at h hp ⊢)
  | (refine Dr.lit ?_; dsimp only)
  | refine Dr.pos (by first | exact And.left (by assumption) | (simp only [List.length_cons, List.length_nil]; omega)) ?_
  | refine Dr.ite ?_ ?_
theorem point_dr (l : List Int) (hl : l.length ≤ 1048576) (z p m : Int) (hp : OkP p) : Dr z (fun k => zaz.f k l p m z) (fun _ => True) := by
 unfold zaz.f
 repeat' first
  | exact Dr.ret trivial (by assumption)
  | exact pt0_dr l hl _ _ z _ _ (by assumption)
  | (refine Dr.bind (n_dr l hl z _ _ _ (by assumption) (by decide)) fun a p m h hp => ?_; dsimp only at h hp ⊢)
  | (refine Dr.lit ?_; dsimp only)
  | refine Dr.pos (by first | exact And.left (by assumption) | (simp only [List.length_cons, List.length_nil]; omega)) ?_
  | refine Dr.ite ?_ ?_
theorem txt_size4 (l : List Int) : (txt l).size ≤ 4 * l.length := by
 unfold txt
 rw [size_strOfNums]
 exact txtB_len l
theorem textOf_dr (l : List Int) (hl : l.length ≤ 1048576) (z : Int) : ∀ (j : Nat) (x : List Int) (p m : Int), OkP p → x.length + j ≤ 1000000 → Dr z (fun k => za1.l0 k (j : Int) x l p m z) (fun t => t.size ≤ 4 * (x.length + j))
 | 0, x, p, m, hp, hx => by
  refine Dr.step (fun k => by rw [za1.l0]) (Dr.neg (by omega) (Dr.ev (text_f x (by omega)) ?_))
  exact Dr.ret (P := fun t : ByteArray => t.size ≤ 4 * (x.length + 0)) (txt_size4 x) hp
 | j + 1, x, p, m, hp, hx => by
  refine Dr.step (fun k => by rw [za1.l0]) (Dr.pos (by omega) (Dr.bind (point_dr l hl z p m hp) fun a p m _ hp => ?_))
  refine Dr.pos (by omega) ?_
  have e : wrap64 (((j + 1 : Nat) : Int) - 1) = (j : Int) := by rw [w64 (by omega) (by omega)]; omega
  dsimp only
  rw [e]
  refine (textOf_dr l hl z j (x ++ [a]) p m hp (by rw [List.length_append, List.length_singleton]; omega)).mono fun t ht => ?_
  rw [List.length_append, List.length_singleton] at ht
  omega
theorem long_dr (l : List Int) (z : Int) (s : ByteArray) (hs : s.size = 1) (n : Nat) (hn : n ≤ 1000000) : ∀ (d : Nat) (x : List Int) (p m : Int), OkP p → n + 1 ≤ x.length + d → x.length ≤ 2000000 → Dr z (fun k => zbo.l0 k s (n : Int) x l p m z) (fun t => t.size ≤ n)
 | 0, x, p, m, hp, hd, hx => by
  refine Dr.step (fun k => by rw [zbo.l0]) (Dr.neg (by omega) (Dr.pos (by omega) (Dr.pos (by omega) ?_)))
  refine Dr.ret ?_ hp
  rw [size_strOfNums, List.length_take]
  omega
 | d + 1, x, p, m, hp, hd, hx => by
  have hb : (bytesOf s).length = 1 := by unfold bytesOf; rw [List.length_map, Array.length_toList]; exact hs
  refine Dr.step (fun k => by rw [zbo.l0]) ?_
  by_cases h : (x.length : Int) < (n : Int)
  ·exact Dr.pos h (Dr.pos (by omega) (long_dr l z s hs n hn d (x ++ bytesOf s) p m hp (by rw [List.length_append, hb]; omega) (by rw [List.length_append, hb]; omega)))
  refine Dr.neg h (Dr.pos (by omega) (Dr.pos (by omega) ?_))
  refine Dr.ret ?_ hp
  rw [size_strOfNums, List.length_take]
  omega
theorem ext_size (s : ByteArray) (i j : Nat) : (s.extract i j).size ≤ s.size := by rw [ByteArray.size_extract]; omega
theorem spoil0_dr (l : List Int) (hl : l.length ≤ 1048576) (z p m : Int) (t : ByteArray) (ht : t.size ≤ 200000) (x : Int) (hx : 0 ≤ x ∧ x ≤ (t.size : Int)) (c : ByteArray) (hc : c.size ≤ 10) (f : Bool) (hf : x = (t.size : Int) → f = true) (hp : OkP p) : Dr z (fun k => zaU.j0 k t x c f l p m z) (fun t => t.size ≤ 1000000) := by
 have e1 := fun i j => ext_size t i j
 have e2 := fun i j => ByteArray.size_append (a := t.extract i j) (b := c)
 refine Dr.step (fun k => by rw [zaU.j0]) ?_
 have s1 : ∀ i j, (t.extract i j).size ≤ 200000 := fun i j => Nat.le_trans (ext_size t i j) ht
 have s2 : ∀ i j, (t.extract i j ++ c).size ≤ 200010 := fun i j => by rw [ByteArray.size_append]; have := s1 i j; omega
 have g1 := s1 0 x.toNat
 have g2 := s2 0 x.toNat
 have g3 := s1 x.toNat t.size
 cases f with
 | true =>
  refine Dr.pos rfl (Dr.pos hx.1 (Dr.pos hx.2 (Dr.pos (by omega) (Dr.pos (by omega) (Dr.ret ?_ hp)))))
  rw [ByteArray.size_append]
  omega
 | false =>
  have hne : x < (t.size : Int) := by
   rcases Int.lt_or_eq_of_le hx.2 with h | h
   ·exact h
   exact absurd (hf h) (by simp)
  have ew : wrap64 (x + 1) = x + 1 := w64 (by omega) (by omega)
  have g4 := s1 (x + 1).toNat t.size
  refine Dr.neg (by simp) (Dr.bind (one_dr l hl z p m 2 hp (by decide)) fun a p m _ hp => ?_)
  dsimp only
  rw [ew]
  refine Dr.ite (Dr.pos hx.1 (Dr.pos hx.2 (Dr.pos (by omega) (Dr.pos (by omega) (Dr.pos (by omega) (Dr.ret ?_ hp)))))) (Dr.pos hx.1 (Dr.pos hx.2 (Dr.pos (by omega) (Dr.pos (by omega) (Dr.pos (by omega) (Dr.pos (by omega) (Dr.ret ?_ hp)))))))
  ·rw [ByteArray.size_append]; omega
  rw [ByteArray.size_append]; omega
theorem spoil_dr (l : List Int) (hl : l.length ≤ 1048576) (z p m : Int) (t : ByteArray) (ht : t.size ≤ 200000) (hp : OkP p) : Dr z (fun k => zaU.f k l p m z t) (fun t => t.size ≤ 1000000) := by
 unfold zaU.f
 have ew : wrap64 ((t.size : Int) + 1) = (t.size : Int) + 1 := w64 (by omega) (by omega)
 rw [ew]
 refine Dr.bind (n_dr l hl z p m _ hp (by omega)) fun x p m hx hp => Dr.bind (n_dr l hl z p m 17 hp (by decide)) fun c p m hc hp => ?_
 dsimp only at hx hc hp ⊢
 have hx1 := hx.2.1 (by omega)
 refine Dr.pos hc.1 (Dr.pos (hc.2.1 (by decide)) (Dr.lit ?_))
 by_cases h : x = (t.size : Int)
 ·exact Dr.pos h (spoil0_dr l hl z p m t ht x ⟨hx.1, by omega⟩ _ (by rw [size_strOfNums]; simp) true (fun _ => rfl) hp)
 refine Dr.neg h (Dr.bind (one_dr l hl z p m 3 hp (by decide)) fun a p m _ hp => ?_)
 exact spoil0_dr l hl z p m t ht x ⟨hx.1, by omega⟩ _ (by rw [size_strOfNums]; simp) _ (fun e => absurd e h) hp
theorem pick_dr (l : List Int) (hl : l.length ≤ 1048576) (z p m : Int) (ts : List ByteArray) (h0 : 0 < ts.length) (h1 : ts.length ≤ 1000000) (B : Nat) (hB : ∀ t ∈ ts, t.size ≤ B) (hp : OkP p) : Dr z (fun _ => za9.f l p m z ts) (fun t => t.size ≤ B) := by
 unfold za9.f
 refine Dr.bind (n_dr l hl z p m _ hp (by omega)) fun x p m hx hp => ?_
 have hx1 := hx.2.1 (by omega)
 refine Dr.pos hx.1 (Dr.pos hx1 (Dr.ret ?_ hp))
 have hx0 := hx.1
 obtain ⟨j, rfl⟩ : ∃ j : Nat, x = (j : Int) := ⟨x.toNat, by omega⟩
 have hj : j < ts.length := by omega
 have e : rdOf ByteArray.empty ts (j : Int) = ts[j] := by simp [rdOf, hj]
 rw [e]
 exact hB _ (List.getElem_mem hj)
theorem source_ev (l : List Int) (hl : l.length ≤ 1048576) : ∃ m z : Int, Ev (fun k => zba.f k l) (l, 0, m, z) ∧ 0 ≤ z ∧ z ≤ 12 := by
 unfold zba.f
 suffices H : ∀ (d i : Nat) (mix : Int), l.length + 1 ≤ i + d → ∃ m z : Int, Ev (fun k => zba.l0 k l (i : Int) l 0 mix 0) (l, 0, m, z) ∧ 0 ≤ z ∧ z ≤ 12 from H (l.length + 1) 0 _ (by omega)
 have hw : wrap64 ((l.length : Int) / 20) = (l.length : Int) / 20 := w64 (by omega) (by omega)
 have fin : ∀ mix : Int, ∃ m z : Int, Ev (fun _ => if wrap64 ((l.length : Int) / 20) > 12 then some (l, (0 : Int), mix, (12 : Int)) else some (l, 0, mix, wrap64 ((l.length : Int) / 20))) (l, 0, m, z) ∧ 0 ≤ z ∧ z ≤ 12 := by
  intro mix
  by_cases h : wrap64 ((l.length : Int) / 20) > 12
  ·exact ⟨mix, 12, Ev.pos h (Ev.now _), by omega, by omega⟩
  exact ⟨mix, _, Ev.neg h (Ev.now _), by omega, by omega⟩
 intro d
 induction d with
 | zero =>
  intro i mix hi
  obtain ⟨m, z, h1, h2⟩ := fin mix
  exact ⟨m, z, Ev.step (fun k => by rw [zba.l0]) (Ev.neg (by omega) h1), h2⟩
 | succ d ih =>
  intro i mix hi
  by_cases h : (i : Int) < (l.length : Int)
  ·by_cases h64 : (i : Int) < 64
   ·obtain ⟨m, z, h1, h2⟩ := ih (i + 1) (IntKind.u64.wrap ((Go.bits .xor .u64 mix (IntKind.u64.wrap (rd l (i : Int)))) * 1099511628211)) (by omega)
    exact ⟨m, z, Ev.step (fun k => by rw [zba.l0, w_succ i (by omega)]) (Ev.pos h (Ev.pos h64 (Ev.pos (by omega) h1))), h2⟩
   obtain ⟨m, z, h1, h2⟩ := fin mix
   exact ⟨m, z, Ev.step (fun k => by rw [zba.l0]) (Ev.pos h (Ev.neg h64 h1)), h2⟩
  obtain ⟨m, z, h1, h2⟩ := fin mix
  exact ⟨m, z, Ev.step (fun k => by rw [zba.l0]) (Ev.neg h h1), h2⟩
theorem units_l (p : Int) (n : Nat) (hn : n ≤ 4) (little : Bool) : ∀ (d i : Nat) (l : List Int), i + d = n → l.length = n → ∃ r, Ev (fun k => za3.l0 k p (n : Int) little l (i : Int)) r ∧ r.length = n
 | 0, i, l, hi, hl => ⟨l, Ev.step (fun k => by rw [za3.l0]) (Ev.neg (by omega) (Ev.now _)), hl⟩
 | d + 1, i, l, hi, hl => by
  have e1 : wrap64 (8 * (i : Int)) = 8 * (i : Int) := w64 (by omega) (by omega)
  have e2 : wrap64 ((n : Int) - 1) = ((n - 1 : Nat) : Int) := by rw [w64 (by omega) (by omega)]; omega
  have e3 : wrap64 (((n - 1 : Nat) : Int) - (i : Int)) = ((n - 1 - i : Nat) : Int) := by rw [w64 (by omega) (by omega)]; omega
  have e4 := w_succ i (by omega)
  have E4 := zab.mk e4; clear e4
  cases little with
  | true =>
   obtain ⟨r, h1, h2⟩ := units_l p n hn true d (i + 1) (l.set (i : Int).toNat ((shr .i64 p (8 * (i : Int))) % 256)) (by omega) (by rw [List.length_set]; exact hl)
   exact ⟨r, Ev.step (fun k => by rw [za3.l0, e1, E4.out]) (Ev.pos (by omega) (Ev.pos rfl (Ev.pos (by omega) (Ev.pos (by omega) (Ev.pos (by omega) h1))))), h2⟩
  | false =>
   obtain ⟨r, h1, h2⟩ := units_l p n hn false d (i + 1) (l.set (((n - 1 - i : Nat) : Int)).toNat ((shr .i64 p (8 * (i : Int))) % 256)) (by omega) (by rw [List.length_set]; exact hl)
   exact ⟨r, Ev.step (fun k => by rw [za3.l0, e1, e2, e3, E4.out]) (Ev.pos (by omega) (Ev.neg (by simp) (Ev.pos (by omega) (Ev.pos (by omega) (Ev.pos (by omega) h1))))), h2⟩
theorem units_f (p : Int) (n : Nat) (hn : n ≤ 4) (little : Bool) : ∃ r, Ev (fun k => za3.f k p (n : Int) little) r ∧ r.length = n := by
 obtain ⟨r, h1, h2⟩ := units_l p n hn little n 0 (List.replicate (n : Int).toNat 0) (by omega) (by simp)
 exact ⟨r, by unfold za3.f; exact Ev.pos (by omega) (Ev.pos (by omega) h1), h2⟩
theorem encode_l (f : Int) (ps : List Int) (hps : ps.length ≤ 1000000) (little : Bool) : ∀ (d i : Nat) (acc : List Int), i + d = ps.length → acc.length ≤ 4 * i → ∃ r : ByteArray, Ev (fun k => zaH.l0 k f ps acc little (i : Int)) r ∧ r.size ≤ 4 * ps.length
 | 0, i, acc, hi, ha => ⟨strOfNums acc, Ev.step (fun k => by rw [zaH.l0]) (Ev.neg (by omega) (Ev.now _)), by rw [size_strOfNums]; omega⟩
 | d + 1, i, acc, hi, ha => by
  have go : ∀ x : List Int, x.length ≤ 4 → ∃ r : ByteArray, Ev (fun k => zaH.l0 k f ps (acc ++ x) little ((i + 1 : Nat) : Int)) r ∧ r.size ≤ 4 * ps.length := fun x hx =>
   encode_l f ps hps little d (i + 1) (acc ++ x) (by omega) (by rw [List.length_append]; omega)
  have e4 := zab.mk (w_succ i (by omega))
  by_cases c1 : f = 1
  ·have hb : (bytesOf (wrP (rd ps (i : Int)))).length ≤ 4 := by rw [bytesOf_wrP]; exact (wrB_len _).2
   have hb2 : (wrP (rd ps (i : Int))).size ≤ 4 := by rw [← bytesOf_length]; exact hb
   obtain ⟨r, h1, h2⟩ := go _ hb
   refine ⟨r, Ev.step (fun k => by rw [zaH.l0, e4.out]) ?_, h2⟩
   exact Ev.pos (by omega) (Ev.pos (by omega) (Ev.pos c1 (Ev.bind (wr_ev _) (Ev.pos (by omega) h1))))
  by_cases c4 : f ≥ 4
  ·obtain ⟨x, x1, x2⟩ := units_f (rd ps (i : Int)) 4 (by omega) little
   obtain ⟨r, h1, h2⟩ := go x (by omega)
   refine ⟨r, Ev.step (fun k => by rw [zaH.l0, e4.out]) ?_, h2⟩
   exact Ev.pos (by omega) (Ev.pos (by omega) (Ev.neg c1 (Ev.pos c4 (Ev.bind x1 (Ev.pos (by omega) h1)))))
  by_cases c5 : rd ps (i : Int) < 65536
  ·obtain ⟨x, x1, x2⟩ := units_f (rd ps (i : Int)) 2 (by omega) little
   obtain ⟨r, h1, h2⟩ := go x (by omega)
   refine ⟨r, Ev.step (fun k => by rw [zaH.l0, e4.out]) ?_, h2⟩
   exact Ev.pos (by omega) (Ev.pos (by omega) (Ev.neg c1 (Ev.neg c4 (Ev.pos c5 (Ev.bind x1 (Ev.pos (by omega) h1))))))
  obtain ⟨x, x1, x2⟩ := units_f (wrap64 (55296 + (wrap64 (Int.tdiv (wrap64 ((rd ps (i : Int)) - 65536)) 1024)))) 2 (by omega) little
  obtain ⟨y, y1, y2⟩ := units_f (wrap64 (56320 + (Int.tmod (wrap64 ((rd ps (i : Int)) - 65536)) 1024))) 2 (by omega) little
  obtain ⟨r, h1, h2⟩ := go (x ++ y) (by rw [List.length_append]; omega)
  rw [← List.append_assoc] at h1
  have hl : (acc ++ x).length = acc.length + 2 := by rw [List.length_append]; omega
  refine ⟨r, Ev.step (fun k => by rw [zaH.l0, e4.out]) ?_, h2⟩
  exact Ev.pos (by omega) (Ev.pos (by omega) (Ev.neg c1 (Ev.neg c4 (Ev.neg c5 (Ev.bind x1 (Ev.pos (by omega) (Ev.bind (Ev.done rfl) (Ev.bind y1 (Ev.pos (by omega) h1)))))))))
theorem encode_f (f : Int) (ps : List Int) (hps : ps.length ≤ 1000000) : ∃ r : ByteArray, Ev (fun k => zaH.f k f ps) r ∧ r.size ≤ 4 * ps.length := by
 have go : ∀ b : Bool, ∃ r : ByteArray, Ev (fun k => zaH.j0 k f ps [] b) r ∧ r.size ≤ 4 * ps.length := fun b => by
  obtain ⟨r, h1, h2⟩ := encode_l f ps hps b ps.length 0 [] (by omega) (by simp)
  exact ⟨r, Ev.step (fun k => by rw [zaH.j0]; rfl) h1, h2⟩
 unfold zaH.f
 by_cases c : f = 3
 ·obtain ⟨r, h1, h2⟩ := go true
  exact ⟨r, Ev.bind (Ev.done rfl) (Ev.pos c h1), h2⟩
 obtain ⟨r, h1, h2⟩ := go (f == 5)
 exact ⟨r, Ev.bind (Ev.done rfl) (Ev.neg c h1), h2⟩
theorem bytes_dr (l : List Int) (hl : l.length ≤ 1048576) (z : Int) (n : Nat) (hn : n ≤ 1000) : ∀ (d i : Nat) (x : List Int) (p m : Int), OkP p → i + d = n → x.length = i → Dr z (fun k => za4.l0 k (n : Int) x (i : Int) l p m z) (fun t => t.size ≤ n)
 | 0, i, x, p, m, hp, hi, hx => Dr.step (fun k => by rw [za4.l0]) (Dr.neg (by omega) (Dr.ret (by rw [size_strOfNums]; omega) hp))
 | d + 1, i, x, p, m, hp, hi, hx => by
  have e4 := zab.mk (w_succ i (by omega))
  refine Dr.step (fun k => by rw [za4.l0]) (Dr.pos (by omega) (Dr.bind (n_dr l hl z p m 256 hp (by decide)) fun a p m _ hp => ?_))
  refine Dr.pos (by omega) ?_
  dsimp only
  rw [e4.out]
  exact bytes_dr l hl z n hn d (i + 1) _ p m hp (by omega) (by rw [List.length_append, List.length_singleton]; omega)
theorem coded_dr (l : List Int) (hl : l.length ≤ 1048576) (z p m f : Int) (hz : 0 ≤ z ∧ z ≤ 12) (hp : OkP p) : Dr z (fun k => spec_l01Src_coded.f k l p m z f) (fun t => t.size ≤ 1000000) := by
 unfold spec_l01Src_coded.f
 have ew : wrap64 (6 + z) = 6 + z := w64 (by omega) (by omega)
 rw [ew]
 refine Dr.bind (n_dr l hl z p m _ hp (by omega)) fun x p m hx hp => ?_
 have hx1 := hx.2.1 (by omega)
 obtain ⟨j, rfl⟩ : ∃ j : Nat, x = (j : Int) := ⟨x.toNat, by have := hx.1; omega⟩
 unfold za1.f
 refine Dr.bind (textOf_dr l hl z j [] p m hp (by simp; omega)) fun t p m ht hp => ?_
 try dsimp only at ht ⊢
 have hts : t.size ≤ 200 := by simp at ht; omega
 have hpl : (pts t).length ≤ 200 := by have := pts_len t 0; unfold pts; omega
 obtain ⟨e, e1, e2⟩ := encode_f f (pts t) (by omega)
 refine Dr.ev (spoints_f t (by omega)) (Dr.ev e1 ?_)
 refine Dr.bind (n_dr l hl z p m 6 hp (by decide)) fun c p m hc hp => ?_
 dsimp only
 refine Dr.ite ?_ (Dr.ite ?_ (Dr.ite ?_ (Dr.ite ?_ ?_)))
 ·refine Dr.bind (n_dr l hl z p m 5 hp (by decide)) fun b p m hb hp => ?_
  have hb1 := hb.2.1 (by omega)
  obtain ⟨b, rfl⟩ : ∃ j : Nat, b = (j : Int) := ⟨b.toNat, by have := hb.1; omega⟩
  dsimp only
  unfold za4.f
  refine Dr.bind (bytes_dr l hl z b (by omega) b 0 [] p m hp (by omega) rfl) fun s p m hs hp => ?_
  try dsimp only at hs ⊢
  exact Dr.pos (by omega) (Dr.ret (by rw [ByteArray.size_append]; omega) hp)
 ·refine Dr.bind (spoil_dr l hl z p m e (by omega) hp) fun s p m hs hp => ?_
  exact Dr.ret hs hp
 ·have ew2 : wrap64 ((e.size : Int) + 1) = (e.size : Int) + 1 := w64 (by omega) (by omega)
  rw [ew2]
  refine Dr.bind (n_dr l hl z p m _ hp (by omega)) fun b p m hb hp => ?_
  have hb1 := hb.2.1 (by omega)
  refine Dr.pos hb.1 (Dr.pos (by dsimp only; omega) (Dr.ret ?_ hp))
  have := ext_size e 0 b.toNat
  dsimp only
  omega
 ·refine Dr.lit (Dr.bind (pick_dr l hl z p m _ (by simp) (by simp) 8 (by simp; decide) hp) fun s p m hs hp => ?_)
  try dsimp only at hs ⊢
  have q1 : (e ++ s).size = e.size + s.size := ByteArray.size_append
  refine Dr.pos (by omega) (Dr.lit (Dr.bind (pick_dr l hl z p m _ (by simp) (by simp) 8 (by simp; decide) hp) fun s2 p m hs2 hp => ?_))
  try dsimp only at hs2 ⊢
  have q2 : (e ++ s ++ s2).size = (e ++ s).size + s2.size := ByteArray.size_append
  exact Dr.pos (by omega) (Dr.ret (show (e ++ s ++ s2).size ≤ 1000000 by omega) hp)
 exact Dr.ret (by omega) hp
theorem drawDecode (l : List Int) (hl : l.length ≤ 1048576) : ∃ (f : Int) (t : ByteArray), Ev (fun k => za2.f k l) (f, t) ∧ t.size ≤ 1000000 := by
 obtain ⟨m, z, h1, h2⟩ := source_ev l hl
 have fin : ∀ (f : Int) (t : ByteArray) (p m : Int), t.size ≤ 1000000 → OkP p → ∃ (f' : Int) (t' : ByteArray), Ev (fun k => za2.j0 k f t l p m z) (f', t') ∧ t'.size ≤ 1000000 := by
  intro f t p m ht hp
  obtain ⟨a, p2, m2, k1, _, k2⟩ := one_dr l hl z p m 100 hp (by decide)
  by_cases ha : a = true
  ·obtain ⟨c, p3, m3, c1, c2, c3⟩ := n_dr l hl z p2 m2 3 k2 (by decide)
   have hc := c2.2.1 (by decide)
   have hc0 := c2.1
   obtain ⟨j, hj⟩ : ∃ j : Nat, wrap64 (21845 + c) = (j : Int) := ⟨(21845 + c).toNat, by rw [w64 (by omega) (by omega)]; omega⟩
   have hj2 : j ≤ 70000 := by rw [w64 (by omega) (by omega)] at hj; omega
   obtain ⟨t', p4, m4, t1, t2, _⟩ := long_dr l z (⟨#[255]⟩ : ByteArray) rfl j (by omega) (j + 1) [] p3 m3 c3 (by simp) (by simp)
   refine ⟨f, t', Ev.step (fun k => by rw [za2.j0]) (Ev.bind k1 (Ev.pos ha (Ev.bind c1 (Ev.bind (a := (t', p4, m4, z)) ?_ (Ev.now (f, t')))))), by omega⟩
   dsimp only
   rw [hj]
   exact t1
  exact ⟨f, t, Ev.step (fun k => by rw [za2.j0]) (Ev.bind k1 (Ev.neg ha (Ev.now _))), ht⟩
 unfold za2.f
 obtain ⟨f, p1, m1, f1, _, f3⟩ : Dr z (fun _ => spec_l01Src_form.f l 0 m z) (fun _ => True) := by
  unfold spec_l01Src_form.f
  exact Dr.bind (n_dr l hl z 0 m 5 ⟨by omega, by omega⟩ (by decide)) fun a p m _ hp => Dr.ret trivial hp
 obtain ⟨t, p2, m2, t1, t2, t3⟩ := coded_dr l hl z p1 m1 f h2 f3
 obtain ⟨a, p3, m3, k1, _, k2⟩ := one_dr l hl z p2 m2 8 t3 (by decide)
 by_cases ha : a = true
 ·obtain ⟨c, p4, m4, c1, _, c3⟩ := n_dr l hl z p3 m3 8 k2 (by decide)
  obtain ⟨f2, t', q1, q2⟩ := fin (wrap64 (c - 1)) t p4 m4 t2 c3
  exact ⟨f2, t', Ev.bind h1 (Ev.bind f1 (Ev.bind t1 (Ev.bind k1 (Ev.pos ha (Ev.bind c1 q1))))), q2⟩
 obtain ⟨f2, t', q1, q2⟩ := fin f t p3 m3 t2 k2
 exact ⟨f2, t', Ev.bind h1 (Ev.bind f1 (Ev.bind t1 (Ev.bind k1 (Ev.neg ha q1)))), q2⟩
end Go.Proofs.YtfafjbolmeimmaaDoor.P
