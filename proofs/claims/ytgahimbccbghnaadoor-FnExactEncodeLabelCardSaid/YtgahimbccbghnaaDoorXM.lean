/- Sets kept in a map with bools as values: laws for the walk (a look-up, a store), over any program. -/
import Derived.Maps.OwnOps
import Derived.Maps.Views
import Derived.Test.YtgahimbccbghnaaDoorQ0
namespace Go.Proofs.YtgahimbccbghnaaDoor.P
open Go Go.RowKit Go.Maps
variable {P : Program} {w : World} {b n : Nat}
theorem plainElem_bool_inv {H : Type} {e : TypeId} (he : P.underlying e = some .bool) {v : Value} {z : DataW H × List MemPlace} (h : plainElem P e v = some z) : ∃ x, v = .bool x ∧ z = (.lit (.bool x), []) := by
  unfold plainElem at h
  rw [he] at h
  cases v <;> simp at h
  exact ⟨_, rfl, h.symm⟩
/-- Block b is a map of at most n entries in which just the keys of 'seen' stand, each with true. -/
def IsSet (P : Program) (k e : TypeId) (w : World) (b n : Nat) (seen : Lit → Bool) : Prop :=
  ∃ D : DataW Unit, w.ownsMap P k (plainElem P e) b n D ∧ IsMap D ∧ ∀ l, WideAt.IsKeyLit l → D.atKey l (.lit (.bool false)) = .lit (.bool (seen l))
variable {k e : TypeId} {seen : Lit → Bool}
theorem IsSet.made (w : World) (P : Program) (k e : TypeId) : IsSet P k e (w.alloc (.map #[] 0)) w.heap.size 0 (fun _ => false) :=
  ⟨.map [], World.ownsMap_made _ _ _ _, isMap_empty, fun l _ => by simp [DataW.atKey]⟩
theorem IsSet.kept (h : IsSet P k e w b n seen) {w' : World} {row : Option Nat} (hg : w.grownBy w' row) (hne : some b ≠ row) : IsSet P k e w' b n seen := by
  obtain ⟨D, h1, h2⟩ := h
  exact ⟨D, h1.kept hg hne, h2⟩
theorem IsSet.below (h : IsSet P k e w b n seen) {w' : World} (hb : Below w.heap.size w w') : IsSet P k e w' b n seen :=
  h.kept (Go.Proofs.YtgahimbccbghnaaDoorW.PrintWords.grown_of_below hb none) (by simp)
theorem IsSet.alloc (h : IsSet P k e w b n seen) (o : Obj) : IsSet P k e (w.alloc o) b n seen := by
  obtain ⟨D, h1, h2⟩ := h
  exact ⟨D, h1.alloc o, h2⟩
theorem IsSet.drewN (h : IsSet P k e w b n seen) (m : Nat) : IsSet P k e (w.drewN m) b n seen := h
theorem IsSet.drew (h : IsSet P k e w b n seen) : IsSet P k e w.drew b n seen := h
theorem IsSet.mono (h : IsSet P k e w b n seen) {n' : Nat} (hn : n ≤ n') : IsSet P k e w b n' seen := by
  obtain ⟨D, h1, h2⟩ := h
  exact ⟨D, h1.mono hn, h2⟩
theorem IsSet.lt (h : IsSet P k e w b n seen) : b < w.heap.size := by
  obtain ⟨D, h1, h2⟩ := h
  exact h1.lt
theorem IsSet.congr (h : IsSet P k e w b n seen) {seen' : Lit → Bool} (hs : ∀ l, WideAt.IsKeyLit l → seen l = seen' l) : IsSet P k e w b n seen' := by
  obtain ⟨D, h1, h2, h3⟩ := h
  exact ⟨D, h1, h2, fun l hl => by rw [h3 l hl, hs l hl]⟩
/-- 'm[k]' at elements that are bools. -/
theorem wpList_lookup_set {ops : Array Oper} {rest : List Oper} {o : Oper} {a : Act} {Q : Exit → Act → World → Prop}
    (hg : o.guard = none) (m x : Operand) (t : TypeId) (hop : o.op = Op.lookup t m x false)
    (k e : TypeId) (K : Keyed P k) (ht : P.underlying t = some (.map k e)) (he : P.underlying e = some .bool) (hz : (zeroValue e).run P w = .ok (.bool false) w)
    (hm : a.eval m = .map (some b)) (hown : IsSet P k e w b n seen) (key : Value) (kl : Lit) (hx : a.eval x = key) (hkey : keyOf P k key = some kl) (hkl : WideAt.IsKeyLit kl) (c : Bool) (hc : seen kl = c)
    (hK : wpList P ops Q rest (a.put o.dst (.bool c)) w) :
    wpList P ops Q (o :: rest) a w := by
  subst hc
  obtain ⟨D, hD, hi, hs⟩ := hown
  refine wpList_plain hg fun K' hK' => ?_
  obtain ⟨v, ps, hrun, hv⟩ := hD.lookup K ht hz (plainElem_bool he false) hkey
  obtain ⟨c, rfl, hc⟩ := plainElem_bool_inv he hv
  simp only [Prod.mk.injEq] at hc
  have hs1 := hs kl hkl
  rw [hc.1] at hs1
  have hcc : c = seen kl := by injection hs1 with h1; injection h1
  subst hcc
  unfold Oper.wp
  simp [execOp, hop, hm, hx, hrun, Result.andThen]
  exact hK' _ _ hK
/-- 'm[k] = true'. -/
theorem wpList_store_set {ops : Array Oper} {rest : List Oper} {o : Oper} {a : Act} {Q : Exit → Act → World → Prop}
    (hg : o.guard = none) (m x v : Operand) (t : TypeId) (hop : o.op = Op.mapUpdate t m x v)
    (k e : TypeId) (K : Keyed P k) (ht : P.underlying t = some (.map k e)) (he : P.underlying e = some .bool)
    (hm : a.eval m = .map (some b)) (hown : IsSet P k e w b n seen) (hn : n < maxLen) (key : Value) (kl : Lit) (hx : a.eval x = key) (y : Bool) (hv : a.eval v = .bool y) (hkey : keyOf P k key = some kl) (hkl : WideAt.IsKeyLit kl)
    (hK : ∀ w', IsSet P k e w' b (n + 1) (fun l => if l.sameKey kl then y else seen l) → w.grownBy w' (some b) → wpList P ops Q rest (a.put o.dst undef) w') :
    wpList P ops Q (o :: rest) a w := by
  obtain ⟨D, hD, hi, hs⟩ := hown
  refine wpList_mapUpdate_own w hg m x v t hop k e K ht _ b n D hm hD hn key (.bool y) kl hx hv hkey (.lit (.bool y)) [] (plainElem_bool he y) ?_
  intro w' h1 h2
  refine hK w' ⟨_, h1, hi.put _ _, fun l hl => ?_⟩ h2
  show _ = DataW.lit (Lit.bool (if l.sameKey kl then y else seen l))
  by_cases h : l = kl
  · subst h
    rw [if_pos (WideAt.sameKey_self hkl), atKey_put_same hi hkl]
  · rw [if_neg (fun h' => h ((WideAt.sameKey_iff hkl).1 h')), atKey_put_other h, hs l hl]
end Go.Proofs.YtgahimbccbghnaaDoor.P
