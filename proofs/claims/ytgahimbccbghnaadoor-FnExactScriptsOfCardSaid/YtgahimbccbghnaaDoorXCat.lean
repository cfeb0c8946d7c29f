/- The program's and the reference's questions about a point's kind, as plain answers. -/
import Derived.Test.YtgahimbccbghnaaDoorS9
import Derived.Test.YtgahimbccbghnaaDoorS10
import Derived.Test.YtgahimbccbghnaaDoorS4
import Derived.Test.YtgahimbccbghnaaDoorS4
import Derived.Test.YtgahimbccbghnaaDoorXKd
namespace Go.Proofs.YtgahimbccbghnaaDoor.P
open Go.RowKit Go.Proofs.YtgahimbccbghnaaDoorW.PrintWords
set_option linter.unusedVariables false
/-- Is it a letter? -/
def ltr (p : Int) : Bool := decide (4 ≤ (kd p).1 ∧ (kd p).1 ≤ 7)
theorem Script_ev (p : Int) (h0 : 0 ≤ p) : Ev (fun k => impl_Script.f k p) (kd p).2 := by
  unfold impl_Script.f
  exact Ev.bind (kind_ev p h0) (Ev.now _)
theorem Category_ev (p : Int) (h0 : 0 ≤ p) : Ev (fun k => impl_Category.f k p) (kd p).1 := by
  unfold impl_Category.f
  exact Ev.bind (kind_ev p h0) (Ev.now _)
theorem isLetter_ev (p : Int) (h0 : 0 ≤ p) : Ev (fun k => impl_isLetter.f k p) (ltr p) := by
  unfold impl_isLetter.f
  refine Ev.bind (Category_ev p h0) ?_
  rw [in_f, Option.bind_some]
  exact Ev.now _
theorem sCat_ev (p : Int) (h0 : 0 ≤ p) (h1 : p < 1000000000) : Ev (fun k => spec_l01Cat.f k p) (kd p).1 := by
  unfold spec_l01Cat.f
  exact Ev.bind (known_ev p h0 h1) (Ev.now _)
theorem sScript_ev (p : Int) (h0 : 0 ≤ p) (h1 : p < 1000000000) : Ev (fun k => spec_l01Script.f k p) (kd p).2 := by
  unfold spec_l01Script.f
  exact Ev.bind (known_ev p h0 h1) (Ev.now _)
theorem sLetter_ev (p : Int) (h0 : 0 ≤ p) (h1 : p < 1000000000) : Ev (fun k => spec_l19Letter.f k p) (ltr p) := by
  unfold spec_l19Letter.f
  refine Ev.bind (sCat_ev p h0 h1) ?_
  unfold ltr
  generalize (kd p).1 = c
  by_cases h4 : c = 4
  · rw [if_pos h4, decide_eq_true (by omega)]; exact Ev.now _
  · rw [if_neg h4]
    by_cases h5 : c = 5
    · rw [if_pos h5, decide_eq_true (by omega)]; exact Ev.now _
    · rw [if_neg h5]
      by_cases h6 : c = 6
      · rw [if_pos h6, decide_eq_true (by omega)]; exact Ev.now _
      · rw [if_neg h6]
        by_cases h7 : c = 7
        · rw [h7]; exact Ev.now _
        · rw [show (c == 7) = false from beq_eq_false_iff_ne.2 h7, decide_eq_false (by omega)]; exact Ev.now _
end Go.Proofs.YtgahimbccbghnaaDoor.P
