import Derived.Test.YtpndenfhglaikaaPg8
set_option linter.all false
namespace Sg
open Go
set_option linter.unusedSectionVars false
set_option linter.unusedVariables false
section
variable {p : Plant} {s0 : State} {b : Nat} (hp : VP p) (hb : (b : Int) < p.buses)
include hp hb
end
section
variable {p : Plant} {s0 : State} {b : Nat} (hp : VP p) (hb : (b : Int) < p.buses)
include hp hb
end
theorem pick_eq (x n : Int) (hn : 1 ≤ n ∧ n ≤ 1000000) : ∃ b : Nat, m_kit_Pick x n = some (b : Int) ∧ (b : Int) < n := by
 unfold m_kit_Pick
 have h1 : decide (n < 1) = false := decide_eq_false (by omega)
 have h2 := Int.tmod_lt_of_pos x (show 0 < n by omega)
 have h3 : -n < x.tmod n := by
  have := Int.tmod_lt_of_pos (-x) (show 0 < n by omega)
  rw [Int.neg_tmod] at this; omega
 rw [h1, cond_false, asO_pos (by omega)]
 by_cases h : x.tmod n < 0
 ·have : decide (x.tmod n < 0) = true := decide_eq_true h
  rw [this, cond_true, wr (by omega)]
  exact ⟨(x.tmod n + n).toNat, by congr 1; omega, by omega⟩
 ·have : decide (x.tmod n < 0) = false := decide_eq_false h
  rw [this, cond_false]
  exact ⟨(x.tmod n).toNat, by congr 1; omega, by omega⟩
end Sg
