/- Mirrored plans: what both sides compute, and that it is undone by itself. -/
import Derived.Test.YtkcpcmobmalijaaHb
set_option linter.unusedSimpArgs false
set_option linter.unusedVariables false
namespace Go.Pc
open Go Go.Proofs

/-- Stages below a part of a kind. -/
def Plan.stg : Plan → Int → Int
  | .mk op at_ pa tu ks, a => if op = 2 ∨ op = 3 then match ks with | [x, y] => max (x.stg op) (y.stg op) + (if op = a then 0 else 1) | _ => 0 else 0
theorem Plan.stg_cut {p x y : Plan} (hc : p.cut) (hk : p.ks = [x, y]) (a : Int) : p.stg a = max (x.stg p.op) (y.stg p.op) + (if p.op = a then 0 else 1) := by
  cases p; simp only [Plan.ks] at hk; subst hk; unfold Plan.cut at hc; simp only [Plan.op] at hc; rw [Plan.stg.eq_def]; simp only [if_pos hc, Plan.op] <;> split <;> simp_all
theorem Plan.stg_leaf {p : Plan} (hc : ¬ p.cut) (a : Int) : p.stg a = 0 := by
  cases p; unfold Plan.cut at hc; simp only [Plan.op] at hc; rw [Plan.stg.eq_def]; simp only [if_neg hc]
end Go.Pc
