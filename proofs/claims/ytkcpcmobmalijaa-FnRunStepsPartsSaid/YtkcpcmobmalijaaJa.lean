/- Plans with their sides exchanged: what both sides compute, and that it is undone by itself. -/
import Derived.Test.YtkcpcmobmalijaaIb
set_option linter.unusedSimpArgs false
set_option linter.unusedVariables false
namespace Go.Pc
open Go Go.Proofs

def Pane.swap (q : Pane) : Pane := ⟨q.H, q.W, q.Tu, q.Ki⟩
def Work.swap (k : Work) : Work := ⟨k.H, k.W, k.Ps.map Pane.swap⟩
def Box.swap (b : Box) : Box := ⟨b.Y, b.X, b.H, b.W⟩
/-- Both kinds of cuts exchanged. -/
def Plan.trans : Plan → Plan
  | .mk op at_ pa tu ks => if op = 2 ∨ op = 3 then match ks with | [x, y] => .mk (if op = 2 then 3 else 2) at_ 0 false [x.trans, y.trans] | _ => .mk op at_ pa tu ks else .mk op at_ pa tu ks
end Go.Pc
