/- MirrorPlan of the program: its result has memory of its own. -/
import Derived.Test.YtkcpcmobmalijaaTr
import Derived.Test.YtkcpcmobmalijaaIb
set_option linter.unusedSimpArgs false
set_option linter.unusedVariables false
namespace Go.Pc
open Go Go.Proofs

/-- The result is this plan, with memory of its own. -/
def TreeR (q : Plan) (r : AV) (L : List OB) : Prop := ∃ S v, v.oneCell' = true ∧ r = .agg (q.csV v) ∧ L = [.forest S [(v, .sl (q.ks.map Plan.cs))]]

/-- A plan whose parts are marked. -/
def Plan.held (q : Plan) (k : Int) : List AV := [.val (.int .i64 q.op), .val (.int .i64 q.at_), .val (.int .i64 q.pa), .val (.bool q.tu), .sl ((markL q.ks k).map Plan.cs)]
end Go.Pc
