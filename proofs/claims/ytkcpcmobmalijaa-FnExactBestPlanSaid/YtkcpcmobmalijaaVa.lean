/- MirrorPlan of the program: its result has memory of its own. -/
import Derived.Test.YtkcpcmobmalijaaTr
import Derived.Test.YtkcpcmobmalijaaIb
set_option linter.unusedSimpArgs false
set_option linter.unusedVariables false
namespace Go.Pc
open Go Go.Proofs

/-- The result is this plan, with memory of its own. -/
def TreeR (q : Plan) (r : AV) (L : List OB) : Prop := ∃ S v, v.oneCell' = true ∧ r = .agg (q.csV v) ∧ L = [.forest S [(v, .sl (q.ks.map Plan.cs))]]

/-- A call whose result is a plan with memory of its own. -/
theorem acall_borP {P : Program} {fx : List Nat} {f : FuncId} {args' : List AV} {q : Plan} (h : ACalls P f args' [] [] (TreeR q)) {args : List AV} {s : AS} (hb : BorL s.L args args')
    {K : AV → AS → Prop} (hK : ∀ S v, v.oneCell' = true → K (.agg (q.csV v)) { s with L := s.L ++ [.forest S [(v, .sl (q.ks.map Plan.cs))]] }) : ACall P fx (.fn f []) args s K :=
  acall_bor h hb (fun r L ⟨S, v, _, h1, h2⟩ => by subst h1; subst h2; exact ⟨rfl, rfl⟩) fun r L ⟨S, v, h0, h1, h2⟩ => by
    subst h1; subst h2
    exact hK S v h0

theorem mir_nodes (p : Plan) (k : Work) : (p.mir k).nodes ≤ 255 := by
  unfold Plan.mir
  by_cases hv : p.valid k
  · rw [if_pos hv]
    have := (Plan.mirror_all k p hv.2.1.1 k.sheet hv.2.2).2.1
    rw [show k.sheet.W = k.W from rfl] at this
    rw [this]; exact hv.2.1.2
  · rw [if_neg hv, Plan.zero_nodes]; decide

/-- A plan whose parts are marked. -/
def Plan.held (q : Plan) (k : Int) : List AV := [.val (.int .i64 q.op), .val (.int .i64 q.at_), .val (.int .i64 q.pa), .val (.bool q.tu), .sl ((markL q.ks k).map Plan.cs)]
theorem bor_held {L : List OB} (r : Nat) {S : Nat → Prop} {v : Value} {q : Plan} {k : Int} (h : L[r]? = some (.forest S [(v, .sl ((markL q.ks k).map Plan.cs))])) : Bor L (.agg (q.csV v)) (.agg (q.held k)) :=
  Bor.aggL (show BorL L [_, _, _, _, _] [_, _, _, _, _] from ⟨.free _ rfl, .free _ rfl, .free _ rfl, .free _ rfl, .item r 0 S _ v _ h rfl, trivial⟩)

end Go.Pc
