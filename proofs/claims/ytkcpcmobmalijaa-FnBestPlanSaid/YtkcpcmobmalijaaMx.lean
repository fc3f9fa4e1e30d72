/- The law of values: they are counted. -/
import Derived.Test.YtkcpcmobmalijaaMw
import Derived.Test.YtkcpcmobmalijaaKa
set_option linter.unusedSimpArgs false
set_option linter.unusedVariables false
namespace Go.Pc
open Go Go.Proofs

theorem ints_len' (l : List Int) : (ints l).length = l.length := by simp [ints]
theorem fin_kpv {R : AV → List OB → Prop} {s : AS} {k : Work} {q : Plan} {S : List Int} {r n : Nat} {es : List (List AV)} (hL : s.L[r]? = some (.vec 1 es)) (he : es = ints S) (hn : n = S.length) (hR : R (.tup [.agg k.cs, .agg q.cs, .sl (ints S)]) []) : Fin [] 0 R s (.tup [.agg k.cs, .agg q.cs, .os r 1 0 n]) := by
  subst he
  subst hn
  refine fin_frz hL (by simp) ?_
  simp only [AV.frz, frzL, if_true, Nat.zero_add, true_and, ints_len', Nat.le_refl, List.drop_zero, freeL_frz _ _ _ q.free, freeL_frz _ _ _ k.free]
  rw [List.take_of_length_le (by simp [ints])]
  exact fin_free (by simp [AV.free, freeL, Work.free, Plan.free]) hR

theorem Plan.value_prune {p : Plan} {k : Work} (hv : p.valid k) (vs : List Int) : p.prune.value k vs = p.value k vs := by
  obtain ⟨w1, n1, f1, m1⟩ := Plan.prune_all k p hv.2.1.1
  have hqv : p.prune.valid k := ⟨hv.1, ⟨w1, Nat.le_trans n1 hv.2.1.2⟩, f1 _ _ hv.2.2⟩
  unfold Plan.value Plan.worth
  rw [m1]
  by_cases hg : goodV k vs
  · rw [if_pos ⟨hqv, hg⟩, if_pos ⟨hv, hg⟩]
  · rw [if_neg fun h => hg h.2, if_neg fun h => hg h.2]

end Go.Pc
