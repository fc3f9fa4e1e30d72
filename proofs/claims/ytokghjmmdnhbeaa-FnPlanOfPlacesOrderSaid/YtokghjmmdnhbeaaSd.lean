/- Steps that are drawn. -/
import Derived.Test.YtokghjmmdnhbeaaSb
import Derived.Test.YtokghjmmdnhbeaaDe
import Derived.Test.YtokghjmmdnhbeaaAlf
set_option linter.unusedSimpArgs false
set_option linter.unusedVariables false
namespace Go.Pc
open Go Go.Proofs

theorem Plan.knots_len : ∀ (p : Plan), p.wf = true → ∀ n a, 2 * (p.knots n a).length + 1 = p.nodes :=
  Plan.wf_ind (fun p hw hc n a => by rw [Plan.knots_leaf hc, Plan.nodes_leaf hw hc]; rfl) (fun p x y hw hc hk hx hy ix iy n a => by
    have := Plan.nodes_two hk
    have := ix (n + 1) n
    have := iy (n + 1 + x.nodes) n
    rw [Plan.knots_cut hc hk]; simp; omega)

theorem ints_len (l : List Int) : (ints l).length = l.length := by simp [ints]

theorem placeIn_own {fx : List Nat} {S : List Int} (hS : S.length < 2 ^ 40) {r : Nat} {s : AS} (hL : s.L[r]? = some (.vec 1 (S.map fun x => [AV.val (.int .i64 x)]))) (n : Int) {K : AV → AS → Prop} (hK : K (.val (.int .i64 (placeI S n))) s) :
    ACall Try.prog fx (.fn 63 []) [.os r 1 0 S.length, .val (.int .i64 n)] s K := by
  refine acall_borrow hL (v := .int .i64 (placeI S n)) ?_ hK
  simp only [List.map_cons, List.map_nil, AV.frz, if_true, Nat.zero_add, List.drop_zero, true_and, List.length_map, Nat.le_refl]
  rw [List.take_of_length_le (by simp)]
  exact qcall_one (placeIn_c S n hS) rfl

def gap (f n j : Nat) : Nat := if j ≤ f then f - j else f + n - j
theorem gap_next {f n j : Nat} (hj : j < n) (hf : f < n) (hne : j ≠ f) : (if j + 1 = n then 0 else j + 1) < n ∧ gap f n (if j + 1 = n then 0 else j + 1) < gap f n j := by
  unfold gap
  split <;> split <;> split <;> omega

theorem rem_next {j n : Nat} (h : j < n) : Int.tmod ((j : Int) + 1) n = ((if j + 1 = n then 0 else j + 1 : Nat) : Int) := by
  split
  · rename_i e
    subst e
    simp
  · rw [Int.tmod_eq_of_lt (by omega) (by omega)]; simp

theorem fin_ints {xs : List Int} {p : Int} {R : AV → List OB → Prop} {s : AS} {r n : Nat} {S : List Int} {es : List (List AV)} (hr : r ≠ 0) (hL : s.L[r]? = some (.vec 1 es)) (he : es = ints S) (hn : n = S.length) (h0 : s.L[0]? = some (rdr xs p)) (hR : R (.sl (ints S)) [rdr xs p]) : Fin [0] 1 R s (.os r 1 0 n) := by
  subst he
  subst hn
  refine fin_frz hL (by simp [hr]) ?_
  simp only [AV.frz, if_true, Nat.zero_add, true_and, ints_len, Nat.le_refl, List.drop_zero]
  rw [List.take_of_length_le (by simp [ints])]
  refine fin_zero (.sl (ints S)) (rdr xs p) hR rfl ?_ (by simp) (by simp)
  simp [AS.frz, List.getElem?_set, hr, h0, rdr, OB.frz, AV.frz, OB.ren, AV.ren]

end Go.Pc
