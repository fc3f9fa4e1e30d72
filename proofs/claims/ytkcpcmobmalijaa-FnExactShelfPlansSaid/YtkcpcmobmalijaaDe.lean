/- Plans that are grown at random. -/
import Derived.Test.YtkcpcmobmalijaaCg
set_option linter.unusedSimpArgs false
set_option linter.unusedVariables false
namespace Go.Pc
open Go Go.Proofs

/-- A work whose panes lie in an own row. -/
def wkc (W H : Int) (n : Nat) : OB := .cells [.val (.int .i64 W), .val (.int .i64 H), .os 2 4 0 n]

theorem fills_ext {W H W' H' : Int} {Ps E : List Pane} {pa : Int} {tu : Bool} {w h : Int} (hf : fills ⟨W, H, Ps⟩ pa tu w h = true) : fills ⟨W', H', Ps ++ E⟩ pa tu w h = true := by
  have h0 : 0 ≤ pa ∧ pa ≤ (Ps.length : Int) - 1 := Classical.byContradiction fun hn => by rw [fills_out ⟨W, H, Ps⟩ _ _ _ _ hn] at hf; cases hf
  obtain ⟨q, hq⟩ := get_lt (l := Ps) (i := pa.toNat) (by omega)
  rw [fills_in (k := ⟨W, H, Ps⟩) hq h0.1] at hf
  rw [fills_in (k := ⟨W', H', Ps ++ E⟩) (q := q) (by show (Ps ++ E)[pa.toNat]? = some q; rw [List.getElem?_append_left (by omega)]; exact hq) h0.1]
  exact hf

/-- A plan that is grown is one for its glass. -/
def GrownP (q : Plan) (Ps Ps' : List Pane) (w h : Int) (d : Nat) : Prop :=
  q.wf = true ∧ q.nodes + 1 ≤ 2 ^ (d + 1) ∧ (∃ t, Ps' = Ps ++ t ∧ (w ≤ 200 → h ≤ 200 → ∀ x ∈ t, x.ok)) ∧ ∀ (E : List Pane) (W H : Int), q.fits ⟨W, H, Ps' ++ E⟩ w h = true

theorem pow_two (d : Nat) : 2 ≤ 2 ^ (d + 1) := by
  have := Nat.pow_le_pow_right (n := 2) (by omega) (show 1 ≤ d + 1 by omega)
  omega
theorem GrownP.pane {W0 H0 : Int} {Ps t : List Pane} {i : Int} {tu : Bool} {w h : Int} (d : Nat) (hf : fills ⟨W0, H0, Ps ++ t⟩ i tu w h = true) (ht : w ≤ 200 → h ≤ 200 → ∀ x ∈ t, x.ok) : GrownP (.mk 1 0 i tu []) Ps (Ps ++ t) w h d :=
  ⟨by simp [Plan.wf, Plan.wfL, Plan.good, Plan.cut, Plan.op, Plan.ks, Plan.at_], by have := pow_two d; have : (Plan.mk 1 0 i tu []).nodes = 1 := by rw [Plan.nodes_eq]; rfl
                                                                                    omega, ⟨t, rfl, ht⟩, fun E W H => by rw [Plan.fits_pane _ _ _ _ (by rfl)]; exact fills_ext hf⟩
theorem wkc_len (W H : Int) (n : Nat) : wkc W H n = .cells [.val (.int .i64 W), .val (.int .i64 H), .os 2 4 0 n] := rfl
theorem rdr_x (xs : List Int) (p : Int) : rdr xs p = .cells [.sl (bys xs), .val (.int .i64 p)] := rfl

theorem DDe0 : type_of% @rdr_x ∧ type_of% @wkc_len := ⟨@rdr_x, @wkc_len⟩

end Go.Pc

/- Works and plans that are drawn. -/
namespace Go.Pc
open Go Go.Proofs

end Go.Pc

/- What is drawn for the law of parts. -/
namespace Go.Pc
open Go Go.Proofs

end Go.Pc
