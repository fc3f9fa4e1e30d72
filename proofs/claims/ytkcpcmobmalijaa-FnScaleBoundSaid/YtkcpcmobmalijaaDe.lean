/- Plans that are grown at random. -/
import Derived.Test.YtkcpcmobmalijaaCg
set_option linter.unusedSimpArgs false
set_option linter.unusedVariables false
namespace Go.Pc
open Go Go.Proofs

/-- Numbers of a plan are small. -/
inductive Plan.Small : Plan → Prop
  | mk {op at_ pa : Int} {tu : Bool} {ks : List Plan} (h1 : -1000 ≤ op ∧ op ≤ 1000) (h2 : -1000 ≤ at_ ∧ at_ ≤ 1000) (h3 : -1000 ≤ pa ∧ pa ≤ 1000) (h4 : ks.length ≤ 2) (h5 : ∀ q ∈ ks, q.Small) : Small (.mk op at_ pa tu ks)

def Pane.Small (q : Pane) : Prop := (-1000 ≤ q.W ∧ q.W ≤ 1000) ∧ (-1000 ≤ q.H ∧ q.H ≤ 1000) ∧ (-1000 ≤ q.Ki ∧ q.Ki ≤ 1000)

/-- A work whose panes lie in an own row. -/
def wkc (W H : Int) (n : Nat) : OB := .cells [.val (.int .i64 W), .val (.int .i64 H), .os 2 4 0 n]

theorem fills_ext {W H W' H' : Int} {Ps E : List Pane} {pa : Int} {tu : Bool} {w h : Int} (hf : fills ⟨W, H, Ps⟩ pa tu w h = true) : fills ⟨W', H', Ps ++ E⟩ pa tu w h = true := by
  have h0 : 0 ≤ pa ∧ pa ≤ (Ps.length : Int) - 1 := Classical.byContradiction fun hn => by rw [fills_out ⟨W, H, Ps⟩ _ _ _ _ hn] at hf; cases hf
  obtain ⟨q, hq⟩ := get_lt (l := Ps) (i := pa.toNat) (by omega)
  rw [fills_in (k := ⟨W, H, Ps⟩) hq h0.1] at hf
  rw [fills_in (k := ⟨W', H', Ps ++ E⟩) (q := q) (by show (Ps ++ E)[pa.toNat]? = some q; rw [List.getElem?_append_left (by omega)]; exact hq) h0.1]
  exact hf

/-- A plan that is grown is one for its glass. -/
def GrownP (q : Plan) (Ps Ps' : List Pane) (w h : Int) (d : Nat) : Prop :=
  q.wf = true ∧ q.nodes + 1 ≤ 2 ^ (d + 1) ∧ (∃ t, Ps' = Ps ++ t ∧ (w ≤ 200 → h ≤ 200 → ∀ x ∈ t, x.ok)) ∧ ∀ (E : List Pane) (W H : Int), q.fits ⟨W, H, Ps' ++ E⟩ w h = true

theorem pow_two (d : Nat) : 2 ≤ 2 ^ (d + 1) := by
  have := Nat.pow_le_pow_right (n := 2) (by omega) (show 1 ≤ d + 1 by omega)
  omega
theorem GrownP.pane {W0 H0 : Int} {Ps t : List Pane} {i : Int} {tu : Bool} {w h : Int} (d : Nat) (hf : fills ⟨W0, H0, Ps ++ t⟩ i tu w h = true) (ht : w ≤ 200 → h ≤ 200 → ∀ x ∈ t, x.ok) : GrownP (.mk 1 0 i tu []) Ps (Ps ++ t) w h d :=
  ⟨by simp [Plan.wf, Plan.wfL, Plan.good, Plan.cut, Plan.op, Plan.ks, Plan.at_], by have := pow_two d; have : (Plan.mk 1 0 i tu []).nodes = 1 := by rw [Plan.nodes_eq]; rfl
                                                                                    omega, ⟨t, rfl, ht⟩, fun E W H => by rw [Plan.fits_pane _ _ _ _ (by rfl)]; exact fills_ext hf⟩
theorem GrownP.down {x y : Plan} {Ps P1 P2 : List Pane} {w h a : Int} {d : Nat} (h0 : 0 < d) (ha : 1 ≤ a ∧ a ≤ w - 1) (h1 : GrownP x Ps P1 a h (d - 1)) (h2 : GrownP y P1 P2 (w - a) h (d - 1)) : GrownP (.mk 2 a 0 false [x, y]) Ps P2 w h d := by
  obtain ⟨w1, n1, ⟨t1, rfl, o1⟩, f1⟩ := h1
  obtain ⟨w2, n2, ⟨t2, rfl, o2⟩, f2⟩ := h2
  refine ⟨by simp [Plan.wf, Plan.wfL, Plan.good, Plan.cut, Plan.op, Plan.ks, Plan.at_, Plan.pa, Plan.tu, w1, w2], ?_, ⟨t1 ++ t2, by simp, fun hw hh z hz => ?_⟩, fun E W H => ?_⟩
  · have e : d - 1 + 1 = d := by omega
    rw [e] at n1 n2
    rw [Plan.nodes_two (x := x) (y := y) rfl, Nat.pow_succ]
    omega
  · rcases List.mem_append.1 hz with hz | hz
    · exact o1 (by omega) hh z hz
    · exact o2 (by omega) hh z hz
  · have g1 := f1 (t2 ++ E) W H
    rw [← List.append_assoc] at g1
    rw [Plan.fits_down _ _ x y _ _ rfl rfl, Plan.at_, g1, f2]
    simp; omega
theorem GrownP.across {x y : Plan} {Ps P1 P2 : List Pane} {w h a : Int} {d : Nat} (h0 : 0 < d) (ha : 1 ≤ a ∧ a ≤ h - 1) (h1 : GrownP x Ps P1 w a (d - 1)) (h2 : GrownP y P1 P2 w (h - a) (d - 1)) : GrownP (.mk 3 a 0 false [x, y]) Ps P2 w h d := by
  obtain ⟨w1, n1, ⟨t1, rfl, o1⟩, f1⟩ := h1
  obtain ⟨w2, n2, ⟨t2, rfl, o2⟩, f2⟩ := h2
  refine ⟨by simp [Plan.wf, Plan.wfL, Plan.good, Plan.cut, Plan.op, Plan.ks, Plan.at_, Plan.pa, Plan.tu, w1, w2], ?_, ⟨t1 ++ t2, by simp, fun hw hh z hz => ?_⟩, fun E W H => ?_⟩
  · have e : d - 1 + 1 = d := by omega
    rw [e] at n1 n2
    rw [Plan.nodes_two (x := x) (y := y) rfl, Nat.pow_succ]
    omega
  · rcases List.mem_append.1 hz with hz | hz
    · exact o1 hw (by omega) z hz
    · exact o2 hw (by omega) z hz
  · have g1 := f1 (t2 ++ E) W H
    rw [← List.append_assoc] at g1
    rw [Plan.fits_across _ _ x y _ _ rfl rfl, Plan.at_, g1, f2]
    simp; omega

theorem wkc_len (W H : Int) (n : Nat) : wkc W H n = .cells [.val (.int .i64 W), .val (.int .i64 H), .os 2 4 0 n] := rfl
theorem rdr_x (xs : List Int) (p : Int) : rdr xs p = .cells [.sl (bys xs), .val (.int .i64 p)] := rfl

theorem DDe0 : type_of% @rdr_x ∧ type_of% @wkc_len := ⟨@rdr_x, @wkc_len⟩

end Go.Pc

/- Works and plans that are drawn. -/
namespace Go.Pc
open Go Go.Proofs

def Work.Small (k : Work) : Prop := (-1000 ≤ k.W ∧ k.W ≤ 1000) ∧ (-1000 ≤ k.H ∧ k.H ≤ 1000) ∧ k.Ps.length ≤ 24 ∧ ∀ q ∈ k.Ps, q.Small

end Go.Pc

/- What is drawn for the law of parts. -/
namespace Go.Pc
open Go Go.Proofs

theorem take_byte {xs : List Int} (hx : ∀ x ∈ xs, 0 ≤ x ∧ x < 256) : ∀ x ∈ xs.take 2000, 0 ≤ x ∧ x < 256 := fun x h => hx x (List.mem_of_mem_take h)

end Go.Pc
