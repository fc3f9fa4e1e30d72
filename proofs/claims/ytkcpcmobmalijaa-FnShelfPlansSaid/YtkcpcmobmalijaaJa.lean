/- Plans with their sides exchanged: what both sides compute, and that it is undone by itself. -/
import Derived.Test.YtkcpcmobmalijaaIb
set_option linter.unusedSimpArgs false
set_option linter.unusedVariables false
namespace Go.Pc
open Go Go.Proofs

theorem W8_map (f : AV → AV) (a b c d e g h i : AV) (l : List AV) : (W8 a b c d e g h i l).map f = W8 (f a) (f b) (f c) (f d) (f e) (f g) (f h) (f i) (l.map f) := rfl
theorem freeL_frzm (r k : Nat) (es : List (List AV)) {l : List AV} (h : freeL l = true) : l.map (AV.frz r k es) = l := by rw [← frzL_map]; exact freeL_frz r k es h
theorem Work.frzm (r k : Nat) (es : List (List AV)) (w : Work) : w.cs.map (AV.frz r k es) = w.cs := freeL_frzm r k es w.free
theorem Plan.frzm (r k : Nat) (es : List (List AV)) (w : Plan) : w.cs.map (AV.frz r k es) = w.cs := freeL_frzm r k es w.free

def Pane.swap (q : Pane) : Pane := ⟨q.H, q.W, q.Tu, q.Ki⟩
def Work.swap (k : Work) : Work := ⟨k.H, k.W, k.Ps.map Pane.swap⟩
def Box.swap (b : Box) : Box := ⟨b.Y, b.X, b.H, b.W⟩
theorem Work.swap_swap (k : Work) : k.swap.swap = k := by
  cases k; simp [Work.swap, Function.comp_def, Pane.swap]
theorem Box.swap_swap (b : Box) : b.swap.swap = b := rfl
theorem Work.swap_sheet (k : Work) : k.swap.sheet = k.sheet.swap := rfl
theorem Work.swap_ok {k : Work} (h : k.ok) : k.swap.ok := by
  unfold Work.ok at *
  refine ⟨h.2.1, h.1, fun p hp => ?_, by simp [Work.swap]; exact h.2.2.2⟩
  simp only [Work.swap, List.mem_map] at hp
  obtain ⟨q, hq, rfl⟩ := hp
  have := h.2.2.1 q hq
  unfold Pane.ok at *
  exact ⟨this.2.1, this.1, this.2.2⟩
theorem fills_swap (k : Work) (pa : Int) (tu : Bool) (w h : Int) : fills k.swap pa tu h w = fills k pa tu w h := by
  unfold fills
  split
  · rfl
  · simp only [Work.swap, List.getElem?_map]
    cases k.Ps[pa.toNat]? with
    | none => rfl
    | some q =>
      simp only [Option.map_some, Pane.swap]
      have e : decide (q.H ≠ q.W) = decide (q.W ≠ q.H) := decide_eq_decide.2 ⟨fun h e => h e.symm, fun h e => h e.symm⟩
      rw [e]
      cases tu
      · simp only [Bool.false_eq_true, if_false]; exact Bool.and_comm _ _
      · simp only [if_true, Bool.and_assoc]; rw [Bool.and_comm (decide (q.W = h))]

/-- Both kinds of cuts exchanged. -/
def Plan.trans : Plan → Plan
  | .mk op at_ pa tu ks => if op = 2 ∨ op = 3 then match ks with | [x, y] => .mk (if op = 2 then 3 else 2) at_ 0 false [x.trans, y.trans] | _ => .mk op at_ pa tu ks else .mk op at_ pa tu ks
theorem Plan.trans_cut {p x y : Plan} (hc : p.cut) (hk : p.ks = [x, y]) : p.trans = .mk (if p.op = 2 then 3 else 2) p.at_ 0 false [x.trans, y.trans] := by
  cases p; simp only [Plan.ks] at hk; subst hk; unfold Plan.cut at hc; simp only [Plan.op] at hc; rw [Plan.trans.eq_def]; simp only [if_pos hc, Plan.op, Plan.at_] <;> rfl
theorem Plan.trans_leaf {p : Plan} (hc : ¬ p.cut) : p.trans = p := by
  cases p; unfold Plan.cut at hc; simp only [Plan.op] at hc; rw [Plan.trans.eq_def]; simp only [if_neg hc]

/-- The other kind. -/
def sig (a : Int) : Int := if a = 2 then 3 else if a = 3 then 2 else a

/-- All that is told of a plan with its sides exchanged. -/
theorem Plan.trans_all : ∀ (p : Plan), p.wf = true → p.trans.wf = true ∧ p.trans.nodes = p.nodes ∧ (∀ k w h, p.trans.fits (Work.swap k) h w = p.fits k w h) ∧ p.trans.trans = p ∧ p.trans.op = sig p.op ∧ (∀ a, p.trans.stg (sig a) = p.stg a) ∧ ∀ b : Box, p.trans.places b.swap = (p.places b).map fun q => ⟨q.pa, q.tu, q.box.swap⟩ :=
  Plan.wf_ind (fun p hw hc => by
    rw [Plan.trans_leaf hc]
    refine ⟨hw, rfl, fun k w h => ?_, Plan.trans_leaf hc, ?_, fun a => by rw [Plan.stg_leaf hc, Plan.stg_leaf hc], fun b => ?_⟩
    · by_cases h1 : p.op = 1
      · rw [Plan.fits_pane _ p _ _ h1, Plan.fits_pane _ p _ _ h1, fills_swap]
      · unfold Plan.cut at hc
        rw [Plan.fits_else _ p _ _ h1 (by omega) (by omega), Plan.fits_else _ p _ _ h1 (by omega) (by omega)]
    · unfold Plan.cut at hc; unfold sig; rw [if_neg (by omega), if_neg (by omega)]
    · unfold Plan.places
      rw [Plan.parts_leaf hc, Plan.parts_leaf hc]
      by_cases h1 : p.op = 1 <;> simp [placeOf, h1]) (fun p x y hw hc hk hx hy ix iy => by
    obtain ⟨w1, n1, f1, e1, o1, s1, m1⟩ := ix
    obtain ⟨w2, n2, f2, e2, o2, s2, m2⟩ := iy
    have hpt := Plan.cut_pt hw hc
    have hn := Plan.nodes_two hk
    rw [Plan.trans_cut hc hk]
    generalize hq : Plan.mk (if p.op = 2 then 3 else 2) p.at_ 0 false [x.trans, y.trans] = q
    have qo : q.op = if p.op = 2 then 3 else 2 := by rw [← hq]; rfl
    have qs : q.op = sig p.op := by
      rw [qo]; unfold sig
      rcases hc with h | h <;> simp [h]
    have qa : q.at_ = p.at_ := by rw [← hq]; rfl
    have qk : q.ks = [x.trans, y.trans] := by rw [← hq]; rfl
    have qc : q.cut := by unfold Plan.cut; rw [qo]; split <;> simp
    refine ⟨Plan.wf_mk qc qk (by rw [← hq]; rfl) (by rw [← hq]; rfl) w1 w2, by rw [Plan.nodes_two qk, n1, n2, hn], fun k w h => ?_, ?_, qs, fun a => ?_, fun b => ?_⟩
    · rcases hc with h2 | h3
      · rw [if_pos h2] at qo
        rw [Plan.fits_across _ q _ _ _ _ qo qk, Plan.fits_down _ p _ _ _ _ h2 hk, qa, f1, f2]
      · rw [if_neg (by omega)] at qo
        rw [Plan.fits_down _ q _ _ _ _ qo qk, Plan.fits_across _ p _ _ _ _ h3 hk, qa, f1, f2]
    · rw [Plan.trans_cut qc qk, qa, e1, e2]
      conv => rhs; rw [Plan.eta p, hk, hpt.1, hpt.2]
      rw [qo]
      rcases hc with h | h <;> simp [h]
    · rw [Plan.stg_cut qc qk, Plan.stg_cut hc hk, qs, s1, s2]
      congr 1
      have : sig p.op = sig a ↔ p.op = a := by unfold sig; constructor <;> intro h <;> (repeat' split at h) <;> (try split) <;> omega
      simp only [this]
    · have h1 : placeOf (p, b) = none := by unfold placeOf; rw [if_neg]; simp only; unfold Plan.cut at hc; omega
      have h2 : placeOf (q, b.swap) = none := by unfold placeOf; rw [if_neg]; simp only; unfold Plan.cut at qc; omega
      have hs1 : (q.split b.swap).1 = (p.split b).1.swap := by
        unfold Plan.split
        rcases hc with h | h <;> simp [h, qo, qa, Box.swap]
      have hs2 : (q.split b.swap).2 = (p.split b).2.swap := by
        unfold Plan.split
        rcases hc with h | h <;> simp [h, qo, qa, Box.swap]
      unfold Plan.places at *
      rw [Plan.parts_cut qc qk, Plan.parts_cut hc hk, List.filterMap_cons, List.filterMap_cons, h1, h2, List.filterMap_append, List.filterMap_append, List.map_append, hs1, hs2, m1, m2])

theorem Plan.trans_valid {p : Plan} {k : Work} (hv : p.valid k) : p.trans.valid k.swap := by
  obtain ⟨w1, n1, f1, _⟩ := Plan.trans_all p hv.2.1.1
  exact ⟨Work.swap_ok hv.1, ⟨w1, by rw [n1]; exact hv.2.1.2⟩, by have := f1 k k.W k.H; exact this.trans hv.2.2⟩

theorem acall_frz {P : Program} {fx : List Nat} {g : FuncId} {args : List AV} {r k : Nat} {es : List (List AV)} {s : AS} {K : AV → AS → Prop} (hL : s.L[r]? = some (.vec k es)) (hfx : r ∉ fx) (h : ACall P fx (.fn g []) (args.map (AV.frz r k es)) (s.frz r k es) K) : ACall P fx (.fn g []) args s K :=
  acall_wk (by simp) (by have := wk_frz (fx := fx) (s := { s with tm := s.tm ++ args }) hL hfx; simpa [AS.frz] using this) h

end Go.Pc
