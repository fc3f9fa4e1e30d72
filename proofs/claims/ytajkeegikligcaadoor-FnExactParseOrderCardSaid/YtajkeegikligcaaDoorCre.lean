/- Texts that are read: the program, in worlds of the shape that every call begins in. -/
import Derived.Test.YtajkeegikligcaaDoorCrd
import Derived.Test.YtajkeegikligcaaDoorAlh
import Derived.ChangeAgain
set_option linter.unusedSimpArgs false
set_option linter.unusedVariables false
namespace Go.Pc
open Go Go.Proofs Go.Lib Go.RowKit

theorem shaped_fr {P : Program} {w w' : World} {o : Nat → Prop} (h : w.ShapedOpen P) (hf : Fr o w w') (ho : ∀ b, b < P.low → ¬ o b) (hl : P.low ≤ w.heap.size) : w'.ShapedOpen P := by
  have same : ∀ i, i < P.low → w'.heap[i]? = w.heap[i]? := fun i hi => hf.same i (by omega) (ho i hi)
  have hsh : ∀ (b : Nat) x, w.shape? b = some x → w'.shape? b = some x := fun b x hx => by
    by_cases hb : o b
    · unfold World.shape? at hx ⊢
      cases hc : w.heap[b]? with
      | none => simp [hc] at hx
      | some ob =>
        cases ob with
        | cells c e f =>
          obtain ⟨c', h1, h2⟩ := hf.size b c e f hc
          rw [hc] at hx
          rw [h1]
          simpa [h2] using hx
        | _ => simp [hc] at hx
    · by_cases hlt : b < w.heap.size
      · unfold World.shape? at hx ⊢
        rw [hf.same b hlt hb]; exact hx
      · unfold World.shape? at hx
        rw [Array.getElem?_eq_none (by omega)] at hx
        cases hx
  refine ⟨fun g zero t hg hz => ?_, fun k hk1 hk2 => ?_⟩
  · obtain ⟨cs, h1, h2, h3⟩ := h.1 g zero t hg hz
    have hlow : g < P.low := by
      unfold Program.low
      rcases Nat.lt_or_ge g (begin P (fun _ _ => 0) default).world.heap.size with h' | h'
      · exact h'
      · simp [Array.getElem?_eq_none h'] at hz
    exact ⟨cs, (same g hlow).trans h1, h2, fun hb => Row.ok_of_shape hsh (h3 hb)⟩
  · obtain ⟨ob, o₀, h1, h2, h3⟩ := h.2 k hk1 hk2
    exact ⟨ob, o₀, (same k hk2).trans h1, h2, h3⟩

/-- The world has the shape that every call begins in, and what lies there from the start is not the call's own. -/
def KShp (ρ : Env) (w : World) : Prop := w.ShapedOpen Tryd.prog ∧ Tryd.prog.low ≤ w.heap.size ∧ ∀ b, b < Tryd.prog.low → ¬ own ρ b
theorem KShp.stays : Stays KShp := fun fx ρ w ρ' w' ⟨h1, h2, h3⟩ hst =>
  ⟨shaped_fr h1 hst.fr h3 h2, Nat.le_trans h2 hst.fr.le, fun b hb ho => h3 b hb (hst.sub b (by omega) ho)⟩
theorem KShp.shrinks : Shrinks KShp := fun ρ ρ' w ⟨h1, h2, h3⟩ hs => ⟨h1, h2, fun b hb ho => h3 b hb (hs b ho)⟩

theorem below_drewN (w : World) : ∀ n, Below w.heap.size w (w.drewN n)
  | 0 => Below.refl _ _
  | n + 1 => (below_drewN w n).drew

theorem tup3 {w : World} {ρ : Env} (a b c : Value) : VR w ρ (.tuple #[a, b, c]) (.tup [.val a, .val b, .val c]) := by
  refine .tup _ _ rfl fun j v z hv hz => ?_
  match j, hv, hz with
  | 0, hv, hz => cases hv; cases hz; exact .pr (.val _)
  | 1, hv, hz => cases hv; cases hz; exact .pr (.val _)
  | 2, hv, hz => cases hv; cases hz; exact .pr (.val _)
  | j + 3, _, hz => simp at hz

theorem cut_k (s : List UInt8) (c : UInt8) (hs : s.length ≤ 1048576) : ACallsK Tryd.prog KShp 40 [.val (.string (strB s)), .val (.string (strB [c]))] [] []
    (fun r L => r = .tup [.val (.string (strB (Lib.cut s [c]).1)), .val (.string (strB (Lib.cut s [c]).2.1)), .val (.bool (Lib.cut s [c]).2.2)] ∧ L = []) := by
  refine ⟨enters_of Tryd.func40 (by kernel_rfl) (by kernel_rfl), fun ρ w vs hk hr hvl hv => ?_⟩
  obtain ⟨vl⟩ := vs
  match vl, hvl with
  | [v0, v1], _ =>
    have e0 := val_inv (hv 0 v0 _ rfl rfl)
    have e1 := val_inv (hv 1 v1 _ rfl rfl)
    subst e0; subst e1
    refine (Tryd.strings_Cut_shaped (strB s) (strB [c]) w hk.1 (by rw [strB_size]; omega)).mono fun e w' ⟨he, n, hw⟩ => ?_
    have hg : Grow w w' := by rw [hw]; exact below_growE (below_drewN w n)
    exact ⟨_, _, [], ρ, he, ⟨rfl, rfl⟩, Nat.zero_le _, tup3 _ _ _, hr.grow hg, .grow hg⟩

theorem split_k (s : List UInt8) (c : UInt8) (hs : s.length ≤ 1048576) : ACallsK Tryd.prog KShp 57 [.val (.string (strB s)), .val (.string (strB [c]))] [] [] (fun r L => r = .sl (strs (sp c s)) ∧ L = []) := by
  refine ⟨enters_of Tryd.func57 (by kernel_rfl) (by kernel_rfl), fun ρ w vs hk hr hvl hv => ?_⟩
  obtain ⟨vl⟩ := vs
  match vl, hvl with
  | [v0, v1], _ =>
    have e0 := val_inv (hv 0 v0 _ rfl rfl)
    have e1 := val_inv (hv 1 v1 _ rfl rfl)
    subst e0; subst e1
    refine (Tryd.strings_Split_shaped (strB s) (strB [c]) w hk.1 (by rw [strB_size]; omega) (by rw [strB_size]; simp)).mono fun e w' ⟨he, hw⟩ => ?_
    have hlen := Lib.splitB_all (strB [c]) (by rw [strB_size]; simp) 0 _ (strB s) rfl
    rw [split_sp, List.length_map] at hlen
    rw [split_sp] at hw
    rw [← hlen] at he
    have hb : Below w.heap.size w w' := by rw [hw]; exact (Below.refl _ w).alloc (Nat.le_refl _) _
    have hno : ¬ no ρ w.heap.size := fun h => by
      rcases h with h | h
      · exact absurd (own_lt hr h) (by omega)
      · exact absurd (hr.xlt _ h) (by omega)
    have hsz : w'.heap.size = w.heap.size + 1 := by
      rw [hw]
      show (w.heap.push _).size = _
      simp
    have hblk : w'.heap[w.heap.size]? = some (.cells (((sp c s).map strB).map Value.string).toArray 9 (0, 0)) := by
      rw [hw]
      show (w.heap.push _)[w.heap.size]? = _
      simp
    refine ⟨_, _, [], ρ, he, ⟨rfl, rfl⟩, Nat.zero_le _, ?_, hr.grow (below_growE hb), .grow (below_growE hb)⟩
    have hpos := List.length_pos_iff.2 (sp_ne c s)
    have hrow : ∀ (i : Nat) e, (strs (sp c s))[i]? = some e → ∃ y, (sp c s)[i]? = some y ∧ e = [.val (.string (strB y))] := fun i e h => by
      rw [strs, List.getElem?_map] at h
      obtain ⟨y, hy, rfl⟩ := Option.map_eq_some_iff.1 h
      exact ⟨y, hy, rfl⟩
    refine .pr (.sl w.heap.size 0 1 _ _ (strs (sp c s)) (fun i _ => .string (strB ((sp c s).getD i []))) (by simp [strs]) hpos (Nat.le_refl _) (by omega) hno (by omega) (fun i e h => ?_) (fun i j e x h hx => ?_) (fun i j e x h hx => ?_))
    · obtain ⟨y, _, rfl⟩ := hrow i e h; rfl
    · obtain ⟨y, hy, rfl⟩ := hrow i e h
      match j, hx with
      | 0, hx =>
        rw [Lib.cell_of_heap hblk]
        simp [hy]
      | j + 1, hx => simp at hx
    · obtain ⟨y, hy, rfl⟩ := hrow i e h
      match j, hx with
      | 0, hx =>
        cases hx
        simp only [List.getD_eq_getElem?_getD, hy, Option.getD_some]
        exact .val _
      | j + 1, hx => simp at hx
end Go.Pc
