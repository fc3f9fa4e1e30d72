/- From a contract to a given statement: rows over one argument of bytes. -/
import Derived.Test.YtajkeegikligcaaDoorAlk
import Derived.Test.YtajkeegikligcaaDoorRows
import Derived.ProofKit
set_option linter.unusedSimpArgs false
set_option linter.unusedVariables false
namespace Go.Pc
open Go Go.Proofs Go.ChangeShapes Go.WideShapes Go.ChangeAt Go.RowKit

theorem knob : ownKnob Tryd.prog.godebug = none := by kernel_rfl
theorem laid : laidOutB Tryd.prog = true := by kernel_rfl
/-- How an argument of bytes lies. -/
def BytesAt (w : World) (p : Option Addr) (n : Nat) (xs : List Int) : Prop := 0 < n → ∃ b o, p = some ⟨b, o, none⟩ ∧ ∀ i, i < n → w.cell? ⟨b, o + i, none⟩ = some (.int .u8 (xs.getD i 0))

/-- What is asked of a law: true, whatever the bytes. -/
def LawC (F : FuncId) : Prop := ∀ xs : List Int, (∀ x ∈ xs, 0 ≤ x ∧ x < 256) → (xs.length : Int) ≤ 9223372036854775807 → ACalls Tryd.prog F [.sl (bys xs)] [] [] (fun r L => r = .val (.bool true) ∧ L = [])

theorem LawC.run {F : FuncId} (h : LawC F) {W : World} {a0 : Option Addr} {len cap : Nat} {xs : List Int} (hx : xs.length = len) (hc : len ≤ cap) (hb : ∀ x ∈ xs, 0 ≤ x ∧ x < 256) (hl : len ≤ 9223372036854775807) (hB : BytesAt W a0 len xs) :
    Calls Tryd.prog F #[.slice a0 len cap] W (fun e W' => e = .returned (.bool true) ∧ Below W.heap.size W W') := by
  let ρ : Env := { l := [], X := fun _ => False }
  have hno : ∀ b, ¬ no ρ b := fun b hb => by
    rcases hb with (⟨j, base, hj⟩ | hb) | hb
    · simp [ρ] at hj
    · exact hb
    · exact hb
  have hv : VR W ρ (.slice a0 len cap) (.sl (bys xs)) := by
    by_cases h0 : len = 0
    · subst h0
      obtain rfl := List.length_eq_zero_iff.1 hx
      exact .pr (.slnil _ _)
    · obtain ⟨b, o, rfl, hcell⟩ := hB (by omega)
      have hlt : b < W.heap.size := by
        have := World.block_lt_of_cell? _ _ (hcell 0 (by omega))
        simpa using this
      have hget : ∀ (i j : Nat) e x, (bys xs)[i]? = some e → e[j]? = some x → ∃ y, xs[i]? = some y ∧ j = 0 ∧ x = .val (.int .u8 y) := fun i j e x he hx' => by
        simp only [bys, List.getElem?_map] at he
        cases hq : xs[i]? with
        | none => simp [hq] at he
        | some y =>
          simp [hq] at he; subst he
          cases j with
          | zero => simp at hx'; exact ⟨y, rfl, rfl, hx'.symm⟩
          | succ j => simp at hx'
      refine .pr (.sl b o 1 len cap (bys xs) (fun i _ => .int .u8 (xs.getD i 0)) (by simp [bys, hx]) (by omega) hc (by omega) (hno b) hlt (fun i e he => ?_) (fun i j e x he hx' => ?_) (fun i j e x he hx' => ?_))
      · simp only [bys, List.getElem?_map] at he
        cases hq : xs[i]? with
        | none => simp [hq] at he
        | some y => simp [hq] at he; subst he; rfl
      · obtain ⟨y, h1, rfl, rfl⟩ := hget i j e x he hx'
        have hi : i < len := by rw [← hx]; exact (List.getElem?_eq_some_iff.1 h1).1
        simpa using hcell i hi
      · obtain ⟨y, h1, rfl, rfl⟩ := hget i j e x he hx'
        simp only [List.getD_eq_getElem?_getD, h1, Option.getD_some]
        exact .val _
  refine (h xs hb (by omega)).2 ρ W #[.slice a0 len cap] ⟨rfl, fun b hb => hb.elim, fun b hb => (hno b (.inl hb)).elim, fun j j' b base base' h1 => by simp [ρ] at h1, fun j o l h1 => by simp at h1, ⟨fun b hb => False.elim hb, fun b j base hb => False.elim hb, fun j S items b h1 => by simp at h1, fun j j' S S' items items' b h1 => by simp at h1⟩⟩ rfl (fun i v x h1 h2 => ?_) |>.mono fun e W' ⟨v, res, L', ρ', he, ⟨hR, hL⟩, _, hvr, hhr, hst⟩ => ?_
  · cases i with
    | zero => simp at h1 h2; subst h1; subst h2; exact hv
    | succ i => simp at h2
  · subst hR
    have := val_inv hvr
    subst this
    exact ⟨he, hst.fr.os, hst.fr.tape, hst.fr.out, hst.fr.le, fun k hk => hst.fr.same k hk fun hb => hno k (.inl hb)⟩

end Go.Pc
