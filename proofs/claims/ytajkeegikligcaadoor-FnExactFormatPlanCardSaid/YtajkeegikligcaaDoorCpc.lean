/- Texts of plans: the program's FormatPlan. -/
import Derived.Test.YtajkeegikligcaaDoorCpb
set_option linter.unusedSimpArgs false
set_option linter.unusedVariables false
namespace Go.Pc
open Go Go.Proofs Go.Lib Go.RowKit

/-- No memory of the call's own yet. -/
def rhoE : Env := { l := [], X := fun _ => False }
theorem rhoE_no (b : Nat) : ¬ no rhoE b := by simp [no, own, ownl, rhoE]
theorem rhoE_hr (w : World) : HR w rhoE [] :=
  ⟨rfl, fun b hb => hb.elim, fun b hb => (rhoE_no b (.inl hb)).elim, fun j j' b base base' h1 => by simp [rhoE] at h1, fun j o l h1 => by simp at h1, ⟨fun b hb => False.elim hb, fun b j base hb => False.elim hb, fun j S items b h1 => by simp at h1, fun j j' S S' items items' b h1 => by simp at h1⟩⟩

theorem St.belowE {w w' : World} {ρ' : Env} (h : St [] rhoE w ρ' w') : Below w.heap.size w w' :=
  ⟨h.fr.os, h.fr.tape, h.fr.out, h.fr.le, fun k hk => h.fr.same k hk fun hb => rhoE_no k (.inl hb)⟩

/-- A contract of values, over the memory. -/
theorem raw_of {P : Program} {f : FuncId} {v : Value} {x : AV} {u : Value} {w : World} (h : ACalls P f [x] [] [] (fun r L => r = .val u ∧ L = [])) (hv : VR w rhoE v x) : Calls P f #[v] w fun e w' => e = .returned u ∧ Below w.heap.size w w' := by
  refine (h.2 rhoE w #[v] (rhoE_hr w) rfl fun i v' x' h1 h2 => ?_).mono fun e w' ⟨v', res, L', ρ', he, ⟨hr, _⟩, _, hvr, _, hst⟩ => ?_
  · match i, h1, h2 with
    | 0, h1, h2 => simp at h1 h2; subst h1; subst h2; exact hv
    | i + 1, h1, _ => simp at h1
  · subst hr
    rw [val_inv hvr] at he
    exact ⟨he, St.belowE hst⟩

theorem VR.freshE {w W : World} {v : Value} {p : Plan} (h : VR w rhoE v (.agg p.cs)) (hb : Below w.heap.size w W) : VR W rhoE v (.agg p.cs) ∧ VR W (rhoB w.heap.size) v (.agg p.cs) := by
  have key : ∀ ρ' : Env, (∀ b, b < w.heap.size → ¬ no ρ' b) → VR W ρ' v (.agg p.cs) := fun ρ' hno => by
    obtain ⟨kv, rfl, hk⟩ := plan_val h
    rw [Plan.cs_eq]
    refine .agg _ _ (by simp) fun j v z hv hz => ?_
    match j, hv, hz with
    | 0, hv, hz => simp at hv hz; subst hv; subst hz; exact .pr (.val _)
    | 1, hv, hz => simp at hv hz; subst hv; subst hz; exact .pr (.val _)
    | 2, hv, hz => simp at hv hz; subst hv; subst hz; exact .pr (.val _)
    | 3, hv, hz => simp at hv hz; subst hv; subst hz; exact .pr (.val _)
    | 4, hv, hz =>
      simp at hv hz
      subst hv; subst hz
      cases hk with
      | pr hp => exact .pr (hp.mono (fun k hk _ => hb.block k hk) hb.size fun k hk h => (hno k hk h).elim)
    | j + 5, _, hz => simp at hz
  exact ⟨key rhoE fun b _ => rhoE_no b, key (rhoB w.heap.size) fun b hb h => by have := (rhoB_no _ _).1 h; omega⟩

theorem Below.up {w W : World} {B : Nat} (h : Below w.heap.size w W) (hB : B ≤ w.heap.size) : Below B w W := ⟨h.os, h.tape, h.output, h.size, fun k hk => h.block k (by omega)⟩

set_option maxHeartbeats 4000000 in
set_option maxRecDepth 100000 in
theorem formatPlan_raw (p : Plan) (w : World) (v : Value) (hv : VR w rhoE v (.agg p.cs)) (htab : TabIs Tryd.prog w "internal/strconv.uint64pow10" .u64 pow10Tab) :
    Calls Tryd.prog 9 #[v] w fun e w' => e = .returned (.string (strB p.text)) ∧ Below w.heap.size w w' := by
  have mixed := mixed
  have tb := tabBelow_of_tabIs htab
  obtain ⟨kv, rfl, hkv⟩ := plan_val hv
  have a0 : Below w.heap.size w (w.alloc (.cells #[.int .i64 p.op, .int .i64 p.at_, .int .i64 p.pa, .bool p.tu, kv] 29)) := (Below.refl _ w).alloc (Nat.le_refl _) _
  have hbox : (w.alloc (.cells #[.int .i64 p.op, .int .i64 p.at_, .int .i64 p.pa, .bool p.tu, kv] 29)).heap[w.heap.size]? = some (.cells #[.int .i64 p.op, .int .i64 p.at_, .int .i64 p.pa, .bool p.tu, kv] 29 (0, 0)) := by
    show (w.heap.push _)[w.heap.size]? = _
    simp
  have hs0 : (w.alloc (.cells #[.int .i64 p.op, .int .i64 p.at_, .int .i64 p.pa, .bool p.tu, kv] 29)).heap.size = w.heap.size + 1 := by
    show (w.heap.push _).size = _
    simp
  have hv0 := (VR.freshE hv a0).1
  go_enter Tryd.func9, Tryd.ntmps9
  go_wp2_with (go_at_call 25; refine (raw_of (planSizeI_c p) hv0).mono ?_)
  first | rintro e W1 rfl q1 | rintro e W1 ⟨rfl, q1⟩
  have a1 := a0.trans (Below.up q1 (by omega))
  have hb1 : W1.heap[w.heap.size]? = some (.cells #[.int .i64 p.op, .int .i64 p.at_, .int .i64 p.pa, .bool p.tu, kv] 29 (0, 0)) := by rw [q1.block _ (by omega)]; exact hbox
  have c0 : W1.cell? ⟨w.heap.size, 0, none⟩ = some (.int .i64 p.op) := by rw [Lib.cell_of_heap hb1]; rfl
  have c1 : W1.cell? ⟨w.heap.size, 1, none⟩ = some (.int .i64 p.at_) := by rw [Lib.cell_of_heap hb1]; rfl
  have c2 : W1.cell? ⟨w.heap.size, 2, none⟩ = some (.int .i64 p.pa) := by rw [Lib.cell_of_heap hb1]; rfl
  have c3 : W1.cell? ⟨w.heap.size, 3, none⟩ = some (.bool p.tu) := by rw [Lib.cell_of_heap hb1]; rfl
  have c4 : W1.cell? ⟨w.heap.size, 4, none⟩ = some kv := by rw [Lib.cell_of_heap hb1]; rfl
  have hv1 := (VR.freshE hv a1).1
  by_cases hsz : p.size < 0
  · have ht : p.text = [] := by unfold Plan.text; rw [if_neg (fun h => by omega)]
    go_wp2
    go_ret
    exact ⟨by rw [ht]; rfl, a1⟩
  · have hp := (Plan.size_pos (p := p) (by omega)).1
    go_wp2_with (go_at_call 26; refine (raw_of (numbersFit_n _ p (Nat.le_refl _) hp.1) hv1).mono ?_)
    first | rintro e W2 rfl q2 | rintro e W2 ⟨rfl, q2⟩
    have a2 := a1.trans (Below.up q2 a1.size)
    have hw1 : W1.heap.size ≥ w.heap.size + 1 := by have := q1.size; omega
    cases hc : p.cb
    · have ht : p.text = [] := by unfold Plan.text; rw [if_neg (fun h => by rw [hc] at h; cases h.2)]
      go_wp2
      go_ret
      exact ⟨by rw [ht]; rfl, a2⟩
    · have ht : p.text = p.txt := by unfold Plan.text; rw [if_pos ⟨by omega, hc⟩]
      have hln := txt_len _ p (Nat.le_refl _) hp.1 hc
      have z3 : Below W2.heap.size W2 (W2.alloc (.cells #[.pointer none, .slice none 0 0] 51)) := (Below.refl _ W2).alloc (Nat.le_refl _) _
      have a3 := a2.trans (Below.up z3 a2.size)
      have hw2 : W2.heap.size ≥ w.heap.size + 1 := by have := q2.size; omega
      have hb3 : (W2.alloc (.cells #[.pointer none, .slice none 0 0] 51)).heap[w.heap.size]? = some (.cells #[.int .i64 p.op, .int .i64 p.at_, .int .i64 p.pa, .bool p.tu, kv] 29 (0, 0)) := by
        rw [z3.block _ (by omega), q2.block _ (by omega)]; exact hb1
      have d0 : (W2.alloc (.cells #[.pointer none, .slice none 0 0] 51)).cell? ⟨w.heap.size, 0, none⟩ = some (.int .i64 p.op) := by rw [Lib.cell_of_heap hb3]; rfl
      have d1 : (W2.alloc (.cells #[.pointer none, .slice none 0 0] 51)).cell? ⟨w.heap.size, 1, none⟩ = some (.int .i64 p.at_) := by rw [Lib.cell_of_heap hb3]; rfl
      have d2 : (W2.alloc (.cells #[.pointer none, .slice none 0 0] 51)).cell? ⟨w.heap.size, 2, none⟩ = some (.int .i64 p.pa) := by rw [Lib.cell_of_heap hb3]; rfl
      have d3 : (W2.alloc (.cells #[.pointer none, .slice none 0 0] 51)).cell? ⟨w.heap.size, 3, none⟩ = some (.bool p.tu) := by rw [Lib.cell_of_heap hb3]; rfl
      have d4 : (W2.alloc (.cells #[.pointer none, .slice none 0 0] 51)).cell? ⟨w.heap.size, 4, none⟩ = some kv := by rw [Lib.cell_of_heap hb3]; rfl
      have h3 : IsBuilderF 51 5 W2.heap.size W2.heap.size [] (W2.alloc (.cells #[.pointer none, .slice none 0 0] 51)) := .of (fresh_isBuilder 51 5 W2)
      have hv2 := (VR.freshE hv a2).1
      have hv3 := (VR.freshE hv2 z3).2
      have tb3 := (tabBelow_of_tabIs (tb W2 a2)).on z3
      go_wp2_with (go_at_call 27; refine (writePlan_raw _ p (Nat.le_refl _) hp.2 hp.1 hc W2.heap.size W2.heap.size [] _ _ h3 (by simp; omega) z3.size tb3 hv3).mono ?_)
      first | rintro e W4 rfl g4 q4 r4 | rintro e W4 ⟨rfl, g4, q4, r4⟩
      rw [List.nil_append] at g4
      have z4 := z3.trans q4
      go_wp2_with (go_at_call 28; refine (Tryd.Builder_String_any_k W2.heap.size W2.heap.size p.txt W4 (.inr g4) z4.size).mono ?_)
      first | rintro e W5 rfl g5 q5 r5 | rintro e W5 ⟨rfl, g5, q5, r5⟩
      go_wp2
      go_ret
      exact ⟨by rw [ht]; rfl, a2.trans (Below.up (z4.trans q5) a2.size)⟩
end Go.Pc
