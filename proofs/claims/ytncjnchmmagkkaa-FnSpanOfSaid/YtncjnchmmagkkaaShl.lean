/- Numbers sorted by the library: from the shelf's contract to a contract over own rows. -/
import Derived.Test.YtncjnchmmagkkaaAlk
import Derived.Test.YtncjnchmmagkkaaShf
import Derived.Test.YtncjnchmmagkkaaSd
import Derived.Test.YtncjnchmmagkkaaRow
set_option linter.unusedSimpArgs false
set_option linter.unusedVariables false
namespace Go.Pc
open Go Go.Proofs

def sortL (S : List Int) : List Int := S.mergeSort fun x y => decide (x ≤ y)
theorem sortL_len (S : List Int) : (sortL S).length = S.length := List.length_mergeSort S
theorem sortL_perm (S : List Int) : (sortL S).Perm S := List.mergeSort_perm S _

theorem sorted_grow {w : World} {b off : Nat} {d : Array Int} {cs : Array Value} {t : TypeId} (n : Nat) (os : Array Obj) (hb : w.heap[b]? = some (.cells cs t (0, 0))) :
    Grow (w.setRow b (Go.Sort.putCells (Value.int .i64) off d cs)) (Go.Sort.grow (Go.Sort.putRow (Value.int .i64) (Go.Sort.ahead w n) b off d) os) := by
  have hlt : b < w.heap.size := (Array.getElem?_eq_some_iff.1 hb).1
  have hh : ∀ k, k < w.heap.size → (Go.Sort.grow (Go.Sort.putRow (Value.int .i64) (Go.Sort.ahead w n) b off d) os).heap[k]? = (w.setRow b (Go.Sort.putCells (Value.int .i64) off d cs)).heap[k]? := fun k hk => by
    rw [Go.Sort.heap_grow_old _ _ (by simpa using hk)]
    by_cases e : k = b
    · subst e
      rw [setRow_heap w k cs _ t (0, 0) hb]
      simp [Go.Sort.putRow, Go.Sort.mapBlock, Array.getElem?_modify, hb, Go.Sort.onCells]
    · rw [heap_setRow_other e]
      simp [Go.Sort.putRow, Go.Sort.mapBlock, Array.getElem?_modify, Ne.symm e]
  refine ⟨by simp, fun k hk _ => hh k (by simpa using hk), fun k c e f hc => ⟨c, ?_, rfl⟩, rfl, rfl, rfl⟩
  have hk : k < w.heap.size := by have := (Array.getElem?_eq_some_iff.1 hc).1; simpa using this
  rw [hh k hk]; exact hc

theorem putCells_size (off : Nat) (d : Array Int) (cs : Array Value) : (Go.Sort.putCells (Value.int .i64) off d cs).size = cs.size := by simp [Go.Sort.putCells]

theorem sort_world {ρ : Env} {w : World} {S : List Int} (hh : HR w ρ [.vec 1 (ints S)]) {b base : Nat} (hρ : ρ.l[0]? = some (some (b, base))) (n : Nat) (os : Array Obj) :
    ∃ w', w' = Go.Sort.grow (Go.Sort.putRow (Value.int .i64) (Go.Sort.ahead w n) b base (sortL S).toArray) os ∧ HR w' ρ [.vec 1 (ints (sortL S))] ∧ St [0] ρ w ρ w' := by
  obtain ⟨h0, hl, hd⟩ := hh.ent 0 _ _ rfl hρ
  rcases hd with ⟨hd, _⟩ | ⟨b', base', c, ty, e1, e2, e3, e4⟩
  · cases hd
  cases e1
  have hg := sorted_grow (off := base) (d := (sortL S).toArray) n os e2
  have hr : Rel ρ ⟨[], [.vec 1 (ints S)]⟩ ⟨#[], []⟩ w := ⟨rfl, rfl, fun i v x h => by simp at h, hh⟩
  obtain ⟨p1, p2⟩ := hr.setRow (fx := [0]) hρ (cs := Go.Sort.putCells (Value.int .i64) base (sortL S).toArray c) e2 (putCells_size _ _ _) (.vec 1 (ints (sortL S))) fun keep => by
    refine ⟨by omega, fun i e he => ?_, .inr ⟨b, base, _, ty, rfl, setRow_heap w b c _ ty (0, 0) e2, ?_, fun i j ei x hi hj => ?_⟩⟩
    · simp only [ints, List.getElem?_map] at he
      cases hs : (sortL S)[i]? with
      | none => rw [hs] at he; simp at he
      | some z => rw [hs] at he; simp at he; subst he; rfl
    · rw [putCells_size]
      simpa [ints, sortL_len] using e3
    · simp only [ints, List.getElem?_map] at hi
      cases hs : (sortL S)[i]? with
      | none => rw [hs] at hi; simp at hi
      | some z =>
        rw [hs] at hi
        simp at hi
        subst hi
        have hil := (List.getElem?_eq_some_iff.1 hs).1
        have hjx : j = 0 ∧ x = .val (.int .i64 z) := by
          cases j with
          | zero => simp at hj; exact ⟨rfl, hj.symm⟩
          | succ j => simp at hj
        obtain ⟨rfl, rfl⟩ := hjx
        refine ⟨.int .i64 z, ?_, .val _⟩
        have hlt : base + i < c.size := by rw [sortL_len] at hil; simp [ints] at e3; omega
        simp only [Go.Sort.putCells, Nat.mul_one, Nat.add_zero, Array.getElem?_mapIdx, Array.getElem?_eq_getElem hlt, Option.map_some]
        rw [if_pos ⟨by omega, by simp; omega⟩]
        have : (sortL S).toArray[base + i - base]! = z := by
          rw [show base + i - base = i by omega]
          rw [getElem!_pos _ i (by simpa using hil)]
          obtain ⟨_, h⟩ := List.getElem?_eq_some_iff.1 hs
          simpa using h
        rw [this]
  exact ⟨_, rfl, (p1.hr.grow hg), p2.trans (.grow hg)⟩

theorem sortI_c (S : List Int) (hl : S.length < 2 ^ 40) : ACalls Try.prog 77 [.os 0 1 0 S.length] [.vec 1 (ints S)] [0] (fun r L => r = .tup [] ∧ L = [.vec 1 (ints (sortL S))]) := by
  refine ⟨enters_of Try.func77 (by kernel_rfl) (by kernel_rfl), fun ρ w vs hh hsz hv => ?_⟩
  obtain ⟨v0, rfl⟩ : ∃ v0, vs = #[v0] := by
    rcases vs with ⟨l⟩
    match l, hsz with
    | [v], _ => exact ⟨v, rfl⟩
  have h0 := hv 0 v0 _ rfl rfl
  have done : ∀ (v : Value) (w' : World), v = .tuple #[] → HR w' ρ [.vec 1 (ints (sortL S))] → St [0] ρ w ρ w' → ∃ v' res L' ρ', Ending.returned v = .returned v' ∧ (res = AV.tup [] ∧ L' = [.vec 1 (ints (sortL S))]) ∧ [OB.vec 1 (ints S)].length ≤ L'.length ∧ VR w' ρ' v' res ∧ HR w' ρ' L' ∧ St [0] ρ w ρ' w' := fun v w' hv h1 h2 => by
    subst hv
    exact ⟨_, _, _, ρ, rfl, ⟨rfl, rfl⟩, by simp, .tup #[] [] rfl (by simp), h1, h2⟩
  have zero : S.length = 0 → ∀ a, v0 = .slice a 0 0 → Calls Try.prog 77 #[v0] w (fun e w' => ∃ v' res L' ρ', e = .returned v' ∧ (res = AV.tup [] ∧ L' = [.vec 1 (ints (sortL S))]) ∧ [OB.vec 1 (ints S)].length ≤ L'.length ∧ VR w' ρ' v' res ∧ HR w' ρ' L' ∧ St [0] ρ w ρ' w') := fun h a ha => by
    subst ha
    have hS : S = [] := List.length_eq_zero_iff.1 h
    subst hS
    refine (Try.slices_Sort_int_none a 0 w).mono fun e w' ⟨h1, h2⟩ => ?_
    subst h1; subst h2
    refine done _ _ rfl ?_ .refl
    have : sortL [] = [] := by simp [sortL]
    rw [this]; exact hh
  generalize hn : S.length = n at *
  cases h0 with
  | pr hp => cases hp
  | osnil r k h => exact zero rfl _ rfl
  | osz r k off a b base h => exact zero rfl _ rfl
  | os r k off n c b base cs e fz h hc hb hs =>
    subst hn
    obtain ⟨g0, gl, gd⟩ := hh.ent 0 _ _ rfl h
    rcases gd with ⟨gd, _⟩ | ⟨b', base', c', ty, e1, e2, e3, e4⟩
    · cases gd
    cases e1
    have hH : Go.Sort.Holds (Value.int .i64) w b base S.toArray := fun j hj => by
      have hj' : j < S.length := by simpa using hj
      obtain ⟨v, h1, h2⟩ := e4 j 0 [.val (.int .i64 S[j])] _ (by simp [ints, hj']) rfl
      have hv := val_inv (.pr (ρ := ρ) h2)
      subst hv
      refine ⟨?_, ?_⟩
      · simp only [World.cell?, e2]
        rw [getElem!_pos _ j hj]
        simpa using h1
      · simp [World.frozen?, e2]
    have hlt : b < w.heap.size := (Array.getElem?_eq_some_iff.1 e2).1
    refine (Try.slices_Sort_int b base c S w hH hlt (by omega)).mono fun e w' ⟨h1, m, os, h2⟩ => ?_
    subst h1
    obtain ⟨w2, q1, q2, q3⟩ := sort_world hh h m os
    have : w' = w2 := by rw [h2, q1]; rfl
    subst this
    exact done _ _ rfl q2 q3

end Go.Pc
