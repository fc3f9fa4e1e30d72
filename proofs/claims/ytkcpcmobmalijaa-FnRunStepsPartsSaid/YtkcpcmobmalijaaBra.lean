/- slices.Delete at []Box: the library's text is walked; then a contract over own rows. -/
import Derived.Test.YtkcpcmobmalijaaRow
import Derived.Test.YtkcpcmobmalijaaCe
import Derived.Deep.RegionLaw
import Derived.Deep.LoopGhost
import Derived.Lib.Walk
import Derived.Lib.SliceRun
import Derived.Lib.SlicesDelete
import Derived.Sort.WalkB12
import Derived.WalkKit
import Derived.Shelf.RegionOpenPlain
import Derived.Shelf.Lays2
import Derived.Lib.LazyBuf
import Derived.Deep.Upon
set_option linter.unusedSimpArgs false
set_option linter.unusedVariables false
namespace Go.Pc
open Go Go.Proofs Go.Shelf Go.RowKit Go.Lib Go.Sort

def zz4 : List Value := [.int .i64 0, .int .i64 0, .int .i64 0, .int .i64 0]

theorem zero77 : ∃ z : Value, (∀ w, (zeroValue 77).run Try.prog w = .ok z w) ∧ z.cells.toList = zz4 := by
  obtain ⟨i, d, z, h1, h2, h3, h4, h5, h6, h7, h8⟩ := T_tt.ty 77 (by rw [T_77]; rfl)
  refine ⟨z, fun w => ?_, by rw [h7, T_77]; rfl⟩
  simp [zeroValue, typeInfo, h1, h6]

theorem info77 : ∃ i, Try.prog.info? 77 = some i ∧ i.size = 4 := by
  obtain ⟨i, d, z, h1, h2, h3, h4, _⟩ := T_tt.ty 77 (by rw [T_77]; rfl)
  exact ⟨i, h1, by rw [h4, T_77]⟩

theorem run_clear4 (w : World) (ty : TypeId) (b o c : Nat) (hc : ∀ j, j < 4 → (w.cell? ⟨b, o + j, none⟩).isSome = true) (hf : ∀ j, j < 4 → w.frozen? ⟨b, o + j, none⟩ = false) :
    (Builtin.clear_ #[69] ty #[.slice (some ⟨b, o, none⟩) 1 c]).run Try.prog w = .ok (.tuple #[]) (w.setCells b o zz4) := by
  have hst := Go.run_storeCells_cells (P := Try.prog) b o zz4 0 w (by simpa [zz4] using hc) (by simpa [zz4] using hf) (by simp [zz4, Value.oneCell'])
  simp only [Nat.add_zero] at hst
  obtain ⟨z, hz, hzc⟩ := zero77
  have hzl : (Builtin.zeroCells z.cells 1).toList = zz4 := by
    have e : z.cells = #[.int .i64 0, .int .i64 0, .int .i64 0, .int .i64 0] := by rw [← Array.toArray_toList (xs := z.cells), hzc]; rfl
    rw [e]
    simp only [Builtin.zeroCells, Array.toList_map, Array.toList_range]
    rfl
  simp [Builtin.clear_, run_underlying Try.underlying69, hz, hzl, hst]

set_option maxHeartbeats 4000000 in
set_option maxRecDepth 1000000 in
theorem delBox_raw (b base n cap i j : Nat) (w W1 : World) (hij : i < j) (hj : j ≤ n) (hn : n ≤ cap) (A : Addr) (hA : (if cap = j then some (⟨b, base, none⟩ : Addr) else some ⟨b, base + j * 4, none⟩) = some A) (news : List Value) (s1 : Hid (news.length = (n - j) * 4)) (hsrc : Hid (∀ t u, news[t]? = some u → w.drew.cell? (A.add t) = some u)) (s2 : Hid (∀ u ∈ news, u.oneCell' = true))
    (s3 : Hid (∀ t, t < news.length → (w.drew.cell? ⟨b, base + i * 4 + t, none⟩).isSome = true ∧ w.drew.frozen? ⟨b, base + i * 4 + t, none⟩ = false))
    (hW : Hid (W1 = w.drew.setCells b (base + i * 4) news))
    (hcl : ∀ ty, (Builtin.clear_ #[69] ty #[.slice (some ⟨b, base + (i + (n - j)) * 4, none⟩) (n - (i + (n - j))) (cap - (i + (n - j)))]).run Try.prog W1 = .ok (.tuple #[]) (W1.setCells b (base + (i + (n - j)) * 4) zz4)) :
    Calls Try.prog 111 #[.slice (some ⟨b, base, none⟩) n cap, .int .i64 i, .int .i64 j] w fun e w' => e = .returned (.slice (some ⟨b, base, none⟩) (n - (j - i)) cap) ∧ w' = W1.setCells b (base + (i + (n - j)) * 4) zz4 := by
  have mixed := mixed
  have t69 := Try.underlying69
  obtain ⟨i0, hi0, hz1⟩ := info77
  have hic : i ≤ cap := by omega
  have hjc : j ≤ cap := by omega
  have heq : ¬ i = j := by omega
  go_enter Try.func111, Try.ntmps111
  go_wp2_with fail
  go_region_law_o (refine step_append_room rfl (.tmp 22) (.tmp 25) 69 rfl 77 i0 4 t69 hi0 hz1 b base i cap (by simp [Act.eval, Act.put]) A (n - j) (cap - j) news (by simp [Act.eval, Act.put]) s1.out hsrc.out s2.out (by omega) s3.out ?_; rw [← hW.out])
  go_wp2
  go_ret
  exact ⟨by rw [show n - (j - i) = i + (n - j) by omega]; rfl, rfl⟩

theorem setCells_all (b : Nat) : ∀ (vs : List Value) (o : Nat) (w : World), (w.setCells b o vs).heap.size = w.heap.size ∧ (∀ k : Nat, k ≠ b → (w.setCells b o vs).heap[k]? = w.heap[k]?) ∧ (w.setCells b o vs).os = w.os ∧ (w.setCells b o vs).output = w.output ∧ (w.setCells b o vs).tape = w.tape
  | [], _, _ => ⟨rfl, fun _ _ => rfl, rfl, rfl, rfl⟩
  | v :: r, o, w => by
    obtain ⟨h1, h2, h3, h4, h5⟩ := setCells_all b r (o + 1) (w.setCell ⟨b, o, none⟩ v)
    refine ⟨h1.trans (by simp [World.setCell]), fun k hk => (h2 k hk).trans ?_, h3, h4, h5⟩
    simp [World.setCell, Array.getElem?_modify, Ne.symm hk]

/-- Two rows of cells laid, one after the other, are one row set. -/
theorem setCells2_grow {w w0 : World} {b o1 o2 : Nat} {v1 v2 : List Value} {cs c' : Array Value} {t : TypeId} (hg : Grow w w0) (hs : w0.heap.size = w.heap.size) (hh : ∀ k : Nat, w0.heap[k]? = w.heap[k]?) (hb : w.heap[b]? = some (.cells cs t (0, 0))) (hc : ((w0.setCells b o1 v1).setCells b o2 v2).heap[b]? = some (.cells c' t (0, 0))) :
    Grow (w.setRow b c') ((w0.setCells b o1 v1).setCells b o2 v2) := by
  obtain ⟨g1, g2, g3, g4, g5⟩ := setCells_all b v2 o2 (w0.setCells b o1 v1)
  obtain ⟨k1, k2, k3, k4, k5⟩ := setCells_all b v1 o1 w0
  have he : ∀ k : Nat, ((w0.setCells b o1 v1).setCells b o2 v2).heap[k]? = (w.setRow b c').heap[k]? := fun k => by
    by_cases e : k = b
    · subst e; rw [hc, setRow_heap w k cs _ t (0, 0) hb]
    · rw [g2 k e, k2 k e, hh, heap_setRow_other e]
  refine ⟨by rw [g1, k1, hs]; simp, fun k _ _ => he k, fun k c e f h => ⟨c, by rw [he]; exact h, rfl⟩, ?_, ?_, ?_⟩
  · rw [g3, k3, hg.os]; rfl
  · rw [g4, k4, hg.out]; rfl
  · rw [g5, k5, hg.tape]; rfl

def Box.vs (b : Box) : List Value := [.int .i64 b.X, .int .i64 b.Y, .int .i64 b.W, .int .i64 b.H]
theorem Box.cs_vs (b : Box) : b.cs = b.vs.map .val := rfl
def bvs (l : List Box) : List Value := l.flatMap Box.vs
theorem bvs_len (l : List Box) : (bvs l).length = l.length * 4 := by
  induction l with
  | nil => rfl
  | cons b l ih => simp only [bvs, List.flatMap_cons, List.length_append, List.length_cons] at ih ⊢; rw [ih]; simp [Box.vs]; omega
theorem bvs_get (l : List Box) (m j : Nat) (hj : j < 4) : (bvs l)[m * 4 + j]? = (l[m]?).bind fun b => b.vs[j]? := by
  induction l generalizing m with
  | nil => simp [bvs]
  | cons b l ih =>
    have e : bvs (b :: l) = b.vs ++ bvs l := by simp [bvs]
    have hb : b.vs.length = 4 := rfl
    rw [e]
    cases m with
    | zero => rw [List.getElem?_append_left (by omega)]; simp
    | succ m =>
      rw [List.getElem?_append_right (by omega), hb, show (m + 1) * 4 + j - 4 = m * 4 + j by omega, ih]
      simp
theorem bvs_one (l : List Box) : ∀ u ∈ bvs l, u.oneCell' = true := by
  intro u hu
  obtain ⟨b, _, hb⟩ := List.mem_flatMap.1 hu
  simp only [Box.vs, List.mem_cons, List.not_mem_nil, or_false] at hb
  rcases hb with rfl | rfl | rfl | rfl <;> rfl

set_option maxHeartbeats 1000000 in
theorem deleteB_c (l : List Box) (i : Nat) (hi : i < l.length) : ACalls Try.prog 111 [.os 0 4 0 l.length, .val (.int .i64 i), .val (.int .i64 (i + 1))] [.vec 4 (l.map Box.cs)] [0] (fun r L => r = .os 0 4 0 (l.length - 1) ∧ L = [.vec 4 ((l.eraseIdx i).map Box.cs)]) := by
  refine ⟨enters_of Try.func111 (by kernel_rfl) (by kernel_rfl), fun ρ w vs hh hsz hv => ?_⟩
  obtain ⟨v0, v1, v2, rfl⟩ : ∃ v0 v1 v2, vs = #[v0, v1, v2] := by
    rcases vs with ⟨l⟩
    match l, hsz with
    | [v, v', v''], _ => exact ⟨v, v', v'', rfl⟩
  have h0 := hv 0 v0 _ rfl rfl
  have hv1 := val_inv (hv 1 v1 _ rfl rfl)
  have hv2 := val_inv (hv 2 v2 _ rfl rfl)
  subst hv1; subst hv2
  generalize hn : l.length = n at *
  cases h0 with
  | pr hp => cases hp
  | osnil r k h => omega
  | osz r k off a b base h => omega
  | os r k off n cap b base cs0 e fz h hc hb hs =>
    obtain ⟨g0, gl, gd⟩ := hh.ent 0 _ _ rfl h
    rcases gd with ⟨gd, _⟩ | ⟨b', base', c, ty, e1, e2, e3, e4⟩
    · cases gd
    cases e1
    have hcell : ∀ m j bx v, l[m]? = some bx → bx.vs[j]? = some v → c[base + m * 4 + j]? = some v := fun m j bx v hm hj => by
      obtain ⟨u, h1, h2⟩ := e4 m j bx.cs (.val v) (by rw [List.getElem?_map, hm]; rfl) (by rw [Box.cs_vs, List.getElem?_map, hj]; rfl)
      have := val_inv (.pr (ρ := ρ) h2)
      subst this
      exact h1
    have hcc : cs0.size = c.size := by rw [hb] at e2; cases e2; rfl
    have hsz : base + n * 4 ≤ c.size := by simpa [hn] using e3
    have hlen : (bvs (l.drop (i + 1))).length = (n - (i + 1)) * 4 := by rw [bvs_len]; simp [hn]
    have hin : ∀ k, k < c.size → (w.drew.cell? ⟨b, k, none⟩).isSome = true ∧ w.drew.frozen? ⟨b, k, none⟩ = false := fun k hk => by
      show (w.cell? _).isSome = true ∧ w.frozen? _ = false
      simp only [World.cell?, World.frozen?, e2]
      refine ⟨?_, by simp⟩
      simp [hk]
    obtain ⟨A, hA, hsrc⟩ : ∃ A : Addr, (if cap = i + 1 then some (⟨b, base, none⟩ : Addr) else some ⟨b, base + (i + 1) * 4, none⟩) = some A ∧ Hid (∀ t u, (bvs (l.drop (i + 1)))[t]? = some u → w.drew.cell? (A.add t) = some u) := by
      by_cases hcp : cap = i + 1
      · refine ⟨⟨b, base, none⟩, by simp [hcp], fun t u hu => ?_⟩
        have : bvs (l.drop (i + 1)) = [] := List.length_eq_zero_iff.1 (by rw [hlen]; omega)
        rw [this] at hu
        simp at hu
      · refine ⟨⟨b, base + (i + 1) * 4, none⟩, by simp [hcp], fun t u hu => ?_⟩
        have ht := (List.getElem?_eq_some_iff.1 hu).1
        rw [show t = t / 4 * 4 + t % 4 by omega, bvs_get _ _ _ (by omega), List.getElem?_drop] at hu
        rw [Option.bind_eq_some_iff] at hu
        obtain ⟨bx, hx1, hx2⟩ := hu
        have := hcell _ _ _ _ hx1 hx2
        show w.cell? _ = _
        rw [Addr.add_lit]
        simp only [World.cell?, e2]
        rw [show base + (i + 1) * 4 + t = base + (i + 1 + t / 4) * 4 + t % 4 by omega]
        simpa using this
    have hrow : w.drew.rowIs b ty c.size (fun k => (c[k]?).getD default) := ⟨c, e2, rfl, fun k hk => by simp [hk]⟩
    have hr1 := rowIs_setCells (bvs (l.drop (i + 1))) (base + i * 4) _ _ hrow
    have hr2 := rowIs_setCells zz4 (base + (i + (n - (i + 1))) * 4) _ _ hr1
    obtain ⟨c', hb', hs', hc'⟩ := hr2
    have hcl : ∀ ty', (Builtin.clear_ #[69] ty' #[.slice (some ⟨b, base + (i + (n - (i + 1))) * 4, none⟩) (n - (i + (n - (i + 1)))) (cap - (i + (n - (i + 1))))]).run Try.prog (w.drew.setCells b (base + i * 4) (bvs (l.drop (i + 1)))) = .ok (.tuple #[]) ((w.drew.setCells b (base + i * 4) (bvs (l.drop (i + 1)))).setCells b (base + (i + (n - (i + 1))) * 4) zz4) := fun ty' => by
      rw [show n - (i + (n - (i + 1))) = 1 by omega]
      obtain ⟨c1, q1, q2, q3⟩ := hr1
      refine run_clear4 _ ty' b _ _ (fun j hj => ?_) (fun j hj => ?_)
      · simp only [World.cell?, q1]
        simp
        omega
      · simp [World.frozen?, q1]
    refine (delBox_raw b base n cap i (i + 1) w _ (by omega) (by omega) hc A hA (bvs (l.drop (i + 1))) hlen hsrc (bvs_one _) (fun t ht => ?_) rfl hcl).mono fun e w' ⟨h1, h2⟩ => ?_
    · exact hin _ (by omega)
    subst h1
    have hg := setCells2_grow (w := w) (w0 := w.drew) .drew rfl (fun _ => rfl) e2 hb'
    have hr : Rel ρ ⟨[], [.vec 4 (l.map Box.cs)]⟩ ⟨#[], []⟩ w := ⟨rfl, rfl, fun i v x h => by simp at h, hh⟩
    obtain ⟨p1, p2⟩ := hr.setRow (fx := [0]) h (cs := c') e2 hs' (.vec 4 ((l.eraseIdx i).map Box.cs)) fun keep => by
      refine ⟨by omega, fun m e he => ?_, .inr ⟨b, base, _, ty, rfl, setRow_heap w b c _ ty (0, 0) e2, ?_, fun m j ei x hm hj => ?_⟩⟩
      · rw [List.getElem?_map] at he
        cases hs : (l.eraseIdx i)[m]? with
        | none => rw [hs] at he; simp at he
        | some z => rw [hs] at he; simp at he; subst he; rfl
      · rw [hs', List.length_map, List.length_eraseIdx]; split <;> omega
      · rw [List.getElem?_map] at hm
        cases hs : (l.eraseIdx i)[m]? with
        | none => rw [hs] at hm; simp at hm
        | some bx =>
          rw [hs] at hm
          simp at hm
          subst hm
          have hml := (List.getElem?_eq_some_iff.1 hs).1
          rw [List.length_eraseIdx, if_pos (by omega)] at hml
          rw [Box.cs_vs, List.getElem?_map] at hj
          cases hjv : bx.vs[j]? with
          | none => rw [hjv] at hj; simp at hj
          | some v =>
            rw [hjv] at hj
            simp at hj
            subst hj
            have hj4 : j < 4 := (List.getElem?_eq_some_iff.1 hjv).1
            refine ⟨v, ?_, .val _⟩
            rw [hc' _ (by omega)]
            simp only []
            have hz : zz4.length = 4 := rfl
            rw [if_neg (by omega)]
            rw [List.getElem?_eraseIdx] at hs
            by_cases hmi : m < i
            · rw [if_pos hmi] at hs
              rw [if_neg (by omega), hcell m j bx v hs hjv]
              rfl
            · rw [if_neg hmi] at hs
              rw [if_pos ⟨by omega, by rw [hlen]; omega⟩, show base + m * 4 + j - (base + i * 4) = (m - i) * 4 + j by omega, bvs_get _ _ _ hj4, List.getElem?_drop, show i + 1 + (m - i) = m + 1 by omega, hs]
              simp [hjv]
    refine ⟨_, _, _, ρ, rfl, ⟨rfl, rfl⟩, by simp, ?_, h2 ▸ p1.hr.grow hg, h2 ▸ p2.trans (.grow hg)⟩
    have hq := (.os 0 4 0 (n - 1) cap b base c' ty (0, 0) h (by omega) (h2 ▸ hb') (by omega) : VR w' ρ (.slice (some ⟨b, base + 0 * 4, none⟩) (n - 1) cap) (.os 0 4 0 (n - 1)))
    rw [show n - (i + 1 - i) = n - 1 by omega]
    simpa using hq
end Go.Pc
