/- The boxes on the table: what the steps leave, plainly. -/
import Derived.Test.YtkcpcmobmalijaaHa
import Derived.Test.YtkcpcmobmalijaaSa
set_option linter.unusedSimpArgs false
set_option linter.unusedVariables false
namespace Go.Pc
open Go Go.Proofs

theorem meetsSym {a b : Box} (h : a.meets b) : b.meets a := by
  unfold Box.meets Box.meet at *
  exact ⟨h.2.1, h.1, by have := h.2.2.1; simp only at *; omega, by have := h.2.2.2; simp only at *; omega⟩
theorem apartIn {a b c d : Box} (h : ¬ c.meets d) (ha : a.inside c) (hb : b.inside d) : ¬ a.meets b := fun hm => by
  unfold Box.inside at ha hb
  apply h
  unfold Box.meets Box.meet at *
  refine ⟨ha.2.1, hb.2.1, ?_, ?_⟩
  · have := hm.2.2.1; simp only at *; omega
  · have := hm.2.2.2; simp only at *; omega

theorem splitApart (p : Plan) (b : Box) : ¬ (p.split b).1.meets (p.split b).2 := fun h => by
  unfold Plan.split at h
  by_cases h2 : p.op = 2
  · simp only [if_pos h2, Box.meets, Box.meet] at h; omega
  · simp only [if_neg h2, Box.meets, Box.meet] at h; omega

theorem Plan.parts_head (p : Plan) (b : Box) (hw : p.wf = true) : (p.parts b)[0]? = some (p, b) := by
  by_cases hc : p.cut
  · obtain ⟨u, v, huv, _⟩ := Plan.two hw hc
    rw [Plan.parts_cut hc huv]; rfl
  · rw [Plan.parts_leaf hc]; rfl

/-- A part that is a cut, and its kids. -/
theorem Plan.parts_kids (k : Work) : ∀ (p : Plan), p.wf = true → ∀ b : Box, b.sane → p.fits k b.W b.H = true → ∀ (n : Nat) (q : Plan × Box), (p.parts b)[n]? = some q → q.1.cut →
    ∃ x y, q.1.ks = [x, y] ∧ q.1.wf = true ∧ q.2.sane ∧ q.1.fits k q.2.W q.2.H = true ∧ (p.parts b)[n + 1]? = some (x, (q.1.split q.2).1) ∧ (p.parts b)[n + 1 + x.nodes]? = some (y, (q.1.split q.2).2) :=
  Plan.wf_ind (fun p hw hc b hb hf n q hq hqc => by
    rw [Plan.parts_leaf hc] at hq
    cases n with
    | zero => simp at hq; subst hq; exact absurd hqc hc
    | succ n => simp at hq) (fun p x y hw hc hk hx hy ix iy b hb hf n q hq hqc => by
    obtain ⟨f1, f2, _⟩ := Plan.fits_cut hc hk hf
    obtain ⟨s1, s2, _⟩ := Plan.split_sane hc hk hb hf
    have lx := Plan.parts_len x hx (p.split b).1
    have hxp := x.nodes_pos
    rw [Plan.parts_cut hc hk] at hq ⊢
    cases n with
    | zero =>
      simp at hq
      subst hq
      refine ⟨x, y, hk, hw, hb, hf, ?_, ?_⟩
      · rw [List.getElem?_cons_succ, List.getElem?_append_left (by omega)]
        exact Plan.parts_head x _ hx
      · rw [show 0 + 1 + x.nodes = x.nodes + 1 by omega, List.getElem?_cons_succ, List.getElem?_append_right (by omega), lx, Nat.sub_self]
        exact Plan.parts_head y _ hy
    | succ n =>
      rw [List.getElem?_cons_succ] at hq
      by_cases hn : n < (x.parts (p.split b).1).length
      · rw [List.getElem?_append_left hn] at hq
        obtain ⟨u, v, e1, e2, e3, e4, e5, e6⟩ := ix _ s1 f1 n q hq hqc
        refine ⟨u, v, e1, e2, e3, e4, ?_, ?_⟩
        · rw [List.getElem?_cons_succ, List.getElem?_append_left (List.getElem?_eq_some_iff.1 e5).1]; exact e5
        · rw [show n + 1 + 1 + u.nodes = n + 1 + u.nodes + 1 by omega, List.getElem?_cons_succ, List.getElem?_append_left (List.getElem?_eq_some_iff.1 e6).1]; exact e6
      · rw [List.getElem?_append_right (by omega)] at hq
        obtain ⟨u, v, e1, e2, e3, e4, e5, e6⟩ := iy _ s2 f2 _ q hq hqc
        refine ⟨u, v, e1, e2, e3, e4, ?_, ?_⟩
        · rw [List.getElem?_cons_succ, List.getElem?_append_right (by omega), show n + 1 - (x.parts (p.split b).1).length = n - (x.parts (p.split b).1).length + 1 by omega]; exact e5
        · rw [show n + 1 + 1 + u.nodes = n + 1 + u.nodes + 1 by omega, List.getElem?_cons_succ, List.getElem?_append_right (by omega), show n + 1 + u.nodes - (x.parts (p.split b).1).length = n - (x.parts (p.split b).1).length + 1 + u.nodes by omega]; exact e6)

/-- A cut by number is a part; it is the first of all, or a kid of the cut above it. -/
theorem Plan.knots_kid (k : Work) : ∀ (p : Plan), p.wf = true → ∀ b : Box, ∀ (n a : Int), ∀ q ∈ p.knots n a, n ≤ q.1 ∧ (∃ u, (p.parts b)[(q.1 - n).toNat]? = some u ∧ u.1.cut) ∧
    ((q.1 = n ∧ q.2 = a) ∨ (n ≤ q.2 ∧ ∃ u x y, (p.parts b)[(q.2 - n).toNat]? = some u ∧ u.1.ks = [x, y] ∧ (q.1 = q.2 + 1 ∨ q.1 = q.2 + 1 + x.nodes))) :=
  Plan.wf_ind (fun p hw hc b n a q hq => by rw [Plan.knots_leaf hc] at hq; cases hq) (fun p x y hw hc hk hx hy ix iy b n a q hq => by
    rw [Plan.knots_cut hc hk] at hq
    have lx := Plan.parts_len x hx (p.split b).1
    have hxp := x.nodes_pos
    have getx : ∀ (i : Int) u, n + 1 ≤ i → (x.parts (p.split b).1)[(i - (n + 1)).toNat]? = some u → (p.parts b)[(i - n).toNat]? = some u := fun i u h0 h1 => by
      rw [Plan.parts_cut hc hk, show (i - n).toNat = (i - (n + 1)).toNat + 1 by omega, List.getElem?_cons_succ, List.getElem?_append_left (List.getElem?_eq_some_iff.1 h1).1]; exact h1
    have gety : ∀ (i : Int) u, n + 1 + x.nodes ≤ i → (y.parts (p.split b).2)[(i - (n + 1 + x.nodes)).toNat]? = some u → (p.parts b)[(i - n).toNat]? = some u := fun i u h0 h1 => by
      rw [Plan.parts_cut hc hk, show (i - n).toNat = (x.nodes + (i - (n + 1 + x.nodes)).toNat) + 1 by omega, List.getElem?_cons_succ, List.getElem?_append_right (by omega), lx, Nat.add_sub_cancel_left]; exact h1
    have get0 : (p.parts b)[(n - n).toNat]? = some (p, b) := by rw [Int.sub_self]; exact Plan.parts_head p b hw
    simp only [List.mem_cons, List.mem_append] at hq
    rcases hq with rfl | hq | hq
    · exact ⟨Int.le_refl _, ⟨_, get0, hc⟩, .inl ⟨rfl, rfl⟩⟩
    · obtain ⟨h1, ⟨u, h2, h3⟩, h4⟩ := ix (p.split b).1 _ _ q hq
      refine ⟨by omega, ⟨u, getx _ _ h1 h2, h3⟩, .inr ?_⟩
      rcases h4 with ⟨h4, h5⟩ | ⟨h4, v, x', y', h5, h6, h7⟩
      · exact ⟨by omega, (p, b), x, y, by rw [h5]; exact get0, hk, .inl (by omega)⟩
      · exact ⟨by omega, v, x', y', getx _ _ h4 h5, h6, h7⟩
    · obtain ⟨h1, ⟨u, h2, h3⟩, h4⟩ := iy (p.split b).2 _ _ q hq
      refine ⟨by omega, ⟨u, gety _ _ h1 h2, h3⟩, .inr ?_⟩
      rcases h4 with ⟨h4, h5⟩ | ⟨h4, v, x', y', h5, h6, h7⟩
      · exact ⟨by omega, (p, b), x, y, by rw [h5]; exact get0, hk, .inr (by omega)⟩
      · exact ⟨by omega, v, x', y', gety _ _ h4 h5, h6, h7⟩)

theorem map_erase {α β : Type} [DecidableEq α] [DecidableEq β] (g : α → β) (n : α) : ∀ l : List α, (l.map g).Nodup → n ∈ l → (l.map g).erase (g n) = (l.erase n).map g
  | [], _, h => by cases h
  | m :: l, hd, h => by
    rw [List.map_cons, List.nodup_cons] at hd
    by_cases hm : m = n
    · subst hm; simp
    · rcases List.mem_cons.1 h with h | h
      · exact absurd h.symm hm
      · have hg : g m ≠ g n := fun e => hd.1 (e ▸ List.mem_map_of_mem h)
        rw [List.map_cons, List.erase_cons_tail (by simpa using hg), List.erase_cons_tail (by simpa using hm), List.map_cons, map_erase g n l hd.2 h]

theorem sum_permI {a b : List Int} (h : a.Perm b) : a.sum = b.sum := by
  induction h with
  | nil => rfl
  | cons x _ ih => simp [ih]
  | swap x y l => simp; omega
  | trans _ _ i j => exact i.trans j

/-- The part with a number. -/
def partF (k : Work) (p : Plan) (n : Int) : Plan × Box := ((p.parts k.sheet)[n.toNat]?).getD (p, k.sheet)
/-- One step. -/
def tabStep (f : Int → Plan × Box) (T : List Box) (n : Int) : List Box := T.erase (f n).2 ++ [((f n).1.split (f n).2).1, ((f n).1.split (f n).2).2]
/-- The table. -/
def tabF (k : Work) (p : Plan) (S : List Int) : List Box := S.foldl (tabStep (partF k p)) [k.sheet]
theorem tabF_nil (k : Work) (p : Plan) : tabF k p [] = [k.sheet] := rfl
theorem tabF_next (k : Work) (p : Plan) {S : List Int} {i : Nat} {n : Int} (h : S[i]? = some n) : tabF k p (S.take (i + 1)) = tabStep (partF k p) (tabF k p (S.take i)) n := by
  unfold tabF
  rw [List.take_add_one, h, Option.toList, List.foldl_append]; rfl

theorem pair_nodup {l : List Box} (h : l.Pairwise fun a c => ¬ a.meets c) (hb : ∀ b ∈ l, b.sane) : l.Nodup := by
  refine List.Pairwise.imp_of_mem (fun {a c} ha _ hm e => hm ?_) h
  subst e
  have hs := hb _ ha
  have := Box.sane_ok hs
  unfold Box.sane at hs
  refine ⟨this, this, ?_, ?_⟩ <;> simp only [Box.meet] <;> omega

theorem split_area (p : Plan) (b : Box) : (p.split b).1.area + (p.split b).2.area = b.area := by
  unfold Plan.split Box.area
  split
  · simp only [Int.sub_mul]; omega
  · simp only [Int.mul_sub]; omega

/-- What holds of the table after the steps D. -/
structure TabInv (k : Work) (p : Plan) (D : List Int) (T : List Box) : Prop where
  ns : ∃ Ns : List Int, T = Ns.map (fun n => (partF k p n).2) ∧ ∀ q ∈ p.knots 0 (-1), q.1 ∉ D → (0 ≤ q.2 → q.2 ∈ D) → q.1 ∈ Ns
  ap : T.Pairwise fun a c => ¬ a.meets c
  sn : ∀ b ∈ T, b.sane
  len : T.length = D.length + 1
  ar : (T.map Box.area).sum = k.W * k.H

theorem tab_zero (k : Work) (p : Plan) (hv : p.valid k) : TabInv k p [] [k.sheet] where
  ns := ⟨[0], by simp [partF, Plan.parts_head p k.sheet hv.2.1.1], fun q hq _ h2 => by
    obtain ⟨h0, _, h3⟩ := Plan.knots_kid k p hv.2.1.1 k.sheet 0 (-1) q hq
    rcases h3 with h3 | h3
    · simp [h3.1]
    · exact absurd (h2 h3.1) (by simp)⟩
  ap := by simp
  sn := by simpa using Work.sheet_sane hv.1
  len := rfl
  ar := by simp [Box.area, Work.sheet]

/-- What a step meets. -/
theorem step_part (k : Work) (p : Plan) (hv : p.valid k) {D : List Int} {n : Int} (hc : canCut (p.knots 0 (-1)) D n) : 0 ≤ n ∧ ∃ q x y, (p.parts k.sheet)[n.toNat]? = some q ∧ partF k p n = q ∧ q.1.cut ∧ q.1.ks = [x, y] ∧ q.1.wf = true ∧ q.2.sane ∧ q.1.fits k q.2.W q.2.H = true ∧
    (p.parts k.sheet)[(n + 1).toNat]? = some (x, (q.1.split q.2).1) ∧ (p.parts k.sheet)[(n + 1 + x.nodes).toNat]? = some (y, (q.1.split q.2).2) := by
  obtain ⟨t, ht, rfl, _⟩ := hc
  obtain ⟨h0, ⟨u, hu, huc⟩, _⟩ := Plan.knots_kid k p hv.2.1.1 k.sheet 0 (-1) t ht
  rw [Int.sub_zero] at hu
  obtain ⟨x, y, e1, e2, e3, e4, e5, e6⟩ := Plan.parts_kids k p hv.2.1.1 k.sheet (Work.sheet_sane hv.1) hv.2.2 _ u hu huc
  refine ⟨h0, u, x, y, hu, by rw [partF, hu]; rfl, huc, e1, e2, e3, e4, ?_, ?_⟩
  · rw [show (t.1 + 1).toNat = t.1.toNat + 1 by omega]; exact e5
  · rw [show (t.1 + 1 + (x.nodes : Int)).toNat = t.1.toNat + 1 + x.nodes by omega]; exact e6

theorem tab_step (k : Work) (p : Plan) (hv : p.valid k) {D : List Int} {T : List Box} (h : TabInv k p D T) {n : Int} (hc : canCut (p.knots 0 (-1)) D n) :
    (partF k p n).2 ∈ T ∧ T.Nodup ∧ TabInv k p (D ++ [n]) (tabStep (partF k p) T n) ∧ ∀ b ∈ tabStep (partF k p) T n, ∃ c ∈ T, b.inside c := by
  obtain ⟨h0, q, x, y, g1, g2, g3, g4, g5, g6, g7, g8, g9⟩ := step_part k p hv hc
  obtain ⟨Ns, e1, e2⟩ := h.ns
  have hnd := pair_nodup h.ap h.sn
  obtain ⟨t, ht, rfl, hD, habove⟩ := hc
  have hin := e2 t ht hD habove
  have hmem : (partF k p t.1).2 ∈ T := by rw [e1]; exact List.mem_map_of_mem hin
  obtain ⟨s1, s2, i1, _, i2, _⟩ := Plan.split_sane g3 g4 g6 g7
  have hsub : ∀ a ∈ T.erase q.2, a ∈ T := fun a ha => List.mem_of_mem_erase ha
  have hperm : T.Perm (q.2 :: T.erase q.2) := List.perm_cons_erase (g2 ▸ hmem)
  have hap : ∀ a ∈ T.erase q.2, ¬ q.2.meets a := by
    have := (hperm.pairwise_iff (fun {a b} h1 h2 => h1 (meetsSym h2))).1 h.ap
    exact (List.pairwise_cons.1 this).1
  have hstep : tabStep (partF k p) T t.1 = T.erase q.2 ++ [(q.1.split q.2).1, (q.1.split q.2).2] := by rw [tabStep, g2]
  refine ⟨hmem, hnd, ⟨?_, ?_, ?_, ?_, ?_⟩, ?_⟩
  · refine ⟨Ns.erase t.1 ++ [t.1 + 1, t.1 + 1 + x.nodes], ?_, fun r hr h1 h2 => ?_⟩
    · rw [hstep, List.map_append, e1, ← map_erase (fun n => (partF k p n).2) t.1 Ns (e1 ▸ hnd) hin]
      have a1 : partF k p (t.1 + 1) = (x, (q.1.split q.2).1) := by rw [partF, g8]; rfl
      have a2 : partF k p (t.1 + 1 + x.nodes) = (y, (q.1.split q.2).2) := by rw [partF, g9]; rfl
      simp only [List.map_cons, List.map_nil, a1, a2, g2]
    · have h1' : r.1 ∉ D ∧ r.1 ≠ t.1 := by simpa using h1
      by_cases hrD : 0 ≤ r.2 → r.2 ∈ D
      · have := e2 r hr h1'.1 hrD
        exact List.mem_append_left _ ((List.mem_erase_of_ne h1'.2).2 this)
      · have hr0 : 0 ≤ r.2 := Classical.byContradiction fun h => hrD fun h' => absurd h' h
        have hrt : r.2 = t.1 := by
          have := h2 hr0
          simp only [List.mem_append, List.mem_singleton] at this
          rcases this with h | h
          · exact absurd (fun _ => h) hrD
          · exact h
        obtain ⟨_, _, h3⟩ := Plan.knots_kid k p hv.2.1.1 k.sheet 0 (-1) r hr
        rcases h3 with h3 | ⟨_, u, x', y', h4, h5, h6⟩
        · omega
        · rw [Int.sub_zero, hrt, g1] at h4
          cases h4
          rw [g4] at h5
          cases h5
          rw [hrt] at h6
          refine List.mem_append_right _ ?_
          rcases h6 with h6 | h6 <;> simp [h6]
  · rw [hstep]
    refine List.pairwise_append.2 ⟨h.ap.sublist List.erase_sublist, ?_, fun a ha c hc hm => ?_⟩
    · simp only [List.pairwise_cons, List.mem_singleton, forall_eq]
      exact ⟨splitApart _ _, by simp⟩
    · have hsa := Box.inside_self (h.sn a (hsub a ha))
      simp only [List.mem_cons, List.not_mem_nil, or_false] at hc
      rcases hc with rfl | rfl
      · exact apartIn (fun hh => hap a ha (meetsSym hh)) hsa i1 hm
      · exact apartIn (fun hh => hap a ha (meetsSym hh)) hsa i2 hm
  · rw [hstep]
    intro b hb
    simp only [List.mem_append, List.mem_cons, List.not_mem_nil, or_false] at hb
    rcases hb with hb | rfl | rfl
    · exact h.sn b (hsub b hb)
    · exact s1
    · exact s2
  · have hl := hperm.length_eq
    have := h.len
    rw [hstep]
    simp at hl ⊢
    omega
  · have hl := sum_permI (hperm.map Box.area)
    have := h.ar
    have := split_area q.1 q.2
    rw [hstep]
    simp only [List.map_append, List.sum_append_int, List.map_cons, List.sum_cons, List.map_nil, List.sum_nil] at hl ⊢
    omega
  · rw [hstep]
    intro b hb
    have hqT : q.2 ∈ T := g2 ▸ hmem
    simp only [List.mem_append, List.mem_cons, List.not_mem_nil, or_false] at hb
    rcases hb with hb | rfl | rfl
    · exact ⟨b, hsub b hb, Box.inside_self (h.sn b (hsub b hb))⟩
    · exact ⟨q.2, hqT, i1⟩
    · exact ⟨q.2, hqT, i2⟩

/-- All tables. -/
theorem tab_all (k : Work) (p : Plan) (hv : p.valid k) {S : List Int} : ∀ i : Nat, i ≤ S.length → begins (p.knots 0 (-1)) (S.take i) → TabInv k p (S.take i) (tabF k p (S.take i))
  | 0, _, _ => by simpa [tabF] using tab_zero k p hv
  | i + 1, hi, hb => by
    obtain ⟨n, hn⟩ := get_lt (l := S) (i := i) (by omega)
    have hc := begins_iff.1 hb i n (by rw [List.getElem?_take, if_pos (by omega)]; exact hn)
    rw [List.take_take, Nat.min_eq_left (by omega)] at hc
    have hb' : begins (p.knots 0 (-1)) (S.take i) := begins_iff.2 fun j m hm => by
      rw [List.getElem?_take] at hm
      split at hm
      · rename_i hj
        have := begins_iff.1 hb j m (by rw [List.getElem?_take, if_pos (by omega)]; exact hm)
        rw [List.take_take, Nat.min_eq_left (by omega)] at this ⊢
        exact this
      · cases hm
    have ih := tab_all k p hv i (by omega) hb'
    have := (tab_step k p hv ih hc).2.2.1
    rw [tabF_next k p hn, List.take_add_one, hn]
    exact this
end Go.Pc
