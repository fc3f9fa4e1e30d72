/- Two sorted pieces merged in place: what symMerge does, plainly. -/
import Derived.Test.YtkcpcmobmalijaaBta
set_option linter.unusedSimpArgs false
set_option linter.unusedVariables false
namespace Go.Pc
open Go Go.Proofs

/-- What holds at the place found: all before it is no greater, all behind it is no less. -/
theorem srt_app {g : Int → Int → Int} {X Y : List Int} : srt g (X ++ Y) ↔ srt g X ∧ srt g Y ∧ ∀ x ∈ X, ∀ y ∈ Y, ¬ g y x < 0 := by
  unfold srt
  rw [List.pairwise_append]

/-- Not greater. -/
theorem cmp_le {g : Int → Int → Int} {D : Int → Prop} (hg : CmpOk g D) {x y z : Int} (hx : D x) (hy : D y) (hz : D z) (h1 : ¬ g y x < 0) (h2 : ¬ g z y < 0) : ¬ g z x < 0 := hg.trans x y z hx hy hz h1 h2
theorem cmp_lt_le {g : Int → Int → Int} {D : Int → Prop} (hg : CmpOk g D) {x y z : Int} (hx : D x) (hy : D y) (hz : D z) (h1 : g x y < 0) (h2 : ¬ g z y < 0) : g x z < 0 :=
  Classical.byContradiction fun h => cmp_le hg hy hz hx h2 h h1
theorem cmp_le_lt {g : Int → Int → Int} {D : Int → Prop} (hg : CmpOk g D) {x y z : Int} (hx : D x) (hy : D y) (hz : D z) (h1 : ¬ g y x < 0) (h2 : g y z < 0) : g x z < 0 :=
  Classical.byContradiction fun h => cmp_le hg hz hx hy h h1 h2

/-- In a sorted row. -/
theorem srt_get {g : Int → Int → Int} {D : Int → Prop} (hg : CmpOk g D) {S : List Int} (hs : srt g S) (hD : ∀ x ∈ S, D x) {i j : Nat} {x y : Int} (hi : S[i]? = some x) (hj : S[j]? = some y) (hij : i ≤ j) : ¬ g y x < 0 := by
  obtain ⟨h1, rfl⟩ := List.getElem?_eq_some_iff.1 hi
  obtain ⟨h2, rfl⟩ := List.getElem?_eq_some_iff.1 hj
  rcases Nat.lt_or_ge i j with h | h
  · exact List.pairwise_iff_getElem.1 hs i j h1 h2 h
  · have : i = j := by omega
    subst this
    have hd := hD _ (List.getElem_mem h1)
    exact fun hh => hg.asym _ _ hd hd hh hh

/-- One number put into a sorted row, the row being the right one. -/
theorem one_right {g : Int → Int → Int} {D : Int → Prop} (hg : CmpOk g D) {x : Int} {Y : List Int} (hx : D x) (hD : ∀ y ∈ Y, D y) (hY : srt g Y) {i : Nat} (hi : i ≤ Y.length) (h1 : i = 0 ∨ ∃ y, Y[i - 1]? = some y ∧ g y x < 0) (h2 : i = Y.length ∨ ∃ y, Y[i]? = some y ∧ ¬ g y x < 0) : srt g (Y.take i ++ x :: Y.drop i) := by
  have ht : srt g (Y.take i) := List.Pairwise.sublist (List.take_sublist _ _) hY
  have hd : srt g (Y.drop i) := List.Pairwise.sublist (List.drop_sublist _ _) hY
  have A1 : ∀ y ∈ Y.take i, g y x < 0 := fun y hy => by
    obtain ⟨j, hj⟩ := List.mem_iff_getElem?.1 hy
    have hjl := (List.getElem?_eq_some_iff.1 hj).1
    rw [List.length_take] at hjl
    rw [List.getElem?_take, if_pos (by omega)] at hj
    rcases h1 with h1 | ⟨z, hz, hzx⟩
    · omega
    · exact cmp_le_lt hg (hD y (List.mem_of_getElem? hj)) (hD z (List.mem_of_getElem? hz)) hx (srt_get hg hY hD hj hz (by omega)) hzx
  have A2 : ∀ y ∈ Y.drop i, ¬ g y x < 0 := fun y hy => by
    obtain ⟨j, hj⟩ := List.mem_iff_getElem?.1 hy
    rw [List.getElem?_drop] at hj
    have hjl := (List.getElem?_eq_some_iff.1 hj).1
    rcases h2 with h2 | ⟨z, hz, hzx⟩
    · omega
    · exact cmp_le hg hx (hD z (List.mem_of_getElem? hz)) (hD y (List.mem_of_getElem? hj)) hzx (srt_get hg hY hD hz hj (by omega))
  refine srt_app.2 ⟨ht, List.pairwise_cons.2 ⟨A2, hd⟩, fun a ha b hb => ?_⟩
  have haD := hD a (List.mem_of_mem_take ha)
  rcases List.mem_cons.1 hb with rfl | hb
  · exact hg.asym a b haD hx (A1 a ha)
  · have hbD := hD b (List.mem_of_mem_drop hb)
    exact hg.asym a b haD hbD (cmp_lt_le hg haD hx hbD (A1 a ha) (A2 b hb))

/-- One number put into a sorted row, the row being the left one. -/
theorem one_left {g : Int → Int → Int} {D : Int → Prop} (hg : CmpOk g D) {y : Int} {X : List Int} (hy : D y) (hD : ∀ x ∈ X, D x) (hX : srt g X) {i : Nat} (hi : i ≤ X.length) (h1 : i = 0 ∨ ∃ x, X[i - 1]? = some x ∧ ¬ g y x < 0) (h2 : i = X.length ∨ ∃ x, X[i]? = some x ∧ g y x < 0) : srt g (X.take i ++ y :: X.drop i) := by
  have ht : srt g (X.take i) := List.Pairwise.sublist (List.take_sublist _ _) hX
  have hd : srt g (X.drop i) := List.Pairwise.sublist (List.drop_sublist _ _) hX
  have A1 : ∀ x ∈ X.take i, ¬ g y x < 0 := fun x hx => by
    obtain ⟨j, hj⟩ := List.mem_iff_getElem?.1 hx
    have hjl := (List.getElem?_eq_some_iff.1 hj).1
    rw [List.length_take] at hjl
    rw [List.getElem?_take, if_pos (by omega)] at hj
    rcases h1 with h1 | ⟨z, hz, hzy⟩
    · omega
    · exact cmp_le hg (hD x (List.mem_of_getElem? hj)) (hD z (List.mem_of_getElem? hz)) hy (srt_get hg hX hD hj hz (by omega)) hzy
  have A2 : ∀ x ∈ X.drop i, g y x < 0 := fun x hx => by
    obtain ⟨j, hj⟩ := List.mem_iff_getElem?.1 hx
    rw [List.getElem?_drop] at hj
    have hjl := (List.getElem?_eq_some_iff.1 hj).1
    rcases h2 with h2 | ⟨z, hz, hzy⟩
    · omega
    · exact cmp_lt_le hg hy (hD z (List.mem_of_getElem? hz)) (hD x (List.mem_of_getElem? hj)) hzy (srt_get hg hX hD hz hj (by omega))
  refine srt_app.2 ⟨ht, List.pairwise_cons.2 ⟨fun b hb => hg.asym y b hy (hD b (List.mem_of_mem_drop hb)) (A2 b hb), hd⟩, fun a ha b hb => ?_⟩
  have haD := hD a (List.mem_of_mem_take ha)
  rcases List.mem_cons.1 hb with rfl | hb
  · exact A1 a ha
  · have hbD := hD b (List.mem_of_mem_drop hb)
    exact hg.asym a b haD hbD (cmp_le_lt hg haD hy hbD (A1 a ha) (A2 b hb))

/-- Both halves cut, and the inner pieces exchanged: what is then on the left is no greater than what is on the right. -/
theorem halves {g : Int → Int → Int} {D : Int → Prop} (hg : CmpOk g D) {X Y : List Int} (hX : srt g X) (hY : srt g Y) (hDX : ∀ x ∈ X, D x) (hDY : ∀ y ∈ Y, D y) {i j : Nat} (hi : i ≤ X.length) (hj : j ≤ Y.length)
    (h1 : i = 0 ∨ j = Y.length ∨ ∃ x y, X[i - 1]? = some x ∧ Y[j]? = some y ∧ ¬ g y x < 0) (h2 : j = 0 ∨ i = X.length ∨ ∃ x y, X[i]? = some x ∧ Y[j - 1]? = some y ∧ g y x < 0) {M1 M2 : List Int} (p1 : M1.Perm (X.take i ++ Y.take j)) (p2 : M2.Perm (X.drop i ++ Y.drop j)) (s1 : srt g M1) (s2 : srt g M2) : srt g (M1 ++ M2) ∧ (M1 ++ M2).Perm (X ++ Y) := by
  constructor
  · refine srt_app.2 ⟨s1, s2, fun a ha b hb => ?_⟩
    have ha' := p1.mem_iff.1 ha
    have hb' := p2.mem_iff.1 hb
    have getT : ∀ (S : List Int) (n : Nat) z, z ∈ S.take n → ∃ t : Nat, t < n ∧ S[t]? = some z := fun S n z hz => by
      obtain ⟨t, ht⟩ := List.mem_iff_getElem?.1 hz
      have hl := (List.getElem?_eq_some_iff.1 ht).1
      rw [List.length_take] at hl
      rw [List.getElem?_take, if_pos (by omega)] at ht
      exact ⟨t, by omega, ht⟩
    have getD : ∀ (S : List Int) (n : Nat) z, z ∈ S.drop n → ∃ t : Nat, n ≤ t ∧ S[t]? = some z := fun S n z hz => by
      obtain ⟨t, ht⟩ := List.mem_iff_getElem?.1 hz
      rw [List.getElem?_drop] at ht
      exact ⟨n + t, by omega, ht⟩
    rcases List.mem_append.1 ha' with hx | hy
    · obtain ⟨t, ht, htx⟩ := getT _ _ _ hx
      have haD := hDX a (List.mem_of_getElem? htx)
      rcases List.mem_append.1 hb' with hx2 | hy2
      · obtain ⟨u, hu, hux⟩ := getD _ _ _ hx2
        exact srt_get hg hX hDX htx hux (by omega)
      · obtain ⟨u, hu, huy⟩ := getD _ _ _ hy2
        have hul := (List.getElem?_eq_some_iff.1 huy).1
        have hbD := hDY b (List.mem_of_getElem? huy)
        rcases h1 with h1 | h1 | ⟨x, y, hx1, hy1, hxy⟩
        · omega
        · omega
        · have hxD := hDX x (List.mem_of_getElem? hx1)
          have hyD := hDY y (List.mem_of_getElem? hy1)
          exact cmp_le hg haD hyD hbD (cmp_le hg haD hxD hyD (srt_get hg hX hDX htx hx1 (by omega)) hxy) (srt_get hg hY hDY hy1 huy (by omega))
    · obtain ⟨t, ht, hty⟩ := getT _ _ _ hy
      have haD := hDY a (List.mem_of_getElem? hty)
      rcases List.mem_append.1 hb' with hx2 | hy2
      · obtain ⟨u, hu, hux⟩ := getD _ _ _ hx2
        have hul := (List.getElem?_eq_some_iff.1 hux).1
        have hbD := hDX b (List.mem_of_getElem? hux)
        rcases h2 with h2 | h2 | ⟨x, y, hx1, hy1, hxy⟩
        · omega
        · omega
        · have hxD := hDX x (List.mem_of_getElem? hx1)
          have hyD := hDY y (List.mem_of_getElem? hy1)
          have h3 : g a x < 0 := cmp_le_lt hg haD hyD hxD (srt_get hg hY hDY hty hy1 (by omega)) hxy
          exact hg.asym a b haD hbD (cmp_lt_le hg haD hxD hbD h3 (srt_get hg hX hDX hx1 hux (by omega)))
      · obtain ⟨u, hu, huy⟩ := getD _ _ _ hy2
        exact srt_get hg hY hDY hty huy (by omega)
  · refine (p1.append p2).trans ?_
    have e : (X ++ Y) = (X.take i ++ X.drop i) ++ (Y.take j ++ Y.drop j) := by rw [List.take_append_drop, List.take_append_drop]
    rw [e, List.append_assoc, List.append_assoc]
    refine List.Perm.append_left _ ?_
    rw [← List.append_assoc, ← List.append_assoc]
    exact List.perm_append_comm.append_right _
end Go.Pc
