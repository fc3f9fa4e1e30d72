/- All orders: a row that is frozen in the middle of a region; the program's orders. -/
import Derived.Test.YtncjnchmmagkkaaOa
import Derived.Test.YtncjnchmmagkkaaSf
import Derived.Test.YtncjnchmmagkkaaAlh
import Derived.Test.YtncjnchmmagkkaaJa
set_option linter.unusedSimpArgs false
set_option linter.unusedVariables false
namespace Go.Pc
open Go Go.Proofs

section
variable {P : Program} {T : TypeId → Ty} {fx bl : List Nat}

/-- A state that says less, between two operations. -/
def Cut2 (P : Program) (T : TypeId → Ty) (fx bl : List Nat) (all l2 : List Oper) (K : AS → Prop) (s : AS) : Prop := ∃ t, Wk fx s t ∧ sxOps P T fx bl all l2 t K
theorem cut2 {all l2 : List Oper} {K : AS → Prop} {s t : AS} (h : Wk fx s t) (h2 : sxOps P T fx bl all l2 t K) : Cut2 P T fx bl all l2 K s := ⟨t, h, h2⟩

theorem sxOps_cut (hT : TTOk P T) (all l2 : List Oper) {K : AS → Prop} {ρ0 : Env} {w0 : World} : ∀ (l : List Oper) (s : AS) (ρ : Env) (a : Act) (w : World), sxOps P T fx bl all l s (Cut2 P T fx bl all l2 K) → Rel ρ s a w → St fx ρ0 w0 ρ w →
    wpList P all.toArray (fun e a' w' => ∃ s' ρ', (match e with | .normal => K s' | _ => False) ∧ Rel ρ' s' a' w' ∧ St fx ρ0 w0 ρ' w') (l ++ l2) a w
  | [], s, ρ, a, w, h, hr, hst => by
    obtain ⟨t, h1, h2⟩ := h
    obtain ⟨ρ', h3, h4⟩ := h1 ρ a w hr
    exact sxOps_sound hT all l2 t ρ' a w h2 h3 (hst.trans h4)
  | o :: rest, s, ρ, a, w, h, hr, hst => by
    have go : aOp P T fx bl o s (fun s' => sxOps P T fx bl all rest s' (Cut2 P T fx bl all l2 K)) → o.wp P a w (wpList P all.toArray (fun e a' w' => ∃ s' ρ', (match e with | .normal => K s' | _ => False) ∧ Rel ρ' s' a' w' ∧ St fx ρ0 w0 ρ' w') (rest ++ l2)) (fun e a' w' => ∃ s' ρ', (match e with | .normal => K s' | _ => False) ∧ Rel ρ' s' a' w' ∧ St fx ρ0 w0 ρ' w') := fun ha =>
      wp_of_out ((aOp_sound hT ha ρ a w hr).mono fun v w' ⟨s', ρ', h1, h2, h3⟩ => sxOps_cut hT all l2 rest s' ρ' _ w' h1 h2 (hst.trans h3))
    rw [List.cons_append]
    unfold wpList
    simp only [sxOps] at h
    cases hg : o.guard with
    | none =>
      rw [hg] at h
      rw [if_pos (by simp [Region.wanted, hg])]
      exact .inl (go h)
    | some gw =>
      obtain ⟨g, want⟩ := gw
      rw [hg] at h
      simp only at h
      split at h
      · rename_i b hb
        have hy := gBool_sound hb hr
        by_cases hbw : b = want
        · rw [if_pos (by simp [Region.wanted, hg, hy, hbw])]
          exact .inl (go (h.1 hbw))
        · rw [if_neg (by simp [Region.wanted, hg, hy, hbw])]
          exact sxOps_cut hT all l2 rest _ ρ _ w (h.2 (by cases b <;> cases want <;> simp_all)) (hr.put o.dst (.pr (.val _))) hst
      · rename_i hb
        have hy := gBool_sound hb hr
        rw [if_neg (by simp [Region.wanted, hg, hy])]
        exact sxOps_cut hT all l2 rest _ ρ _ w h (hr.put o.dst (.pr (.val _))) hst
      · cases h

theorem awp_rcut (hT : TTOk P T) (n : Nat) {id : Nat} {ops : List Oper} {Q : Exit → AS → Prop} {s : AS} (h : sxOps P T fx bl ops (ops.take n) s (Cut2 P T fx bl ops (ops.drop n) (Q .normal))) : awp P fx (.region id ops.toArray false) Q s := fun ρ a w hr => by
  refine wp_mono (wp_region_list (id := id) (ops := ops.toArray) (Q := fun e a' w' => ∃ s' ρ', (match e with | .normal => Q .normal s' | _ => False) ∧ Rel ρ' s' a' w' ∧ St fx ρ w ρ' w') ?_) fun e a' w' ⟨s', ρ', h1, h2⟩ => ?_
  · have := sxOps_cut hT ops (ops.drop n) (ops.take n) s ρ a w h hr (St.refl (fx := fx))
    rw [List.take_append_drop] at this
    simpa using this
  · cases e <;> first | exact ⟨s', ρ', h1, h2⟩ | cases h1

theorem awp_seqA {x y : Code} {Q : Exit → AS → Prop} {s : AS} (h : awp P fx x (AThen P fx y Q) s) : awp P fx (.seq x y) Q s := awp_seq h
theorem awp_cond {d : Nat} {x y : Code} {Q : Exit → AS → Prop} {s : AS} (b : Bool) (h : s.tm.getD d .any = .val (.bool b)) (h1 : b = true → awp P fx x Q s) (h2 : b = false → awp P fx y Q s) : awp P fx (.cond (.tmp d) x y) Q s := fun ρ a w hr => by
  have hv := hr.ev (.tmp d)
  have he : s.ev (.tmp d) = .val (.bool b) := h
  rw [he] at hv
  have := val_inv hv
  cases b
  · exact wp_cond_false this (h2 rfl ρ a w hr)
  · exact wp_cond_true this (h1 rfl ρ a w hr)
end

def rowsA (R : List (List Int)) : List (List AV) := R.map fun S => [.sl (ints S)]
theorem rowsA_len (R : List (List Int)) : (rowsA R).length = R.length := by simp [rowsA]
theorem rowsA_app (R R' : List (List Int)) : rowsA R ++ rowsA R' = rowsA (R ++ R') := by simp [rowsA]
theorem rowsA_one (R : List (List Int)) (S : List Int) : rowsA R ++ [[AV.sl (ints S)]] = rowsA (R ++ [S]) := by simp [rowsA]

/-- The orders that the first cuts begin. -/
def ordP (ks : List (Int × Int)) (n : Nat) (S : List Int) (i : Nat) : List (List Int) := (ks.take i).flatMap fun q => if canCut ks S q.1 then ordersL ks n (S ++ [q.1]) else []
theorem ordP_all (ks : List (Int × Int)) (n : Nat) (S : List Int) : ordP ks n S ks.length = ordersL ks (n + 1) S := by simp [ordP, ordersL]
theorem ordP_next {ks : List (Int × Int)} {n : Nat} {S : List Int} {i : Nat} {q : Int × Int} (h : ks[i]? = some q) : ordP ks n S (i + 1) = ordP ks n S i ++ (if canCut ks S q.1 then ordersL ks n (S ++ [q.1]) else []) := by
  unfold ordP
  rw [List.take_add_one, h]
  simp
theorem ordP_le (ks : List (Int × Int)) (n : Nat) (S : List Int) (i : Nat) : (ordP ks n S i).length ≤ (ordersL ks (n + 1) S).length := by
  have e : ordersL ks (n + 1) S = ordP ks n S i ++ (ks.drop i).flatMap fun q => if canCut ks S q.1 then ordersL ks n (S ++ [q.1]) else [] := by
    unfold ordP
    rw [← List.flatMap_append, List.take_append_drop]
    rfl
  rw [e, List.length_append]
  omega
theorem ordersL_len (ks : List (Int × Int)) : ∀ (n : Nat) (S : List Int), (ordersL ks n S).length ≤ ks.length ^ n
  | 0, S => by simp [ordersL]
  | n + 1, S => by
    have key : ∀ (l : List (Int × Int)), (l.flatMap fun q => if canCut ks S q.1 then ordersL ks n (S ++ [q.1]) else []).length ≤ l.length * ks.length ^ n := fun l => by
      induction l with
      | nil => simp
      | cons q l ih =>
        rw [List.flatMap_cons, List.length_append, List.length_cons, Nat.add_mul, Nat.one_mul]
        have : (if canCut ks S q.1 then ordersL ks n (S ++ [q.1]) else []).length ≤ ks.length ^ n := by
          split
          · exact ordersL_len ks n _
          · simp
        omega
    have := key ks
    rw [Nat.pow_succ, Nat.mul_comm]
    exact this
theorem begins_snoc {ks : List (Int × Int)} {S : List Int} {x : Int} (h : begins ks S) : begins ks (S ++ [x]) ↔ canCut ks S x := by
  rw [begins_chain, chain_app]
  simp only [List.nil_append, chain, and_true]
  exact ⟨fun h => h.2, fun h' => ⟨begins_chain.1 h, h'⟩⟩

theorem e_addOrders : Enters Try.prog 103 := enters_of Try.func103 (by kernel_rfl) (by kernel_rfl)
set_option maxHeartbeats 4000000 in
theorem addOrders_n (ks : List (Int × Int)) (f1 : (ks.map Prod.fst).Nodup) (f2 : ∀ q ∈ ks, q.2 < q.1 ∧ 0 ≤ q.1 ∧ q.1 < 255 ∧ -1 ≤ q.2) (hkl : ks.length ≤ 255) : ∀ (n : Nat) (S : List Int) (R : List (List Int)), begins ks S → S.length + n = ks.length → R.length + (ordersL ks n S).length ≤ 100000 →
    ACalls Try.prog 103 [.os 0 1 0 R.length, .sl (ks.map knotRow), .sl (ints S)] [.vec 1 (rowsA R)] [] (fun r L => r = .os 0 1 0 (R ++ ordersL ks n S).length ∧ L = [.vec 1 (rowsA (R ++ ordersL ks n S))]) := by
  intro n
  induction n with
  | zero =>
    intro S R hb hn hR
    refine acalls_tm T_tt Try.func103 rfl e_addOrders 38 rfl (W8 _ _ _ .any .any .any .any .any (W8 .any .any .any .any .any .any .any .any (W8 .any .any .any .any .any .any .any .any (W8 .any .any .any .any .any .any .any .any (W8 .any .any .any .any .any .any .any .any [.any]))))) rfl (rv := [.tmp 6]) rfl ?_
    refine awp_step (bl := []) T_tt ?_
    simp (disch := omega) only [SX0, SX1, SX2, SX3, SX4, SX5, SX6, SX7, SX8, SU0, SY0, SY1, Nat.reduceAdd, Nat.reduceMul, Nat.reduceSub, Nat.reduceLeDiff, Nat.reduceEqDiff, Nat.reduceLT, Nat.reduceBEq, ↓reduceIte, Int.reduceLE, Int.reduceLT, Int.reduceToNat, Int.reduceNeg, reduceCtorEq, Int.reduceEq, SF0, SF1, SF2, DCg0, DCe0, DCe1, DCe2, DDb0, DBc0, DBc1, DHb0, DHb1, DHa0, DDe0, DAlh0]
    refine awp_nest (awp_step (bl := []) T_tt ?_)
    simp (disch := omega) only [SX0, SX1, SX2, SX3, SX4, SX5, SX6, SX7, SX8, SU0, SY0, SY1, Nat.reduceAdd, Nat.reduceMul, Nat.reduceSub, Nat.reduceLeDiff, Nat.reduceEqDiff, Nat.reduceLT, Nat.reduceBEq, ↓reduceIte, Int.reduceLE, Int.reduceLT, Int.reduceToNat, Int.reduceNeg, reduceCtorEq, Int.reduceEq, SF0, SF1, SF2, DCg0, DCe0, DCe1, DCe2, DDb0, DBc0, DBc1, DHb0, DHb1, DHa0, DDe0, DAlh0]
    refine awp_cond (decide ((S.length : Int) = ks.length)) rfl (fun _ => ?_) (fun h => absurd h (by simp; omega))
    refine awp_seqA ?_
    refine awp_rcut (bl := []) T_tt 3 ?_
    simp (disch := omega) only [SX0, SX1, SX2, SX3, SX4, SX5, SX6, SX7, SX8, SU0, SY0, SY1, Nat.reduceAdd, Nat.reduceMul, Nat.reduceSub, Nat.reduceLeDiff, Nat.reduceEqDiff, Nat.reduceLT, Nat.reduceBEq, ↓reduceIte, Int.reduceLE, Int.reduceLT, Int.reduceToNat, Int.reduceNeg, reduceCtorEq, Int.reduceEq, SF0, SF1, SF2, DCg0, DCe0, DCe1, DCe2, DDb0, DBc0, DBc1, DHb0, DHb1, DHa0, DDe0, DAlh0, List.take_succ_cons, List.take_zero, List.drop_succ_cons, List.drop_zero]
    refine req ⟨intRows, by omega, by omega⟩ ?_
    simp (disch := omega) only [SX0, SX1, SX2, SX3, SX4, SX5, SX6, SX7, SX8, SU0, SY0, SY1, Nat.reduceAdd, Nat.reduceMul, Nat.reduceSub, Nat.reduceLeDiff, Nat.reduceEqDiff, Nat.reduceLT, Nat.reduceBEq, ↓reduceIte, Int.reduceLE, Int.reduceLT, Int.reduceToNat, Int.reduceNeg, reduceCtorEq, Int.reduceEq, SF0, SF1, SF2, DCg0, DCe0, DCe1, DCe2, DDb0, DBc0, DBc1, DHb0, DHb1, DHa0, DDe0, DAlh0]
    refine cut2 (wk_frz (r := 1) (k := 1) (es := ints S) rfl (by simp)) ?_
    have htk : List.take S.length (ints S) = ints S := List.take_of_length_le (by simp [ints])
    have hlt : S.length ≤ (ints S).length := by simp [ints]
    simp only [AS.frz, W8_map, List.map_cons, List.map_nil, AV.frz, OB.frz, frzL, if_true, if_false, Nat.reduceEqDiff, Nat.zero_add, true_and, List.length_map, List.drop_zero, List.set_cons_succ, List.set_cons_zero, Nat.le_refl, htk, hlt]
    simp (disch := omega) only [SX0, SX1, SX2, SX3, SX4, SX5, SX6, SX7, SX8, SU0, SY0, SY1, Nat.reduceAdd, Nat.reduceMul, Nat.reduceSub, Nat.reduceLeDiff, Nat.reduceEqDiff, Nat.reduceLT, Nat.reduceBEq, ↓reduceIte, Int.reduceLE, Int.reduceLT, Int.reduceToNat, Int.reduceNeg, reduceCtorEq, Int.reduceEq, SF0, SF1, SF2, DCg0, DCe0, DCe1, DCe2, DDb0, DBc0, DBc1, DHb0, DHb1, DHa0, DDe0, DAlh0]
    refine req ⟨by simp [rowsA], by omega, by omega⟩ ?_
    simp (disch := omega) only [SX0, SX1, SX2, SX3, SX4, SX5, SX6, SX7, SX8, SU0, SY0, SY1, Nat.reduceAdd, Nat.reduceMul, Nat.reduceSub, Nat.reduceLeDiff, Nat.reduceEqDiff, Nat.reduceLT, Nat.reduceBEq, ↓reduceIte, Int.reduceLE, Int.reduceLT, Int.reduceToNat, Int.reduceNeg, reduceCtorEq, Int.reduceEq, SF0, SF1, SF2, DCg0, DCe0, DCe1, DCe2, DDb0, DBc0, DBc1, DHb0, DHb1, DHa0, DDe0, DAlh0]
    refine awp_end (bl := []) T_tt ?_
    simp (disch := omega) only [SX0, SX1, SX2, SX3, SX4, SX5, SX6, SX7, SX8, SU0, SY0, SY1, Nat.reduceAdd, Nat.reduceMul, Nat.reduceSub, Nat.reduceLeDiff, Nat.reduceEqDiff, Nat.reduceLT, Nat.reduceBEq, ↓reduceIte, Int.reduceLE, Int.reduceLT, Int.reduceToNat, Int.reduceNeg, reduceCtorEq, Int.reduceEq, SF0, SF1, SF2, DCg0, DCe0, DCe1, DCe2, DDb0, DBc0, DBc1, DHb0, DHb1, DHa0, DDe0, DAlh0]
    exact fin_zero (.os 0 1 0 (R ++ ordersL ks 0 S).length) (.vec 1 (rowsA (R ++ ordersL ks 0 S))) ⟨rfl, rfl⟩ (by simp [AV.ren, nameK, ordersL]) (by simp [OB.ren, ordersL, rowsA, ints]) (by simp) (by simp)
  | succ n ih =>
    intro S R hb hn hR
    refine acalls_tm T_tt Try.func103 rfl e_addOrders 38 rfl (W8 _ _ _ .any .any .any .any .any (W8 .any .any .any .any .any .any .any .any (W8 .any .any .any .any .any .any .any .any (W8 .any .any .any .any .any .any .any .any (W8 .any .any .any .any .any .any .any .any [.any]))))) rfl (rv := [.tmp 6]) rfl (sx_sound (bl := []) T_tt _ _ _ ?_)
    simp (disch := omega) only [SX0, SX1, SX2, SX3, SX4, SX5, SX6, SX7, SX8, SU0, SY0, SY1, Nat.reduceAdd, Nat.reduceMul, Nat.reduceSub, Nat.reduceLeDiff, Nat.reduceEqDiff, Nat.reduceLT, Nat.reduceBEq, ↓reduceIte, Int.reduceLE, Int.reduceLT, Int.reduceToNat, Int.reduceNeg, reduceCtorEq, Int.reduceEq, SF0, SF1, SF2, DCg0, DCe0, DCe1, DCe2, DDb0, DBc0, DBc1, DHb0, DHb1, DHa0, DDe0, DAlh0]
    refine br_dec (fun h1 => absurd h1 (by omega)) (fun h1 => ?_)
    simp (disch := omega) only [SX0, SX1, SX2, SX3, SX4, SX5, SX6, SX7, SX8, SU0, SY0, SY1, Nat.reduceAdd, Nat.reduceMul, Nat.reduceSub, Nat.reduceLeDiff, Nat.reduceEqDiff, Nat.reduceLT, Nat.reduceBEq, ↓reduceIte, Int.reduceLE, Int.reduceLT, Int.reduceToNat, Int.reduceNeg, reduceCtorEq, Int.reduceEq, SF0, SF1, SF2, DCg0, DCe0, DCe1, DCe2, DDb0, DBc0, DBc1, DHb0, DHb1, DHa0, DDe0, DAlh0]
    with_reducible refine awp_loop_h (G := Nat) 8 33 (fun i => [(0, .os 0 1 0 (R ++ ordP ks n S i).length), (20, .sl (ks.map knotRow)), (21, .val (.int .i64 ks.length)), (22, .val (.int .i64 i))]) (fun i => [.vec 1 (rowsA (R ++ ordP ks n S i))]) (fun i => i ≤ ks.length) (fun i => ks.length - i) 0 (Nat.zero_le _) ?_ (fun i hi => ?_)
    · simp (disch := omega) only [SX0, SX1, SX2, SX3, SX4, SX5, SX6, SX7, SX8, SU0, SY0, SY1, Nat.reduceAdd, Nat.reduceMul, Nat.reduceSub, Nat.reduceLeDiff, Nat.reduceEqDiff, Nat.reduceLT, Nat.reduceBEq, ↓reduceIte, Int.reduceLE, Int.reduceLT, Int.reduceToNat, Int.reduceNeg, reduceCtorEq, Int.reduceEq, SF0, SF1, SF2, DCg0, DCe0, DCe1, DCe2, DDb0, DBc0, DBc1, DHb0, DHb1, DHa0, DDe0, DAlh0]
      (refine wk_le ?_ ?_ ?_; (focus (simp [W8, leTm, leAV, AV.under, underL, ints, ordP]; done)); (focus (simp [leL, OB.under, underL, AV.under, ints, ordP]; done)); (focus (simp; done)))
    have hle := ordP_le ks n S i
    refine sx_sound (bl := []) T_tt _ _ _ ?_
    simp (disch := omega) only [SX0, SX1, SX2, SX3, SX4, SX5, SX6, SX7, SX8, SU0, SY0, SY1, Nat.reduceAdd, Nat.reduceMul, Nat.reduceSub, Nat.reduceLeDiff, Nat.reduceEqDiff, Nat.reduceLT, Nat.reduceBEq, ↓reduceIte, Int.reduceLE, Int.reduceLT, Int.reduceToNat, Int.reduceNeg, reduceCtorEq, Int.reduceEq, SF0, SF1, SF2, DCg0, DCe0, DCe1, DCe2, DDb0, DBc0, DBc1, DHb0, DHb1, DHa0, DDe0, DAlh0]
    refine br_dec (fun h2 => ?_) (fun h2 => ?_)
    · obtain ⟨q, hq⟩ := get_lt (l := ks) (i := i) (by omega)
      have hnx := ordP_next (n := n) (S := S) hq
      have hle1 := ordP_le ks n S (i + 1)
      rw [hnx] at hle1
      simp (disch := omega) only [SX0, SX1, SX2, SX3, SX4, SX5, SX6, SX7, SX8, SU0, SY0, SY1, Nat.reduceAdd, Nat.reduceMul, Nat.reduceSub, Nat.reduceLeDiff, Nat.reduceEqDiff, Nat.reduceLT, Nat.reduceBEq, ↓reduceIte, Int.reduceLE, Int.reduceLT, Int.reduceToNat, Int.reduceNeg, reduceCtorEq, Int.reduceEq, SF0, SF1, SF2, DCg0, DCe0, DCe1, DCe2, DDb0, DBc0, DBc1, DHb0, DHb1, DHa0, DDe0, DAlh0, hq]
      refine awp_floatG (bl := []) T_tt mixed [0, 1] [0, 2, 3, 4] [0, 2, 3, 4] [⟨1, [0, 1], [(0, .f 26)], [], [(2, .f 28), (3, .f 29), (4, .f 30)]⟩, ⟨5, [0, 1], [(2, .f 28), (3, .f 29), (4, .f 30)], [], []⟩, ⟨6, [0, 1], [], [], []⟩] [] (by kernel_rfl) (by kernel_rfl) ?_
      simp (disch := omega) only [SX0, SX1, SX2, SX3, SX4, SX5, SX6, SX7, SX8, SU0, SY0, SY1, Nat.reduceAdd, Nat.reduceMul, Nat.reduceSub, Nat.reduceLeDiff, Nat.reduceEqDiff, Nat.reduceLT, Nat.reduceBEq, ↓reduceIte, Int.reduceLE, Int.reduceLT, Int.reduceToNat, Int.reduceNeg, reduceCtorEq, Int.reduceEq, SF0, SF1, SF2, DCg0, DCe0, DCe1, DCe2, DDb0, DBc0, DBc1, DHb0, DHb1, DHa0, DDe0, DAlh0, SX0]
      refine req ⟨intRows, by omega, by omega⟩ ?_
      simp (disch := omega) only [SX0, SX1, SX2, SX3, SX4, SX5, SX6, SX7, SX8, SU0, SY0, SY1, Nat.reduceAdd, Nat.reduceMul, Nat.reduceSub, Nat.reduceLeDiff, Nat.reduceEqDiff, Nat.reduceLT, Nat.reduceBEq, ↓reduceIte, Int.reduceLE, Int.reduceLT, Int.reduceToNat, Int.reduceNeg, reduceCtorEq, Int.reduceEq, SF0, SF1, SF2, DCg0, DCe0, DCe1, DCe2, DDb0, DBc0, DBc1, DHb0, DHb1, DHa0, DDe0, DAlh0, SX0]
      refine req (by decide) ?_
      simp (disch := omega) only [SX0, SX1, SX2, SX3, SX4, SX5, SX6, SX7, SX8, SU0, SY0, SY1, Nat.reduceAdd, Nat.reduceMul, Nat.reduceSub, Nat.reduceLeDiff, Nat.reduceEqDiff, Nat.reduceLT, Nat.reduceBEq, ↓reduceIte, Int.reduceLE, Int.reduceLT, Int.reduceToNat, Int.reduceNeg, reduceCtorEq, Int.reduceEq, SF0, SF1, SF2, DCg0, DCe0, DCe1, DCe2, DDb0, DBc0, DBc1, DHb0, DHb1, DHa0, DDe0, DAlh0, SX0]
      refine req (by omega) ?_
      simp (disch := omega) only [SX0, SX1, SX2, SX3, SX4, SX5, SX6, SX7, SX8, SU0, SY0, SY1, Nat.reduceAdd, Nat.reduceMul, Nat.reduceSub, Nat.reduceLeDiff, Nat.reduceEqDiff, Nat.reduceLT, Nat.reduceBEq, ↓reduceIte, Int.reduceLE, Int.reduceLT, Int.reduceToNat, Int.reduceNeg, reduceCtorEq, Int.reduceEq, SF0, SF1, SF2, DCg0, DCe0, DCe1, DCe2, DDb0, DBc0, DBc1, DHb0, DHb1, DHa0, DDe0, DAlh0, SX0]
      have eP : (S.map fun x => [AV.val (.int .i64 x)]) ++ [[AV.val (.int .i64 q.1)]] = ints (S ++ [q.1]) := by simp [ints]
      have htk : List.take (S.length + 1) (ints (S ++ [q.1])) = ints (S ++ [q.1]) := List.take_of_length_le (by simp [ints])
      have hlt : S.length + 1 ≤ (ints (S ++ [q.1])).length := by simp [ints]
      rw [eP]
      (refine acall_frz (r := 2) (k := 1) (es := ints (S ++ [q.1])) rfl (by simp) ?_; simp only [AS.frz, W8_map, List.map_cons, List.map_nil, AV.frz, OB.frz, frzL, if_true, if_false, Nat.reduceEqDiff, Nat.zero_add, true_and, List.length_map, List.drop_zero, List.set_cons_succ, List.set_cons_zero, Work.frzm, Plan.frzm, Nat.le_refl, htk, hlt])
      have B := beginsOrder_c ks f1 f2 (by omega) (S ++ [q.1]) (by simp; omega)
      refine acall_one B rfl rfl ?_
      simp (disch := omega) only [SX0, SX1, SX2, SX3, SX4, SX5, SX6, SX7, SX8, SU0, SY0, SY1, Nat.reduceAdd, Nat.reduceMul, Nat.reduceSub, Nat.reduceLeDiff, Nat.reduceEqDiff, Nat.reduceLT, Nat.reduceBEq, ↓reduceIte, Int.reduceLE, Int.reduceLT, Int.reduceToNat, Int.reduceNeg, reduceCtorEq, Int.reduceEq, SF0, SF1, SF2, DCg0, DCe0, DCe1, DCe2, DDb0, DBc0, DBc1, DHb0, DHb1, DHa0, DDe0, DAlh0]
      have key := begins_snoc (x := q.1) hb
      refine br_dec (fun h3 => ?_) (fun h3 => ?_)
      · have hc := key.1 h3
        rw [if_pos hc] at hnx hle1
        have I := ih (S ++ [q.1]) (R ++ ordP ks n S i) h3 (by simp; omega) (by simp at hle1 ⊢; omega)
        have eA : R ++ ordP ks n S i ++ ordersL ks n (S ++ [q.1]) = R ++ ordP ks n S (i + 1) := by rw [hnx, List.append_assoc]
        rw [eA] at I
        simp (disch := omega) only [SX0, SX1, SX2, SX3, SX4, SX5, SX6, SX7, SX8, SU0, SY0, SY1, Nat.reduceAdd, Nat.reduceMul, Nat.reduceSub, Nat.reduceLeDiff, Nat.reduceEqDiff, Nat.reduceLT, Nat.reduceBEq, ↓reduceIte, Int.reduceLE, Int.reduceLT, Int.reduceToNat, Int.reduceNeg, reduceCtorEq, Int.reduceEq, SF0, SF1, SF2, DCg0, DCe0, DCe1, DCe2, DDb0, DBc0, DBc1, DHb0, DHb1, DHa0, DDe0, DAlh0]
        refine acall_own I [0] [0] (by simp only [SX0, SX1, SX2, SX3, SX4, SX5, SX6, SX7, SX8, SU0, SY0, SY1, Nat.reduceAdd, Nat.reduceMul, Nat.reduceSub, Nat.reduceLeDiff, Nat.reduceEqDiff, Nat.reduceLT, Nat.reduceBEq, ↓reduceIte, Int.reduceLE, Int.reduceLT, Int.reduceToNat, Int.reduceNeg, reduceCtorEq, Int.reduceEq, SF0, SF1, SF2, DCg0, DCe0, DCe1, DCe2, DDb0, DBc0, DBc1, DHb0, DHb1, DHa0, DDe0, DAlh0, SX0]) (by decide) (by decide) (by rfl) (by simp only [SX0, SX1, SX2, SX3, SX4, SX5, SX6, SX7, SX8, SU0, SY0, SY1, Nat.reduceAdd, Nat.reduceMul, Nat.reduceSub, Nat.reduceLeDiff, Nat.reduceEqDiff, Nat.reduceLT, Nat.reduceBEq, ↓reduceIte, Int.reduceLE, Int.reduceLT, Int.reduceToNat, Int.reduceNeg, reduceCtorEq, Int.reduceEq, SF0, SF1, SF2, DCg0, DCe0, DCe1, DCe2, DDb0, DBc0, DBc1, DHb0, DHb1, DHa0, DDe0, DAlh0, SX0]) ?_
        rintro _ _ ⟨rfl, rfl⟩
        simp (disch := omega) only [SX0, SX1, SX2, SX3, SX4, SX5, SX6, SX7, SX8, SU0, SY0, SY1, Nat.reduceAdd, Nat.reduceMul, Nat.reduceSub, Nat.reduceLeDiff, Nat.reduceEqDiff, Nat.reduceLT, Nat.reduceBEq, ↓reduceIte, Int.reduceLE, Int.reduceLT, Int.reduceToNat, Int.reduceNeg, reduceCtorEq, Int.reduceEq, SF0, SF1, SF2, DCg0, DCe0, DCe1, DCe2, DDb0, DBc0, DBc1, DHb0, DHb1, DHa0, DDe0, DAlh0]
        refine ⟨i + 1, by omega, by omega, ?_⟩
        (refine wk_le ?_ ?_ ?_; (focus (simp [W8, leTm, leAV, AV.under, underL, ints]; done)); (focus (simp [leL, OB.under, underL, AV.under, ints]; done)); (focus (simp; done)))
      · have hc : ¬ canCut ks S q.1 := fun h => h3 (key.2 h)
        rw [if_neg hc, List.append_nil] at hnx
        simp (disch := omega) only [SX0, SX1, SX2, SX3, SX4, SX5, SX6, SX7, SX8, SU0, SY0, SY1, Nat.reduceAdd, Nat.reduceMul, Nat.reduceSub, Nat.reduceLeDiff, Nat.reduceEqDiff, Nat.reduceLT, Nat.reduceBEq, ↓reduceIte, Int.reduceLE, Int.reduceLT, Int.reduceToNat, Int.reduceNeg, reduceCtorEq, Int.reduceEq, SF0, SF1, SF2, DCg0, DCe0, DCe1, DCe2, DDb0, DBc0, DBc1, DHb0, DHb1, DHa0, DDe0, DAlh0]
        refine ⟨i + 1, by omega, by omega, ?_⟩
        rw [hnx]
        (refine wk_le ?_ ?_ ?_; (focus (simp [W8, leTm, leAV, AV.under, underL, ints]; done)); (focus (simp [leL, OB.under, underL, AV.under, ints]; done)); (focus (simp; done)))
    · have hil : i = ks.length := by omega
      subst hil
      rw [ordP_all]
      simp (disch := omega) only [SX0, SX1, SX2, SX3, SX4, SX5, SX6, SX7, SX8, SU0, SY0, SY1, Nat.reduceAdd, Nat.reduceMul, Nat.reduceSub, Nat.reduceLeDiff, Nat.reduceEqDiff, Nat.reduceLT, Nat.reduceBEq, ↓reduceIte, Int.reduceLE, Int.reduceLT, Int.reduceToNat, Int.reduceNeg, reduceCtorEq, Int.reduceEq, SF0, SF1, SF2, DCg0, DCe0, DCe1, DCe2, DDb0, DBc0, DBc1, DHb0, DHb1, DHa0, DDe0, DAlh0]
      exact fin_zero (.os 0 1 0 (R ++ ordersL ks (n + 1) S).length) (.vec 1 (rowsA (R ++ ordersL ks (n + 1) S))) ⟨rfl, rfl⟩ rfl (by simp [OB.ren]) (by simp) (by simp)

theorem e_allStepsI : Enters Try.prog 48 := enters_of Try.func48 (by kernel_rfl) (by kernel_rfl)
theorem allStepsI_c (p : Plan) : ACalls Try.prog 48 [.agg p.cs] [] [] (fun r L => r = .sl (rowsA (if (p.wf = true ∧ p.nodes ≤ 255) ∧ (p.knots 0 (-1)).length ≤ 5 then ordersL (p.knots 0 (-1)) (p.knots 0 (-1)).length [] else [])) ∧ L = []) := by
  refine acalls_tm T_tt Try.func48 rfl e_allStepsI 18 rfl (W8 _ .any .any .any .any .any .any .any (W8 .any .any .any .any .any .any .any .any [.any, .any, .any])) rfl (rv := [.tmp 2]) rfl (sx_sound (bl := []) T_tt _ _ _ ?_)
  simp (disch := omega) only [SX0, SX1, SX2, SX3, SX4, SX5, SX6, SX7, SX8, SU0, SY0, SY1, Nat.reduceAdd, Nat.reduceMul, Nat.reduceSub, Nat.reduceLeDiff, Nat.reduceEqDiff, Nat.reduceLT, Nat.reduceBEq, ↓reduceIte, Int.reduceLE, Int.reduceLT, Int.reduceToNat, Int.reduceNeg, reduceCtorEq, Int.reduceEq, SF0, SF1, SF2, DCg0, DCe0, DCe1, DCe2, DDb0, DBc0, DBc1, DHb0, DHb1, DHa0, DDe0, DAlh0]
  refine acall_one (knotsOf_c p) (by simp [freeL, AV.free, Plan.free]) rfl ?_
  simp (disch := omega) only [SX0, SX1, SX2, SX3, SX4, SX5, SX6, SX7, SX8, SU0, SY0, SY1, Nat.reduceAdd, Nat.reduceMul, Nat.reduceSub, Nat.reduceLeDiff, Nat.reduceEqDiff, Nat.reduceLT, Nat.reduceBEq, ↓reduceIte, Int.reduceLE, Int.reduceLT, Int.reduceToNat, Int.reduceNeg, reduceCtorEq, Int.reduceEq, SF0, SF1, SF2, DCg0, DCe0, DCe1, DCe2, DDb0, DBc0, DBc1, DHb0, DHb1, DHa0, DDe0, DAlh0]
  refine br_ndec (fun h1 => ?_) (fun h1 => ?_)
  · simp (disch := omega) only [SX0, SX1, SX2, SX3, SX4, SX5, SX6, SX7, SX8, SU0, SY0, SY1, Nat.reduceAdd, Nat.reduceMul, Nat.reduceSub, Nat.reduceLeDiff, Nat.reduceEqDiff, Nat.reduceLT, Nat.reduceBEq, ↓reduceIte, Int.reduceLE, Int.reduceLT, Int.reduceToNat, Int.reduceNeg, reduceCtorEq, Int.reduceEq, SF0, SF1, SF2, DCg0, DCe0, DCe1, DCe2, DDb0, DBc0, DBc1, DHb0, DHb1, DHa0, DDe0, DAlh0]
    exact fin_nilrow ⟨by rw [if_neg (fun h => h1 h.1)]; rfl, rfl⟩
  rw [if_pos h1]
  simp (disch := omega) only [SX0, SX1, SX2, SX3, SX4, SX5, SX6, SX7, SX8, SU0, SY0, SY1, Nat.reduceAdd, Nat.reduceMul, Nat.reduceSub, Nat.reduceLeDiff, Nat.reduceEqDiff, Nat.reduceLT, Nat.reduceBEq, ↓reduceIte, Int.reduceLE, Int.reduceLT, Int.reduceToNat, Int.reduceNeg, reduceCtorEq, Int.reduceEq, SF0, SF1, SF2, DCg0, DCe0, DCe1, DCe2, DDb0, DBc0, DBc1, DHb0, DHb1, DHa0, DDe0, DAlh0]
  refine br_dec (fun h2 => ?_) (fun h2 => ?_)
  · simp (disch := omega) only [SX0, SX1, SX2, SX3, SX4, SX5, SX6, SX7, SX8, SU0, SY0, SY1, Nat.reduceAdd, Nat.reduceMul, Nat.reduceSub, Nat.reduceLeDiff, Nat.reduceEqDiff, Nat.reduceLT, Nat.reduceBEq, ↓reduceIte, Int.reduceLE, Int.reduceLT, Int.reduceToNat, Int.reduceNeg, reduceCtorEq, Int.reduceEq, SF0, SF1, SF2, DCg0, DCe0, DCe1, DCe2, DDb0, DBc0, DBc1, DHb0, DHb1, DHa0, DDe0, DAlh0]
    exact fin_nilrow ⟨by rw [if_neg (fun h => by have := h.2; omega)]; rfl, rfl⟩
  have hk5 : (p.knots 0 (-1)).length ≤ 5 := by omega
  obtain ⟨f1, f2⟩ := Plan.knots_facts h1.1
  have hb : begins (p.knots 0 (-1)) [] := fun i h => by simp at h
  have hpw : (p.knots 0 (-1)).length ^ (p.knots 0 (-1)).length ≤ 5 ^ 5 := Nat.le_trans (Nat.pow_le_pow_left hk5 _) (Nat.pow_le_pow_right (by omega) hk5)
  have hol := ordersL_len (p.knots 0 (-1)) (p.knots 0 (-1)).length []
  have A := addOrders_n (p.knots 0 (-1)) f1 (fun q hq => by have := f2 q hq; omega) (by omega) (p.knots 0 (-1)).length [] [] hb (by simp) (by simp; omega)
  simp only [List.nil_append, List.length_nil, ints, List.map_nil, rowsA] at A
  rw [if_pos ⟨h1, hk5⟩]
  simp (disch := omega) only [SX0, SX1, SX2, SX3, SX4, SX5, SX6, SX7, SX8, SU0, SY0, SY1, Nat.reduceAdd, Nat.reduceMul, Nat.reduceSub, Nat.reduceLeDiff, Nat.reduceEqDiff, Nat.reduceLT, Nat.reduceBEq, ↓reduceIte, Int.reduceLE, Int.reduceLT, Int.reduceToNat, Int.reduceNeg, reduceCtorEq, Int.reduceEq, SF0, SF1, SF2, DCg0, DCe0, DCe1, DCe2, DDb0, DBc0, DBc1, DHb0, DHb1, DHa0, DDe0, DAlh0]
  refine acall_nil0 1 (by decide) ?_
  refine acall_nrm ?_
  simp only [List.map_cons, List.map_nil, AV.nrm]
  refine acall_own A [1] [1] (by simp only [SX0, SX1, SX2, SX3, SX4, SX5, SX6, SX7, SX8, SU0, SY0, SY1, Nat.reduceAdd, Nat.reduceMul, Nat.reduceSub, Nat.reduceLeDiff, Nat.reduceEqDiff, Nat.reduceLT, Nat.reduceBEq, ↓reduceIte, Int.reduceLE, Int.reduceLT, Int.reduceToNat, Int.reduceNeg, reduceCtorEq, Int.reduceEq, SF0, SF1, SF2, DCg0, DCe0, DCe1, DCe2, DDb0, DBc0, DBc1, DHb0, DHb1, DHa0, DDe0, DAlh0, SX0]) (by decide) (by decide) (by rfl) (by simp only [SX0, SX1, SX2, SX3, SX4, SX5, SX6, SX7, SX8, SU0, SY0, SY1, Nat.reduceAdd, Nat.reduceMul, Nat.reduceSub, Nat.reduceLeDiff, Nat.reduceEqDiff, Nat.reduceLT, Nat.reduceBEq, ↓reduceIte, Int.reduceLE, Int.reduceLT, Int.reduceToNat, Int.reduceNeg, reduceCtorEq, Int.reduceEq, SF0, SF1, SF2, DCg0, DCe0, DCe1, DCe2, DDb0, DBc0, DBc1, DHb0, DHb1, DHa0, DDe0, DAlh0, SX0]) ?_
  rintro _ _ ⟨rfl, rfl⟩
  simp (disch := omega) only [SX0, SX1, SX2, SX3, SX4, SX5, SX6, SX7, SX8, SU0, SY0, SY1, Nat.reduceAdd, Nat.reduceMul, Nat.reduceSub, Nat.reduceLeDiff, Nat.reduceEqDiff, Nat.reduceLT, Nat.reduceBEq, ↓reduceIte, Int.reduceLE, Int.reduceLT, Int.reduceToNat, Int.reduceNeg, reduceCtorEq, Int.reduceEq, SF0, SF1, SF2, DCg0, DCe0, DCe1, DCe2, DDb0, DBc0, DBc1, DHb0, DHb1, DHa0, DDe0, DAlh0]
  exact fin_row rfl (by simp) ⟨rfl, rfl⟩

end Go.Pc
