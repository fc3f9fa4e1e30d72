/- Johnson's order has the least span: plain. -/
import Derived.Test.YtncjnchmmagkkaaNb
set_option linter.unusedSimpArgs false
set_option linter.unusedVariables false
namespace Go.Pc
open Go Go.Proofs

def sumC (js : List Job) : Int := (js.map Job.C).sum
def sumH (js : List Job) : Int := (js.map Job.H).sum
theorem sumC_cons (j : Job) (js : List Job) : sumC (j :: js) = j.C + sumC js := by simp [sumC]
theorem sumH_cons (j : Job) (js : List Job) : sumH (j :: js) = j.H + sumH js := by simp [sumH]
theorem runJ_cons (j : Job) (js : List Job) (st : Int × Int) : runJ (j :: js) st = runJ js (stepJ st j) := rfl
theorem runJ_fst : ∀ (js : List Job) (st : Int × Int), (runJ js st).1 = st.1 + sumC js
  | [], st => by simp [runJ, sumC]
  | j :: js, st => by rw [runJ_cons, runJ_fst js, sumC_cons]; unfold stepJ; simp only; omega
theorem runJ_le : ∀ (js : List Job) (st : Int × Int), (∀ j ∈ js, j.ok) → (runJ js st).2 ≤ max st.1 st.2 + sumC js + sumH js
  | [], st, _ => by simp [runJ, sumC, sumH]; omega
  | j :: js, st, h => by
    have hj := h j (by simp)
    unfold Job.ok at hj
    have := runJ_le js (stepJ st j) fun q hq => h q (by simp [hq])
    rw [runJ_cons, sumC_cons, sumH_cons]
    unfold stepJ at this ⊢
    simp only at this
    omega
theorem runJ_ge : ∀ (js : List Job) (st : Int × Int), st.2 + sumH js ≤ (runJ js st).2
  | [], st => by simp [runJ, sumH]
  | j :: js, st => by
    have := runJ_ge js (stepJ st j)
    rw [runJ_cons, sumH_cons]
    unfold stepJ at this ⊢
    simp only at this
    omega
theorem runJ_ge2 {m : Int} : ∀ (js : List Job) (st : Int × Int), (∀ j ∈ js, m ≤ j.H) → js ≠ [] → st.1 + sumC js + m ≤ (runJ js st).2
  | [], st, _, h => absurd rfl h
  | [j], st, h, _ => by
    have := h j (by simp)
    simp [runJ, stepJ, sumC]; omega
  | j :: k :: js, st, h, _ => by
    have := runJ_ge2 (k :: js) (stepJ st j) (fun q hq => h q (by simp [hq])) (by simp)
    rw [runJ_cons, sumC_cons]
    unfold stepJ at this ⊢
    simp only at this
    omega
theorem span_ge1 {m : Int} {js : List Job} (h : ∀ j ∈ js, m ≤ j.C) (hne : js ≠ []) (h0 : ∀ j ∈ js, j.ok) : m + sumH js ≤ spanJ js := by
  cases js with
  | nil => exact absurd rfl hne
  | cons j js =>
    have h1 := h j (by simp)
    have h2 := (h0 j (by simp))
    unfold Job.ok at h2
    have := runJ_ge js (stepJ (0, 0) j)
    unfold spanJ
    rw [runJ_cons, sumH_cons]
    have e2 : (stepJ (0, 0) j).2 = max (0 + j.C) 0 + j.H := rfl
    rw [e2] at this
    omega
theorem runJ_mono : ∀ (js : List Job) (c h h' : Int), h ≤ h' → (runJ js (c, h)).2 ≤ (runJ js (c, h')).2
  | [], c, h, h', hh => hh
  | j :: js, c, h, h', hh => by
    rw [runJ_cons, runJ_cons]
    unfold stepJ
    exact runJ_mono js _ _ _ (by simp only; omega)
theorem runJ_swap {a b : Job} (h : ¬ cmpJ b a < 0) (js : List Job) (st : Int × Int) : (runJ (a :: b :: js) st).2 ≤ (runJ (b :: a :: js) st).2 := by
  rw [runJ_cons, runJ_cons, runJ_cons, runJ_cons]
  obtain ⟨c, t⟩ := st
  unfold stepJ
  simp only
  rw [show c + a.C + b.C = c + b.C + a.C by omega]
  refine runJ_mono js _ _ _ ?_
  unfold cmpJ at h
  by_cases h1 : b.C < b.H <;> by_cases h2 : a.C < a.H <;> simp only [h1, h2, if_true, if_false] at h <;> omega
theorem runJ_move {x : Job} (post : List Job) : ∀ (pre : List Job) (st : Int × Int), (∀ a ∈ pre, ¬ cmpJ a x < 0) → (runJ (x :: (pre ++ post)) st).2 ≤ (runJ (pre ++ x :: post) st).2
  | [], st, _ => Int.le_refl _
  | a :: pre, st, h => by
    have h1 := runJ_move post pre (stepJ st a) fun q hq => h q (by simp [hq])
    have h2 := runJ_swap (h a (by simp)) (pre ++ post) st
    rw [List.cons_append, List.cons_append, runJ_cons a (pre ++ x :: post)]
    have h3 : (runJ (a :: x :: (pre ++ post)) st).2 = (runJ (x :: (pre ++ post)) (stepJ st a)).2 := rfl
    omega
/-- The best order is best. -/
theorem best_least : ∀ (s l : List Job), s.Pairwise (fun a b => ¬ cmpJ b a < 0) → l.Perm s → ∀ st, (runJ s st).2 ≤ (runJ l st).2
  | [], l, _, hp, st => by rw [List.perm_nil.1 hp]; exact Int.le_refl _
  | x :: s, l, hs, hp, st => by
    obtain ⟨h1, h2⟩ := List.pairwise_cons.1 hs
    obtain ⟨pre, post, rfl⟩ := List.append_of_mem (hp.mem_iff.2 (List.mem_cons_self (a := x) (l := s)))
    have hp2 : (pre ++ post).Perm s := (List.perm_middle.symm.trans hp).cons_inv
    have h3 := runJ_move post pre st fun a ha => h1 a (hp2.mem_iff.1 (by simp [ha]))
    have h4 := best_least s (pre ++ post) h2 hp2 (stepJ st x)
    have e1 : (runJ (x :: s) st).2 = (runJ s (stepJ st x)).2 := rfl
    have e2 : (runJ (x :: (pre ++ post)) st).2 = (runJ (pre ++ post) (stepJ st x)).2 := rfl
    omega

theorem order_perm {l : List Job} {o : List Int} (h : orderOk l o) : o.Perm (upTo l.length) := by
  obtain ⟨h1, h2, h3, h4⟩ := h
  have ht : turnOk o := ⟨⟨by have := h1.1; omega, fun x hx => by have := h3 x hx; omega⟩, h4⟩
  have hnd : (upTo l.length).Nodup := by
    unfold upTo
    rw [List.nodup_iff_pairwise_ne, List.pairwise_map]
    refine List.Pairwise.imp (fun {a b} hab e => ?_) (List.pairwise_lt_range (n := l.length))
    omega
  refine (List.perm_ext_iff_of_nodup h4 hnd).2 fun x => ⟨fun hx => ?_, fun hx => ?_⟩
  · have := h3 x hx
    exact List.mem_map.2 ⟨x.toNat, List.mem_range.2 (by omega), by omega⟩
  · obtain ⟨i, hi, rfl⟩ := List.mem_map.1 hx
    have := List.mem_range.1 hi
    exact turn_mem ht (by omega) (by omega)
theorem ordJ_upTo (l : List Job) : ordJ l (upTo l.length) = l := by
  unfold ordJ upTo
  apply List.ext_getElem
  · simp
  · intro i h1 h2
    simp [jobAt, List.getD_eq_getElem?_getD, List.getElem?_eq_getElem h2]
theorem ordJ_perm {l : List Job} {o : List Int} (h : o.Perm (upTo l.length)) : (ordJ l o).Perm l := by
  have := h.map (jobAt l)
  rw [show (upTo l.length).map (jobAt l) = l from ordJ_upTo l] at this
  exact this
theorem perm_sum {a b : List Int} (h : a.Perm b) : a.sum = b.sum := by
  induction h with
  | nil => rfl
  | cons x _ ih => simp [ih]
  | swap x y l => simp only [List.sum_cons]; omega
  | trans _ _ ih1 ih2 => rw [ih1, ih2]
theorem sumC_perm {a b : List Job} (h : a.Perm b) : sumC a = sumC b := by unfold sumC; exact perm_sum (h.map _)
theorem sumH_perm {a b : List Job} (h : a.Perm b) : sumH a = sumH b := by unfold sumH; exact perm_sum (h.map _)

/-! ### The bound -/

def minC (js : List Job) : Int := js.foldl (fun m j => min m j.C) 500
def minH (js : List Job) : Int := js.foldl (fun m j => min m j.H) 500
theorem foldl_min {f : Job → Int} : ∀ (js : List Job) (m : Int), js.foldl (fun m j => min m (f j)) m ≤ m ∧ ∀ j ∈ js, js.foldl (fun m j => min m (f j)) m ≤ f j
  | [], m => by simp
  | j :: js, m => by
    have := foldl_min (f := f) js (min m (f j))
    rw [List.foldl_cons]
    refine ⟨by omega, fun q hq => ?_⟩
    rcases List.mem_cons.1 hq with rfl | hq
    · omega
    · exact this.2 q hq
theorem minC_le {js : List Job} : ∀ j ∈ js, minC js ≤ j.C := (foldl_min js 500).2
theorem minH_le {js : List Job} : ∀ j ∈ js, minH js ≤ j.H := (foldl_min js 500).2
def boundV (l : List Job) : Int := if l = [] then 0 else max (sumC l + minH l) (sumH l + minC l)
theorem sumC_next {l : List Job} {i : Nat} {q : Job} (h : l[i]? = some q) : sumC (l.take (i + 1)) = sumC (l.take i) + q.C := by unfold sumC; rw [List.take_add_one, h]; simp
theorem sumH_next {l : List Job} {i : Nat} {q : Job} (h : l[i]? = some q) : sumH (l.take (i + 1)) = sumH (l.take i) + q.H := by unfold sumH; rw [List.take_add_one, h]; simp
theorem minC_next {l : List Job} {i : Nat} {q : Job} (h : l[i]? = some q) : minC (l.take (i + 1)) = min (minC (l.take i)) q.C := by unfold minC; rw [List.take_add_one, h, List.foldl_append]; rfl
theorem minH_next {l : List Job} {i : Nat} {q : Job} (h : l[i]? = some q) : minH (l.take (i + 1)) = min (minH (l.take i)) q.H := by unfold minH; rw [List.take_add_one, h, List.foldl_append]; rfl
theorem sums_bd : ∀ {js : List Job}, (∀ j ∈ js, j.ok) → (0 ≤ sumC js ∧ sumC js ≤ 500 * js.length) ∧ (0 ≤ sumH js ∧ sumH js ≤ 500 * js.length)
  | [], _ => by simp [sumC, sumH]
  | j :: js, h => by
    have hj := h j (by simp)
    unfold Job.ok at hj
    have := sums_bd (js := js) fun q hq => h q (by simp [hq])
    rw [sumC_cons, sumH_cons, List.length_cons]
    omega
theorem mins_bd {js : List Job} (h : ∀ j ∈ js, j.ok) : (0 ≤ minC js ∧ minC js ≤ 500) ∧ (0 ≤ minH js ∧ minH js ≤ 500) := by
  have key : ∀ (f : Job → Int) (js : List Job) (m : Int), (∀ j ∈ js, 0 ≤ f j) → 0 ≤ m → 0 ≤ js.foldl (fun m j => min m (f j)) m := fun f js => by
    induction js with
    | nil => intro m _ h; exact h
    | cons j js ih => intro m h h0; rw [List.foldl_cons]; exact ih _ (fun q hq => h q (by simp [hq])) (by have := h j (by simp); omega)
  refine ⟨⟨key Job.C js 500 (fun j hj => (h j hj).1.1) (by omega), (foldl_min js 500).1⟩, ⟨key Job.H js 500 (fun j hj => (h j hj).2.1) (by omega), (foldl_min js 500).1⟩⟩

theorem e_spanBound : Enters Try.prog 19 := enters_of Try.func19 (by kernel_rfl) (by kernel_rfl)
set_option maxHeartbeats 1000000 in
theorem spanBound_c (l : List Job) (hj : jobsOk l) : ACalls Try.prog 19 [.sl (l.map Job.cs)] [] [] (fun r L => r = .val (.int .i64 (boundV l)) ∧ L = []) := by
  have hl16 := hj.1
  have V := validJobsI_c l (by omega)
  rw [decide_eq_true hj] at V
  refine acalls_tm T_tt Try.func19 rfl e_spanBound 44 rfl (W8 _ .any .any .any .any .any .any .any (W8 .any .any .any .any .any .any .any .any (W8 .any .any .any .any .any .any .any .any (W8 .any .any .any .any .any .any .any .any (W8 .any .any .any .any .any .any .any .any [.any, .any, .any, .any, .any]))))) rfl (rv := [.tmp 2]) rfl (sx_sound (bl := []) T_tt _ _ _ ?_)
  simp (disch := omega) only [SX0, SX1, SX2, SX3, SX4, SX5, SX6, SX7, SX8, SU0, SY0, SY1, Nat.reduceAdd, Nat.reduceMul, Nat.reduceSub, Nat.reduceLeDiff, Nat.reduceEqDiff, Nat.reduceLT, Nat.reduceBEq, ↓reduceIte, Int.reduceLE, Int.reduceLT, Int.reduceToNat, Int.reduceNeg, reduceCtorEq, Int.reduceEq, SF0, SF1, SF2, DNb0, DCg0, DCe0, DCe1, DCe2, DDb0, DBc0, DBc1, DHb0, DHb1, DHa0, DDe0, DAlh0]
  refine acall_one V rfl rfl ?_
  simp (disch := omega) only [SX0, SX1, SX2, SX3, SX4, SX5, SX6, SX7, SX8, SU0, SY0, SY1, Nat.reduceAdd, Nat.reduceMul, Nat.reduceSub, Nat.reduceLeDiff, Nat.reduceEqDiff, Nat.reduceLT, Nat.reduceBEq, ↓reduceIte, Int.reduceLE, Int.reduceLT, Int.reduceToNat, Int.reduceNeg, reduceCtorEq, Int.reduceEq, SF0, SF1, SF2, DNb0, DCg0, DCe0, DCe1, DCe2, DDb0, DBc0, DBc1, DHb0, DHb1, DHa0, DDe0, DAlh0]
  refine br_dec (fun h0 => ?_) (fun h0 => ?_)
  · have e : boundV l = 0 := by unfold boundV; exact if_pos (List.length_eq_zero_iff.1 (by omega))
    simp (disch := omega) only [SX0, SX1, SX2, SX3, SX4, SX5, SX6, SX7, SX8, SU0, SY0, SY1, Nat.reduceAdd, Nat.reduceMul, Nat.reduceSub, Nat.reduceLeDiff, Nat.reduceEqDiff, Nat.reduceLT, Nat.reduceBEq, ↓reduceIte, Int.reduceLE, Int.reduceLT, Int.reduceToNat, Int.reduceNeg, reduceCtorEq, Int.reduceEq, SF0, SF1, SF2, DNb0, DCg0, DCe0, DCe1, DCe2, DDb0, DBc0, DBc1, DHb0, DHb1, DHa0, DDe0, DAlh0, e]
    exact fin_val ⟨rfl, rfl⟩
  have e : boundV l = max (sumC l + minH l) (sumH l + minC l) := by unfold boundV; exact if_neg fun h => h0 (by rw [h]; rfl)
  simp (disch := omega) only [SX0, SX1, SX2, SX3, SX4, SX5, SX6, SX7, SX8, SU0, SY0, SY1, Nat.reduceAdd, Nat.reduceMul, Nat.reduceSub, Nat.reduceLeDiff, Nat.reduceEqDiff, Nat.reduceLT, Nat.reduceBEq, ↓reduceIte, Int.reduceLE, Int.reduceLT, Int.reduceToNat, Int.reduceNeg, reduceCtorEq, Int.reduceEq, SF0, SF1, SF2, DNb0, DCg0, DCe0, DCe1, DCe2, DDb0, DBc0, DBc1, DHb0, DHb1, DHa0, DDe0, DAlh0, e]
  with_reducible refine awp_loop_h (G := Nat) 3 42 (fun i => [(3, .val (.int .i64 (sumC (l.take i)))), (4, .val (.int .i64 (sumH (l.take i)))), (5, .val (.int .i64 (minC (l.take i)))), (6, .val (.int .i64 (minH (l.take i)))), (15, .sl (l.map Job.cs)), (16, .val (.int .i64 l.length)), (17, .val (.int .i64 i))]) (fun _ => []) (fun i => i ≤ l.length) (fun i => l.length - i) 0 (Nat.zero_le _) ?_ (fun i hi => ?_)
  · simp (disch := omega) only [SX0, SX1, SX2, SX3, SX4, SX5, SX6, SX7, SX8, SU0, SY0, SY1, Nat.reduceAdd, Nat.reduceMul, Nat.reduceSub, Nat.reduceLeDiff, Nat.reduceEqDiff, Nat.reduceLT, Nat.reduceBEq, ↓reduceIte, Int.reduceLE, Int.reduceLT, Int.reduceToNat, Int.reduceNeg, reduceCtorEq, Int.reduceEq, SF0, SF1, SF2, DNb0, DCg0, DCe0, DCe1, DCe2, DDb0, DBc0, DBc1, DHb0, DHb1, DHa0, DDe0, DAlh0]
    (refine wk_le ?_ ?_ ?_; (focus (simp [W8, leTm, leAV, AV.under, underL, sumC, sumH, minC, minH]; done)); (focus (simp [leL, OB.under, underL, AV.under, sumC, sumH, minC, minH]; done)); (focus (simp; done)))
  have hs := sums_bd (js := l.take i) fun j hj' => hj.2 j (List.mem_of_mem_take hj')
  have hm := mins_bd (js := l.take i) fun j hj' => hj.2 j (List.mem_of_mem_take hj')
  have hti : (l.take i).length ≤ 16 := by rw [List.length_take]; omega
  refine sx_sound (bl := []) T_tt _ _ _ ?_
  simp (disch := omega) only [SX0, SX1, SX2, SX3, SX4, SX5, SX6, SX7, SX8, SU0, SY0, SY1, Nat.reduceAdd, Nat.reduceMul, Nat.reduceSub, Nat.reduceLeDiff, Nat.reduceEqDiff, Nat.reduceLT, Nat.reduceBEq, ↓reduceIte, Int.reduceLE, Int.reduceLT, Int.reduceToNat, Int.reduceNeg, reduceCtorEq, Int.reduceEq, SF0, SF1, SF2, DNb0, DCg0, DCe0, DCe1, DCe2, DDb0, DBc0, DBc1, DHb0, DHb1, DHa0, DDe0, DAlh0]
  refine br_dec (fun h2 => ?_) (fun h2 => ?_)
  · obtain ⟨q, hq⟩ := get_lt (l := l) (i := i) (by omega)
    have hqo := hj.2 q (List.mem_of_getElem? hq)
    unfold Job.ok at hqo
    have n1 := sumC_next hq
    have n2 := sumH_next hq
    have n3 := minC_next hq
    have n4 := minH_next hq
    simp (disch := omega) only [SX0, SX1, SX2, SX3, SX4, SX5, SX6, SX7, SX8, SU0, SY0, SY1, Nat.reduceAdd, Nat.reduceMul, Nat.reduceSub, Nat.reduceLeDiff, Nat.reduceEqDiff, Nat.reduceLT, Nat.reduceBEq, ↓reduceIte, Int.reduceLE, Int.reduceLT, Int.reduceToNat, Int.reduceNeg, reduceCtorEq, Int.reduceEq, SF0, SF1, SF2, DNb0, DCg0, DCe0, DCe1, DCe2, DDb0, DBc0, DBc1, DHb0, DHb1, DHa0, DDe0, DAlh0, hq]
    refine ⟨i + 1, by omega, by omega, ?_⟩
    (refine wk_le ?_ ?_ ?_; (focus (simp [W8, leTm, leAV, AV.under, underL, n1, n2, n3, n4]; done)); (focus (simp [leL, OB.under, underL, AV.under, n1, n2, n3, n4]; done)); (focus (simp; done)))
  · have hil : i = l.length := by omega
    subst hil
    rw [List.take_length] at hs hm ⊢
    simp (disch := omega) only [SX0, SX1, SX2, SX3, SX4, SX5, SX6, SX7, SX8, SU0, SY0, SY1, Nat.reduceAdd, Nat.reduceMul, Nat.reduceSub, Nat.reduceLeDiff, Nat.reduceEqDiff, Nat.reduceLT, Nat.reduceBEq, ↓reduceIte, Int.reduceLE, Int.reduceLT, Int.reduceToNat, Int.reduceNeg, reduceCtorEq, Int.reduceEq, SF0, SF1, SF2, DNb0, DCg0, DCe0, DCe1, DCe2, DDb0, DBc0, DBc1, DHb0, DHb1, DHa0, DDe0, DAlh0]
    exact fin_val ⟨rfl, rfl⟩

end Go.Pc
