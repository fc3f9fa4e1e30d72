/- Orders, stocks and shops. -/
import Derived.Test.YtliephdcfkiapaaPa
import Derived.Test.YtliephdcfkiapaaCg
set_option linter.unusedSimpArgs false
set_option linter.unusedVariables false
namespace Go.Pc
open Go Go.Proofs

/-- A line of an order. -/
structure Line where
  P : Pane
  N : Int
def Line.cs (q : Line) : List AV := [.val (.int .i64 q.P.W), .val (.int .i64 q.P.H), .val (.bool q.P.Tu), .val (.int .i64 q.P.Ki), .val (.int .i64 q.N)]
theorem Line.len (q : Line) : q.cs.length = 5 := rfl
theorem Line.take (q : Line) : q.cs.take 5 = q.cs := rfl
theorem Line.take4 (q : Line) : q.cs.take 4 = q.P.cs := rfl
theorem Line.drop4 (q : Line) : q.cs.drop 4 = [.val (.int .i64 q.N)] := rfl
theorem Line.drop1 (q : Line) : q.cs.drop 1 = [.val (.int .i64 q.P.H), .val (.bool q.P.Tu), .val (.int .i64 q.P.Ki), .val (.int .i64 q.N)] := rfl
theorem Line.g0 (q : Line) : q.cs[0]? = some (.val (.int .i64 q.P.W)) := rfl
theorem Line.g1 (q : Line) : q.cs[1]? = some (.val (.int .i64 q.P.H)) := rfl
theorem Line.g4 (q : Line) : q.cs[4]? = some (.val (.int .i64 q.N)) := rfl
theorem Line.one (q : Line) : q.cs.all AV.one = true := rfl
theorem Line.pure (q : Line) : q.cs.all AV.pure = true := rfl
theorem Line.free (q : Line) : freeL q.cs = true := rfl
theorem Line.under (q : Line) (m : Nat) : underL m q.cs = true := rfl
theorem Line.filtd (f : Nat → Bool) (p : Line) : filtL f p.cs = p.cs := (free_filt_aux f).2 _ p.free
theorem Line.rend (f : Nat → Nat) (p : Line) : renL f p.cs = p.cs := freeL_rend f p.free
theorem DPs0 : type_of% @Line.len ∧ type_of% @Line.take ∧ type_of% @Line.take4 ∧ type_of% @Line.drop4 ∧ type_of% @Line.drop1 ∧ type_of% @Line.g0 ∧ type_of% @Line.g1 ∧ type_of% @Line.g4 ∧ type_of% @Line.one ∧ type_of% @Line.pure ∧ type_of% @Line.filtd ∧ type_of% @Line.rend := ⟨@Line.len, @Line.take, @Line.take4, @Line.drop4, @Line.drop1, @Line.g0, @Line.g1, @Line.g4, @Line.one, @Line.pure, @Line.filtd, @Line.rend⟩

deriving instance DecidableEq for Pane
theorem Pane.under (q : Pane) (m : Nat) : underL m q.cs = true := rfl
theorem Pane.eq_c (a b : Pane) : eqA [.int, .int, .bool, .int] a.cs b.cs = some (decide (a = b)) := by
  cases a; cases b
  simp only [Pane.cs, eqA, Option.map_some, Pane.mk.injEq, Bool.and_true]
  congr 1
  simp only [Bool.decide_and, Bool.and_assoc]

def areaO (l : List Line) : Int := (l.map fun q => q.N * q.P.W * q.P.H).sum
def countO (l : List Line) : Int := (l.map Line.N).sum
def newP (l : List Line) : Prop := l.Pairwise fun a c => a.P ≠ c.P
instance (l : List Line) : Decidable (newP l) := inferInstanceAs (Decidable (List.Pairwise _ _))
def orderOk (l : List Line) : Prop := (l.length ≤ 8 ∧ countO l ≤ 24) ∧ (∀ q ∈ l, q.P.ok ∧ 1 ≤ q.N) ∧ newP l
instance (l : List Line) : Decidable (orderOk l) := inferInstanceAs (Decidable (_ ∧ _))

theorem countO_next {l : List Line} {i : Nat} {q : Line} (h : l[i]? = some q) : countO (l.take (i + 1)) = countO (l.take i) + q.N := by
  unfold countO; rw [List.take_add_one, h]; simp
theorem countO_le {l : List Line} (h : ∀ q ∈ l, 1 ≤ q.N) : (l.length : Int) ≤ countO l := by
  induction l with
  | nil => simp [countO]
  | cons q l ih =>
    have h1 := h q (by simp)
    have h2 := ih fun x hx => h x (by simp [hx])
    unfold countO at *
    simp only [List.map_cons, List.sum_cons, List.length_cons]
    omega
theorem countO_split {l : List Line} (i : Nat) : countO l = countO (l.take i) + countO (l.drop i) := by
  unfold countO
  rw [← List.sum_append_int, ← List.map_append, List.take_append_drop]
theorem countO_take {l : List Line} (h : ∀ q ∈ l, 1 ≤ q.N) (i : Nat) : countO (l.take i) ≤ countO l := by
  have h1 := countO_split (l := l) i
  have h2 := countO_le (l := l.drop i) fun q hq => h q (List.mem_of_mem_drop hq)
  omega
theorem newP_next {l : List Line} {i : Nat} {a : Line} (h : l[i]? = some a) (h1 : newP (l.take i)) (h2 : ∀ c ∈ l.take i, c.P ≠ a.P) : newP (l.take (i + 1)) := by
  unfold newP
  rw [List.take_add_one, h]
  exact List.pairwise_append.2 ⟨h1, by simp, fun c hc b hb => by simp at hb; subst hb; exact h2 c hc⟩
theorem newP_at {l : List Line} {i : Nat} {a : Line} (h : l[i]? = some a) (h1 : newP l) : ∀ c ∈ l.take i, c.P ≠ a.P := fun c hc => by
  have h2 : newP (l.take (i + 1)) := List.Pairwise.sublist (List.take_sublist _ _) h1
  unfold newP at h2
  rw [List.take_add_one, h] at h2
  exact (List.pairwise_append.1 h2).2.2 c hc a (by simp)

theorem e_findLine1 : Enters Try.prog 158 := enters_of Try.func158 (by kernel_rfl) (by kernel_rfl)
theorem findLine1_c (q : Line) (p : Pane) : ACalls Try.prog 158 [.agg q.cs, .ptr 0 0] [.cells p.cs] [0] (fun r L => r = .val (.bool (decide (q.P = p))) ∧ L = [.cells p.cs]) := by
  refine acalls_tm T_tt Try.func158 rfl e_findLine1 6 rfl (W8 _ _ .any .any .any .any .any .any []) rfl (rv := [.tmp 3]) rfl (sx_sound (bl := []) T_tt _ _ _ ?_)
  simp (disch := omega) only [SX0, SX1, SX2, SX3, SX4, SX5, SX6, SX7, SX8, SU0, SY0, SY1, Nat.reduceAdd, Nat.reduceMul, Nat.reduceSub, Nat.reduceLeDiff, Nat.reduceEqDiff, Nat.reduceLT, Nat.reduceBEq, ↓reduceIte, Int.reduceLE, Int.reduceLT, Int.reduceToNat, Int.reduceNeg, reduceCtorEq, Int.reduceEq, SF0, SF1, SF2, DPa0, DHb0, DHb1, DHa0, DCg0, DCe0, DCa0, DCa1, DDb0, DBc0, DBa0, DPs0, Pane.eq_c]
  exact fin_zero (.val (.bool (decide (q.P = p)))) (.cells p.cs) ⟨rfl, rfl⟩ rfl rfl (by simp) (by simp)

theorem e_indexLine : Enters Try.prog 157 := enters_of Try.func157 (by kernel_rfl) (by kernel_rfl)
theorem indexLine_c (f : FuncId) (g : Line → Bool) (p : Pane) (ks : List Line) (hl : ks.length < 2 ^ 40) (h : ∀ q ∈ ks, ACalls Try.prog f [.agg q.cs, .ptr 0 0] [.cells p.cs] [0] (fun r L => r = .val (.bool (g q)) ∧ L = [.cells p.cs])) :
    ACalls Try.prog 157 [.sl (ks.map Line.cs), .fn f [.ptr 0 0]] [.cells p.cs] [0] (fun r L => r = .val (.int .i64 (ixOf g ks)) ∧ L = [.cells p.cs]) := by
  refine acalls_tm T_tt Try.func157 rfl e_indexLine 17 rfl (W8 _ _ .any .any .any .any .any .any (W8 .any .any .any .any .any .any .any .any [.any, .any, .any])) rfl (rv := [.tmp 4]) rfl (sx_sound (bl := []) T_tt _ _ _ ?_)
  simp (disch := omega) only [SX0, SX1, SX2, SX3, SX4, SX5, SX6, SX7, SX8, SU0, SY0, SY1, Nat.reduceAdd, Nat.reduceMul, Nat.reduceSub, Nat.reduceLeDiff, Nat.reduceEqDiff, Nat.reduceLT, Nat.reduceBEq, ↓reduceIte, Int.reduceLE, Int.reduceLT, Int.reduceToNat, Int.reduceNeg, reduceCtorEq, Int.reduceEq, SF0, SF1, SF2, DPa0, DHb0, DHb1, DHa0, DCg0, DCe0, DCa0, DCa1, DDb0, DBc0, DBa0, DPs0]
  with_reducible refine awp_loop_h 4 15 (fun (i : Nat) => [(7, .val (.int .i64 ks.length)), (8, .val (.int .i64 i))]) (fun _ => [.cells p.cs]) (fun i => i ≤ ks.length ∧ ∀ p ∈ ks.take i, g p = false) (fun i => ks.length - i) 0 ⟨Nat.zero_le _, by simp⟩ ?_ (fun i hi => sx_sound (bl := []) T_tt _ _ _ ?_)
  · simp (disch := omega) only [SX0, SX1, SX2, SX3, SX4, SX5, SX6, SX7, SX8, SU0, SY0, SY1, Nat.reduceAdd, Nat.reduceMul, Nat.reduceSub, Nat.reduceLeDiff, Nat.reduceEqDiff, Nat.reduceLT, Nat.reduceBEq, ↓reduceIte, Int.reduceLE, Int.reduceLT, Int.reduceToNat, Int.reduceNeg, reduceCtorEq, Int.reduceEq, SF0, SF1, SF2, DPa0, DHb0, DHb1, DHa0, DCg0, DCe0, DCa0, DCa1, DDb0, DBc0, DBa0, DPs0]
    (refine wk_le ?_ ?_ ?_; (focus (simp [W8, leTm, leAV, AV.under, underL, Pane.under]; done)); (focus (simp [leL, OB.under, underL, AV.under, Pane.under]; done)); (focus (simp; done)))
  · simp (disch := omega) only [SX0, SX1, SX2, SX3, SX4, SX5, SX6, SX7, SX8, SU0, SY0, SY1, Nat.reduceAdd, Nat.reduceMul, Nat.reduceSub, Nat.reduceLeDiff, Nat.reduceEqDiff, Nat.reduceLT, Nat.reduceBEq, ↓reduceIte, Int.reduceLE, Int.reduceLT, Int.reduceToNat, Int.reduceNeg, reduceCtorEq, Int.reduceEq, SF0, SF1, SF2, DPa0, DHb0, DHb1, DHa0, DCg0, DCe0, DCa0, DCa1, DDb0, DBc0, DBa0, DPs0]
    refine br_dec (fun h1 => ?_) (fun h1 => ?_)
    · obtain ⟨q, hq⟩ := get_lt (l := ks) (i := i) (by omega)
      simp (disch := omega) only [SX0, SX1, SX2, SX3, SX4, SX5, SX6, SX7, SX8, SU0, SY0, SY1, Nat.reduceAdd, Nat.reduceMul, Nat.reduceSub, Nat.reduceLeDiff, Nat.reduceEqDiff, Nat.reduceLT, Nat.reduceBEq, ↓reduceIte, Int.reduceLE, Int.reduceLT, Int.reduceToNat, Int.reduceNeg, reduceCtorEq, Int.reduceEq, SF0, SF1, SF2, DPa0, DHb0, DHb1, DHa0, DCg0, DCe0, DCa0, DCa1, DDb0, DBc0, DBa0, DPs0, hq]
      refine acall_cl (h q (List.mem_of_getElem? hq)) [0] [] (by simp only [SX0, SX1, SX2, SX3, SX4, SX5, SX6, SX7, SX8, SU0, SY0, SY1, Nat.reduceAdd, Nat.reduceMul, Nat.reduceSub, Nat.reduceLeDiff, Nat.reduceEqDiff, Nat.reduceLT, Nat.reduceBEq, ↓reduceIte, Int.reduceLE, Int.reduceLT, Int.reduceToNat, Int.reduceNeg, reduceCtorEq, Int.reduceEq, SF0, SF1, SF2, DPa0, DHb0, DHb1, DHa0, DCg0, DCe0, DCa0, DCa1, DDb0, DBc0, DBa0, DPs0, SX0]) (by decide) (by decide) (by rfl) (by simp only [SX0, SX1, SX2, SX3, SX4, SX5, SX6, SX7, SX8, SU0, SY0, SY1, Nat.reduceAdd, Nat.reduceMul, Nat.reduceSub, Nat.reduceLeDiff, Nat.reduceEqDiff, Nat.reduceLT, Nat.reduceBEq, ↓reduceIte, Int.reduceLE, Int.reduceLT, Int.reduceToNat, Int.reduceNeg, reduceCtorEq, Int.reduceEq, SF0, SF1, SF2, DPa0, DHb0, DHb1, DHa0, DCg0, DCe0, DCa0, DCa1, DDb0, DBc0, DBa0, DPs0, SX0]) ?_
      rintro _ _ ⟨rfl, rfl⟩
      simp (disch := omega) only [SX0, SX1, SX2, SX3, SX4, SX5, SX6, SX7, SX8, SU0, SY0, SY1, Nat.reduceAdd, Nat.reduceMul, Nat.reduceSub, Nat.reduceLeDiff, Nat.reduceEqDiff, Nat.reduceLT, Nat.reduceBEq, ↓reduceIte, Int.reduceLE, Int.reduceLT, Int.reduceToNat, Int.reduceNeg, reduceCtorEq, Int.reduceEq, SF0, SF1, SF2, DPa0, DHb0, DHb1, DHa0, DCg0, DCe0, DCa0, DCa1, DDb0, DBc0, DBa0, DPs0]
      refine br_bool (fun h2 => ?_) (fun h2 => ?_)
      · simp (disch := omega) only [SX0, SX1, SX2, SX3, SX4, SX5, SX6, SX7, SX8, SU0, SY0, SY1, Nat.reduceAdd, Nat.reduceMul, Nat.reduceSub, Nat.reduceLeDiff, Nat.reduceEqDiff, Nat.reduceLT, Nat.reduceBEq, ↓reduceIte, Int.reduceLE, Int.reduceLT, Int.reduceToNat, Int.reduceNeg, reduceCtorEq, Int.reduceEq, SF0, SF1, SF2, DPa0, DHb0, DHb1, DHa0, DCg0, DCe0, DCa0, DCa1, DDb0, DBc0, DBa0, DPs0]
        exact fin_zero (.val (.int .i64 (ixOf g ks))) (.cells p.cs) ⟨rfl, rfl⟩ (by rw [ixOf_at hq hi.2 h2]; rfl) rfl (by simp) (by simp)
      · simp (disch := omega) only [SX0, SX1, SX2, SX3, SX4, SX5, SX6, SX7, SX8, SU0, SY0, SY1, Nat.reduceAdd, Nat.reduceMul, Nat.reduceSub, Nat.reduceLeDiff, Nat.reduceEqDiff, Nat.reduceLT, Nat.reduceBEq, ↓reduceIte, Int.reduceLE, Int.reduceLT, Int.reduceToNat, Int.reduceNeg, reduceCtorEq, Int.reduceEq, SF0, SF1, SF2, DPa0, DHb0, DHb1, DHa0, DCg0, DCe0, DCa0, DCa1, DDb0, DBc0, DBa0, DPs0]
        refine ⟨i + 1, ⟨by omega, take_next hq hi.2 h2⟩, by omega, ?_⟩
        (refine wk_le ?_ ?_ ?_; (focus (simp [W8, leTm, leAV, AV.under, underL, Pane.under]; done)); (focus (simp [leL, OB.under, underL, AV.under, Pane.under]; done)); (focus (simp; done)))
    · simp (disch := omega) only [SX0, SX1, SX2, SX3, SX4, SX5, SX6, SX7, SX8, SU0, SY0, SY1, Nat.reduceAdd, Nat.reduceMul, Nat.reduceSub, Nat.reduceLeDiff, Nat.reduceEqDiff, Nat.reduceLT, Nat.reduceBEq, ↓reduceIte, Int.reduceLE, Int.reduceLT, Int.reduceToNat, Int.reduceNeg, reduceCtorEq, Int.reduceEq, SF0, SF1, SF2, DPa0, DHb0, DHb1, DHa0, DCg0, DCe0, DCa0, DCa1, DDb0, DBc0, DBa0, DPs0]
      exact fin_zero (.val (.int .i64 (ixOf g ks))) (.cells p.cs) ⟨rfl, rfl⟩ (by rw [ixOf_none (take_all (by omega) hi.2)]; rfl) rfl (by simp) (by simp)

theorem e_findLine : Enters Try.prog 143 := enters_of Try.func143 (by kernel_rfl) (by kernel_rfl)
theorem findLine_c (ks : List Line) (p : Pane) (hl : ks.length < 2 ^ 40) : ACalls Try.prog 143 [.sl (ks.map Line.cs), .agg p.cs] [] [] (fun r L => r = .val (.int .i64 (ixOf (fun q : Line => decide (q.P = p)) ks)) ∧ L = []) := by
  refine acalls_tm T_tt Try.func143 rfl e_findLine 6 rfl (W8 _ _ .any .any .any .any .any .any []) rfl (rv := [.tmp 4]) rfl (sx_sound (bl := []) T_tt _ _ _ ?_)
  simp (disch := omega) only [SX0, SX1, SX2, SX3, SX4, SX5, SX6, SX7, SX8, SU0, SY0, SY1, Nat.reduceAdd, Nat.reduceMul, Nat.reduceSub, Nat.reduceLeDiff, Nat.reduceEqDiff, Nat.reduceLT, Nat.reduceBEq, ↓reduceIte, Int.reduceLE, Int.reduceLT, Int.reduceToNat, Int.reduceNeg, reduceCtorEq, Int.reduceEq, SF0, SF1, SF2, DPa0, DHb0, DHb1, DHa0, DCg0, DCe0, DCa0, DCa1, DDb0, DBc0, DBa0, DPs0]
  refine acall_own (indexLine_c _ (fun q => decide (q.P = p)) p ks hl fun q _ => findLine1_c q p) [0] [] (by simp only [SX0, SX1, SX2, SX3, SX4, SX5, SX6, SX7, SX8, SU0, SY0, SY1, Nat.reduceAdd, Nat.reduceMul, Nat.reduceSub, Nat.reduceLeDiff, Nat.reduceEqDiff, Nat.reduceLT, Nat.reduceBEq, ↓reduceIte, Int.reduceLE, Int.reduceLT, Int.reduceToNat, Int.reduceNeg, reduceCtorEq, Int.reduceEq, SF0, SF1, SF2, DPa0, DHb0, DHb1, DHa0, DCg0, DCe0, DCa0, DCa1, DDb0, DBc0, DBa0, DPs0, SX0]) (by decide) (by decide) (by rfl) (by simp only [SX0, SX1, SX2, SX3, SX4, SX5, SX6, SX7, SX8, SU0, SY0, SY1, Nat.reduceAdd, Nat.reduceMul, Nat.reduceSub, Nat.reduceLeDiff, Nat.reduceEqDiff, Nat.reduceLT, Nat.reduceBEq, ↓reduceIte, Int.reduceLE, Int.reduceLT, Int.reduceToNat, Int.reduceNeg, reduceCtorEq, Int.reduceEq, SF0, SF1, SF2, DPa0, DHb0, DHb1, DHa0, DCg0, DCe0, DCa0, DCa1, DDb0, DBc0, DBa0, DPs0, SX0]) ?_
  rintro _ _ ⟨rfl, rfl⟩
  simp (disch := omega) only [SX0, SX1, SX2, SX3, SX4, SX5, SX6, SX7, SX8, SU0, SY0, SY1, Nat.reduceAdd, Nat.reduceMul, Nat.reduceSub, Nat.reduceLeDiff, Nat.reduceEqDiff, Nat.reduceLT, Nat.reduceBEq, ↓reduceIte, Int.reduceLE, Int.reduceLT, Int.reduceToNat, Int.reduceNeg, reduceCtorEq, Int.reduceEq, SF0, SF1, SF2, DPa0, DHb0, DHb1, DHa0, DCg0, DCe0, DCa0, DCa1, DDb0, DBc0, DBa0, DPs0]
  exact fin_val ⟨rfl, rfl⟩

/-- The first line with the pane of a line is that line, exactly if no line before has it. -/
theorem ixOf_own {l : List Line} {i : Nat} {a : Line} (h : l[i]? = some a) : ixOf (fun q : Line => decide (q.P = a.P)) l = i ↔ ∀ c ∈ l.take i, c.P ≠ a.P := by
  constructor
  · intro hx c hc
    unfold ixOf at hx
    split at hx
    · rename_i j hj
      obtain ⟨hjl, h1, h2⟩ := List.findIdx?_eq_some_iff_getElem.1 hj
      have : j = i := by omega
      subst this
      obtain ⟨k, hk, rfl⟩ := List.mem_iff_getElem.1 hc
      rw [List.length_take] at hk
      have := h2 k (by omega)
      rw [List.getElem_take]
      simpa using this
    · omega
  · intro hc
    exact ixOf_at h (fun c h1 => by simpa using hc c h1) (by simp)

theorem e_validOrderI : Enters Try.prog 110 := enters_of Try.func110 (by kernel_rfl) (by kernel_rfl)
set_option maxRecDepth 8000 in
set_option maxHeartbeats 4000000 in
theorem validOrderI_c (l : List Line) (hl : l.length < 2 ^ 40) : ACalls Try.prog 110 [.sl (l.map Line.cs)] [] [] (fun r L => r = .val (.bool (decide (orderOk l))) ∧ L = []) := by
  refine acalls_tm T_tt Try.func110 rfl e_validOrderI 41 rfl (W8 _ .any .any .any .any .any .any .any (W8 .any .any .any .any .any .any .any .any (W8 .any .any .any .any .any .any .any .any (W8 .any .any .any .any .any .any .any .any (W8 .any .any .any .any .any .any .any .any [.any, .any]))))) rfl (rv := [.tmp 2]) rfl (sx_sound (bl := []) T_tt _ _ _ ?_)
  simp (disch := omega) only [SX0, SX1, SX2, SX3, SX4, SX5, SX6, SX7, SX8, SU0, SY0, SY1, Nat.reduceAdd, Nat.reduceMul, Nat.reduceSub, Nat.reduceLeDiff, Nat.reduceEqDiff, Nat.reduceLT, Nat.reduceBEq, ↓reduceIte, Int.reduceLE, Int.reduceLT, Int.reduceToNat, Int.reduceNeg, reduceCtorEq, Int.reduceEq, SF0, SF1, SF2, DPa0, DHb0, DHb1, DHa0, DCg0, DCe0, DCa0, DCa1, DDb0, DBc0, DBa0, DPs0]
  refine br_dec (fun h1 => ?_) (fun h1 => ?_)
  · simp (disch := omega) only [SX0, SX1, SX2, SX3, SX4, SX5, SX6, SX7, SX8, SU0, SY0, SY1, Nat.reduceAdd, Nat.reduceMul, Nat.reduceSub, Nat.reduceLeDiff, Nat.reduceEqDiff, Nat.reduceLT, Nat.reduceBEq, ↓reduceIte, Int.reduceLE, Int.reduceLT, Int.reduceToNat, Int.reduceNeg, reduceCtorEq, Int.reduceEq, SF0, SF1, SF2, DPa0, DHb0, DHb1, DHa0, DCg0, DCe0, DCa0, DCa1, DDb0, DBc0, DBa0, DPs0]
    exact fin_val ⟨vF fun hh => by have := hh.1.1; omega, rfl⟩
  simp (disch := omega) only [SX0, SX1, SX2, SX3, SX4, SX5, SX6, SX7, SX8, SU0, SY0, SY1, Nat.reduceAdd, Nat.reduceMul, Nat.reduceSub, Nat.reduceLeDiff, Nat.reduceEqDiff, Nat.reduceLT, Nat.reduceBEq, ↓reduceIte, Int.reduceLE, Int.reduceLT, Int.reduceToNat, Int.reduceNeg, reduceCtorEq, Int.reduceEq, SF0, SF1, SF2, DPa0, DHb0, DHb1, DHa0, DCg0, DCe0, DCa0, DCa1, DDb0, DBc0, DBa0, DPs0]
  with_reducible refine awp_loop_h 3 39 (fun (i : Nat) => [(3, .val (.int .i64 (24 - countO (l.take i)))), (9, .sl (l.map Line.cs)), (10, .val (.int .i64 l.length)), (11, .val (.int .i64 i))]) (fun _ => []) (fun i => i ≤ l.length ∧ (0 ≤ countO (l.take i) ∧ countO (l.take i) ≤ 24) ∧ (∀ q ∈ l.take i, q.P.ok ∧ 1 ≤ q.N) ∧ newP (l.take i)) (fun i => l.length - i) 0 ⟨Nat.zero_le _, by simp [countO], by simp, by simp [newP]⟩ ?_ (fun i hi => sx_sound (bl := []) T_tt _ _ _ ?_)
  · simp (disch := omega) only [SX0, SX1, SX2, SX3, SX4, SX5, SX6, SX7, SX8, SU0, SY0, SY1, Nat.reduceAdd, Nat.reduceMul, Nat.reduceSub, Nat.reduceLeDiff, Nat.reduceEqDiff, Nat.reduceLT, Nat.reduceBEq, ↓reduceIte, Int.reduceLE, Int.reduceLT, Int.reduceToNat, Int.reduceNeg, reduceCtorEq, Int.reduceEq, SF0, SF1, SF2, DPa0, DHb0, DHb1, DHa0, DCg0, DCe0, DCa0, DCa1, DDb0, DBc0, DBa0, DPs0]
    (refine wk_le ?_ ?_ ?_; (focus (simp [W8, leTm, leAV, AV.under, underL, countO]; done)); (focus (simp [leL, OB.under, underL, AV.under, countO]; done)); (focus (simp; done)))
  simp (disch := omega) only [SX0, SX1, SX2, SX3, SX4, SX5, SX6, SX7, SX8, SU0, SY0, SY1, Nat.reduceAdd, Nat.reduceMul, Nat.reduceSub, Nat.reduceLeDiff, Nat.reduceEqDiff, Nat.reduceLT, Nat.reduceBEq, ↓reduceIte, Int.reduceLE, Int.reduceLT, Int.reduceToNat, Int.reduceNeg, reduceCtorEq, Int.reduceEq, SF0, SF1, SF2, DPa0, DHb0, DHb1, DHa0, DCg0, DCe0, DCa0, DCa1, DDb0, DBc0, DBa0, DPs0]
  refine br_dec (fun h2 => ?_) (fun h2 => ?_)
  · obtain ⟨q, hq⟩ := get_lt (l := l) (i := i) (by omega)
    have hn := countO_next hq
    have hm := List.mem_of_getElem? hq
    simp (disch := omega) only [SX0, SX1, SX2, SX3, SX4, SX5, SX6, SX7, SX8, SU0, SY0, SY1, Nat.reduceAdd, Nat.reduceMul, Nat.reduceSub, Nat.reduceLeDiff, Nat.reduceEqDiff, Nat.reduceLT, Nat.reduceBEq, ↓reduceIte, Int.reduceLE, Int.reduceLT, Int.reduceToNat, Int.reduceNeg, reduceCtorEq, Int.reduceEq, SF0, SF1, SF2, DPa0, DHb0, DHb1, DHa0, DCg0, DCe0, DCa0, DCa1, DDb0, DBc0, DBa0, DPs0, hq]
    refine acall_one (validPaneI_c q.P) rfl rfl ?_
    simp (disch := omega) only [SX0, SX1, SX2, SX3, SX4, SX5, SX6, SX7, SX8, SU0, SY0, SY1, Nat.reduceAdd, Nat.reduceMul, Nat.reduceSub, Nat.reduceLeDiff, Nat.reduceEqDiff, Nat.reduceLT, Nat.reduceBEq, ↓reduceIte, Int.reduceLE, Int.reduceLT, Int.reduceToNat, Int.reduceNeg, reduceCtorEq, Int.reduceEq, SF0, SF1, SF2, DPa0, DHb0, DHb1, DHa0, DCg0, DCe0, DCa0, DCa1, DDb0, DBc0, DBa0, DPs0]
    refine br_ndec (fun h3 => ?_) (fun h3 => ?_)
    · simp (disch := omega) only [SX0, SX1, SX2, SX3, SX4, SX5, SX6, SX7, SX8, SU0, SY0, SY1, Nat.reduceAdd, Nat.reduceMul, Nat.reduceSub, Nat.reduceLeDiff, Nat.reduceEqDiff, Nat.reduceLT, Nat.reduceBEq, ↓reduceIte, Int.reduceLE, Int.reduceLT, Int.reduceToNat, Int.reduceNeg, reduceCtorEq, Int.reduceEq, SF0, SF1, SF2, DPa0, DHb0, DHb1, DHa0, DCg0, DCe0, DCa0, DCa1, DDb0, DBc0, DBa0, DPs0]
      exact fin_val ⟨vF fun hh => h3 (hh.2.1 q hm).1, rfl⟩
    simp (disch := omega) only [SX0, SX1, SX2, SX3, SX4, SX5, SX6, SX7, SX8, SU0, SY0, SY1, Nat.reduceAdd, Nat.reduceMul, Nat.reduceSub, Nat.reduceLeDiff, Nat.reduceEqDiff, Nat.reduceLT, Nat.reduceBEq, ↓reduceIte, Int.reduceLE, Int.reduceLT, Int.reduceToNat, Int.reduceNeg, reduceCtorEq, Int.reduceEq, SF0, SF1, SF2, DPa0, DHb0, DHb1, DHa0, DCg0, DCe0, DCa0, DCa1, DDb0, DBc0, DBa0, DPs0]
    refine acall_one (findLine_c l q.P hl) rfl rfl ?_
    simp (disch := omega) only [SX0, SX1, SX2, SX3, SX4, SX5, SX6, SX7, SX8, SU0, SY0, SY1, Nat.reduceAdd, Nat.reduceMul, Nat.reduceSub, Nat.reduceLeDiff, Nat.reduceEqDiff, Nat.reduceLT, Nat.reduceBEq, ↓reduceIte, Int.reduceLE, Int.reduceLT, Int.reduceToNat, Int.reduceNeg, reduceCtorEq, Int.reduceEq, SF0, SF1, SF2, DPa0, DHb0, DHb1, DHa0, DCg0, DCe0, DCa0, DCa1, DDb0, DBc0, DBa0, DPs0]
    refine br_ndec (fun h4 => ?_) (fun h4 => ?_)
    · simp (disch := omega) only [SX0, SX1, SX2, SX3, SX4, SX5, SX6, SX7, SX8, SU0, SY0, SY1, Nat.reduceAdd, Nat.reduceMul, Nat.reduceSub, Nat.reduceLeDiff, Nat.reduceEqDiff, Nat.reduceLT, Nat.reduceBEq, ↓reduceIte, Int.reduceLE, Int.reduceLT, Int.reduceToNat, Int.reduceNeg, reduceCtorEq, Int.reduceEq, SF0, SF1, SF2, DPa0, DHb0, DHb1, DHa0, DCg0, DCe0, DCa0, DCa1, DDb0, DBc0, DBa0, DPs0]
      exact fin_val ⟨vF fun hh => h4 ((ixOf_own hq).2 (newP_at hq hh.2.2)), rfl⟩
    have hnew := (ixOf_own hq).1 h4
    simp (disch := omega) only [SX0, SX1, SX2, SX3, SX4, SX5, SX6, SX7, SX8, SU0, SY0, SY1, Nat.reduceAdd, Nat.reduceMul, Nat.reduceSub, Nat.reduceLeDiff, Nat.reduceEqDiff, Nat.reduceLT, Nat.reduceBEq, ↓reduceIte, Int.reduceLE, Int.reduceLT, Int.reduceToNat, Int.reduceNeg, reduceCtorEq, Int.reduceEq, SF0, SF1, SF2, DPa0, DHb0, DHb1, DHa0, DCg0, DCe0, DCa0, DCa1, DDb0, DBc0, DBa0, DPs0]
    refine br_dec (fun h5 => ?_) (fun h5 => ?_)
    · simp (disch := omega) only [SX0, SX1, SX2, SX3, SX4, SX5, SX6, SX7, SX8, SU0, SY0, SY1, Nat.reduceAdd, Nat.reduceMul, Nat.reduceSub, Nat.reduceLeDiff, Nat.reduceEqDiff, Nat.reduceLT, Nat.reduceBEq, ↓reduceIte, Int.reduceLE, Int.reduceLT, Int.reduceToNat, Int.reduceNeg, reduceCtorEq, Int.reduceEq, SF0, SF1, SF2, DPa0, DHb0, DHb1, DHa0, DCg0, DCe0, DCa0, DCa1, DDb0, DBc0, DBa0, DPs0]
      exact fin_val ⟨vF fun hh => by have := (hh.2.1 q hm).2; omega, rfl⟩
    simp (disch := omega) only [SX0, SX1, SX2, SX3, SX4, SX5, SX6, SX7, SX8, SU0, SY0, SY1, Nat.reduceAdd, Nat.reduceMul, Nat.reduceSub, Nat.reduceLeDiff, Nat.reduceEqDiff, Nat.reduceLT, Nat.reduceBEq, ↓reduceIte, Int.reduceLE, Int.reduceLT, Int.reduceToNat, Int.reduceNeg, reduceCtorEq, Int.reduceEq, SF0, SF1, SF2, DPa0, DHb0, DHb1, DHa0, DCg0, DCe0, DCa0, DCa1, DDb0, DBc0, DBa0, DPs0]
    refine br_dec (fun h6 => ?_) (fun h6 => ?_)
    · simp (disch := omega) only [SX0, SX1, SX2, SX3, SX4, SX5, SX6, SX7, SX8, SU0, SY0, SY1, Nat.reduceAdd, Nat.reduceMul, Nat.reduceSub, Nat.reduceLeDiff, Nat.reduceEqDiff, Nat.reduceLT, Nat.reduceBEq, ↓reduceIte, Int.reduceLE, Int.reduceLT, Int.reduceToNat, Int.reduceNeg, reduceCtorEq, Int.reduceEq, SF0, SF1, SF2, DPa0, DHb0, DHb1, DHa0, DCg0, DCe0, DCa0, DCa1, DDb0, DBc0, DBa0, DPs0]
      exact fin_val ⟨vF fun hh => by
        have := countO_take (fun q hq => (hh.2.1 q hq).2) (i + 1)
        have := hh.1.2
        omega, rfl⟩
    · simp (disch := omega) only [SX0, SX1, SX2, SX3, SX4, SX5, SX6, SX7, SX8, SU0, SY0, SY1, Nat.reduceAdd, Nat.reduceMul, Nat.reduceSub, Nat.reduceLeDiff, Nat.reduceEqDiff, Nat.reduceLT, Nat.reduceBEq, ↓reduceIte, Int.reduceLE, Int.reduceLT, Int.reduceToNat, Int.reduceNeg, reduceCtorEq, Int.reduceEq, SF0, SF1, SF2, DPa0, DHb0, DHb1, DHa0, DCg0, DCe0, DCa0, DCa1, DDb0, DBc0, DBa0, DPs0]
      have e : 24 - countO (l.take i) - q.N = 24 - countO (l.take (i + 1)) := by omega
      rw [e]
      refine ⟨i + 1, ⟨by omega, by omega, take_next hq hi.2.2.1 ⟨h3, by omega⟩, newP_next hq hi.2.2.2 hnew⟩, by omega, ?_⟩
      (refine wk_le ?_ ?_ ?_; (focus (simp [W8, leTm, leAV, AV.under, underL]; done)); (focus (simp [leL, OB.under, underL, AV.under]; done)); (focus (simp; done)))
  · simp (disch := omega) only [SX0, SX1, SX2, SX3, SX4, SX5, SX6, SX7, SX8, SU0, SY0, SY1, Nat.reduceAdd, Nat.reduceMul, Nat.reduceSub, Nat.reduceLeDiff, Nat.reduceEqDiff, Nat.reduceLT, Nat.reduceBEq, ↓reduceIte, Int.reduceLE, Int.reduceLT, Int.reduceToNat, Int.reduceNeg, reduceCtorEq, Int.reduceEq, SF0, SF1, SF2, DPa0, DHb0, DHb1, DHa0, DCg0, DCe0, DCa0, DCa1, DDb0, DBc0, DBa0, DPs0]
    have e : l.take i = l := List.take_of_length_le (by omega)
    rw [e] at hi
    exact fin_val ⟨vT ⟨⟨by omega, hi.2.1.2⟩, hi.2.2.1, hi.2.2.2⟩, rfl⟩

theorem areaO_next {l : List Line} {i : Nat} {q : Line} (h : l[i]? = some q) : areaO (l.take (i + 1)) = areaO (l.take i) + q.N * q.P.W * q.P.H := by
  unfold areaO; rw [List.take_add_one, h]; simp
theorem lineArea_le {q : Line} (h : q.P.ok ∧ 1 ≤ q.N) (hn : q.N ≤ 24) : (0 ≤ q.N * q.P.W ∧ q.N * q.P.W ≤ 4800) ∧ 0 ≤ q.N * q.P.W * q.P.H ∧ q.N * q.P.W * q.P.H ≤ 40000 * q.N := by
  obtain ⟨⟨hw, hh, _⟩, h1⟩ := h
  have a1 : q.N * q.P.W ≤ q.N * 200 := Int.mul_le_mul_of_nonneg_left hw.2 (by omega)
  have a2 : 0 ≤ q.N * q.P.W := Int.mul_nonneg (by omega) (by omega)
  have a3 : q.N * q.P.W * q.P.H ≤ q.N * q.P.W * 200 := Int.mul_le_mul_of_nonneg_left hh.2 a2
  have a4 : 0 ≤ q.N * q.P.W * q.P.H := Int.mul_nonneg a2 (by omega)
  omega
theorem countO_one {l : List Line} (h : ∀ q ∈ l, 1 ≤ q.N) {i : Nat} {q : Line} (hq : l[i]? = some q) : q.N ≤ countO l := by
  have h1 := countO_take h (i + 1)
  rw [countO_next hq] at h1
  have h2 := countO_le (l := l.take i) fun x hx => h x (List.mem_of_mem_take hx)
  omega
theorem areaO_take {l : List Line} (h : orderOk l) (i : Nat) : 0 ≤ areaO (l.take i) ∧ areaO (l.take i) ≤ 40000 * countO (l.take i) := by
  induction i with
  | zero => simp [areaO, countO]
  | succ i ih =>
    cases hq : l[i]? with
    | none => rw [List.take_add_one, hq]; simpa using ih
    | some q =>
      have h1 := h.2.1 q (List.mem_of_getElem? hq)
      have h2 := countO_one (fun q hq => (h.2.1 q hq).2) hq
      have := lineArea_le h1 (by have := h.1.2; omega)
      rw [areaO_next hq, countO_next hq]
      omega
theorem areaO_le {l : List Line} (h : orderOk l) (i : Nat) : 0 ≤ areaO (l.take i) ∧ areaO (l.take i) ≤ 960000 := by
  have h1 := areaO_take h i
  have h2 := countO_take (fun q hq => (h.2.1 q hq).2) i
  have := h.1.2
  omega
theorem areaO_all {l : List Line} (h : orderOk l) : 0 ≤ areaO l ∧ areaO l ≤ 960000 := by
  have := areaO_le h l.length
  rwa [List.take_length] at this

theorem e_orderAreaI : Enters Try.prog 112 := enters_of Try.func112 (by kernel_rfl) (by kernel_rfl)
set_option maxHeartbeats 1000000 in
theorem orderAreaI_c (l : List Line) (hl : l.length < 2 ^ 40) (ho : orderOk l) : ACalls Try.prog 112 [.sl (l.map Line.cs)] [] [] (fun r L => r = .val (.int .i64 (areaO l)) ∧ L = []) := by
  refine acalls_tm T_tt Try.func112 rfl e_orderAreaI 28 rfl (W8 _ .any .any .any .any .any .any .any (W8 .any .any .any .any .any .any .any .any (W8 .any .any .any .any .any .any .any .any [.any, .any, .any, .any, .any]))) rfl (rv := [.tmp 2]) rfl (sx_sound (bl := []) T_tt _ _ _ ?_)
  simp (disch := omega) only [SX0, SX1, SX2, SX3, SX4, SX5, SX6, SX7, SX8, SU0, SY0, SY1, Nat.reduceAdd, Nat.reduceMul, Nat.reduceSub, Nat.reduceLeDiff, Nat.reduceEqDiff, Nat.reduceLT, Nat.reduceBEq, ↓reduceIte, Int.reduceLE, Int.reduceLT, Int.reduceToNat, Int.reduceNeg, reduceCtorEq, Int.reduceEq, SF0, SF1, SF2, DPa0, DHb0, DHb1, DHa0, DCg0, DCe0, DCa0, DCa1, DDb0, DBc0, DBa0, DPs0]
  refine acall_one (validOrderI_c l hl) rfl rfl ?_
  simp (disch := omega) only [SX0, SX1, SX2, SX3, SX4, SX5, SX6, SX7, SX8, SU0, SY0, SY1, Nat.reduceAdd, Nat.reduceMul, Nat.reduceSub, Nat.reduceLeDiff, Nat.reduceEqDiff, Nat.reduceLT, Nat.reduceBEq, ↓reduceIte, Int.reduceLE, Int.reduceLT, Int.reduceToNat, Int.reduceNeg, reduceCtorEq, Int.reduceEq, SF0, SF1, SF2, DPa0, DHb0, DHb1, DHa0, DCg0, DCe0, DCa0, DCa1, DDb0, DBc0, DBa0, DPs0]
  refine br_ndec (fun h1 => ?_) (fun h1 => ?_)
  · exact absurd ho h1
  simp (disch := omega) only [SX0, SX1, SX2, SX3, SX4, SX5, SX6, SX7, SX8, SU0, SY0, SY1, Nat.reduceAdd, Nat.reduceMul, Nat.reduceSub, Nat.reduceLeDiff, Nat.reduceEqDiff, Nat.reduceLT, Nat.reduceBEq, ↓reduceIte, Int.reduceLE, Int.reduceLT, Int.reduceToNat, Int.reduceNeg, reduceCtorEq, Int.reduceEq, SF0, SF1, SF2, DPa0, DHb0, DHb1, DHa0, DCg0, DCe0, DCa0, DCa1, DDb0, DBc0, DBa0, DPs0]
  with_reducible refine awp_loop_h 3 26 (fun (i : Nat) => [(3, .val (.int .i64 (areaO (l.take i)))), (9, .sl (l.map Line.cs)), (10, .val (.int .i64 l.length)), (11, .val (.int .i64 i))]) (fun _ => []) (fun i => i ≤ l.length) (fun i => l.length - i) 0 (Nat.zero_le _) ?_ (fun i hi => sx_sound (bl := []) T_tt _ _ _ ?_)
  · simp (disch := omega) only [SX0, SX1, SX2, SX3, SX4, SX5, SX6, SX7, SX8, SU0, SY0, SY1, Nat.reduceAdd, Nat.reduceMul, Nat.reduceSub, Nat.reduceLeDiff, Nat.reduceEqDiff, Nat.reduceLT, Nat.reduceBEq, ↓reduceIte, Int.reduceLE, Int.reduceLT, Int.reduceToNat, Int.reduceNeg, reduceCtorEq, Int.reduceEq, SF0, SF1, SF2, DPa0, DHb0, DHb1, DHa0, DCg0, DCe0, DCa0, DCa1, DDb0, DBc0, DBa0, DPs0]
    (refine wk_le ?_ ?_ ?_; (focus (simp [W8, leTm, leAV, AV.under, underL, areaO]; done)); (focus (simp [leL, OB.under, underL, AV.under, areaO]; done)); (focus (simp; done)))
  simp (disch := omega) only [SX0, SX1, SX2, SX3, SX4, SX5, SX6, SX7, SX8, SU0, SY0, SY1, Nat.reduceAdd, Nat.reduceMul, Nat.reduceSub, Nat.reduceLeDiff, Nat.reduceEqDiff, Nat.reduceLT, Nat.reduceBEq, ↓reduceIte, Int.reduceLE, Int.reduceLT, Int.reduceToNat, Int.reduceNeg, reduceCtorEq, Int.reduceEq, SF0, SF1, SF2, DPa0, DHb0, DHb1, DHa0, DCg0, DCe0, DCa0, DCa1, DDb0, DBc0, DBa0, DPs0]
  refine br_dec (fun h2 => ?_) (fun h2 => ?_)
  · obtain ⟨q, hq⟩ := get_lt (l := l) (i := i) (by omega)
    have hn := areaO_next hq
    have hb := areaO_le ho i
    have h24 : q.N ≤ 24 := by have := countO_one (fun q hq => (ho.2.1 q hq).2) hq; have := ho.1.2; omega
    have hq1 := lineArea_le (ho.2.1 q (List.mem_of_getElem? hq)) h24
    have hq2 := ho.2.1 q (List.mem_of_getElem? hq)
    simp (disch := omega) only [SX0, SX1, SX2, SX3, SX4, SX5, SX6, SX7, SX8, SU0, SY0, SY1, Nat.reduceAdd, Nat.reduceMul, Nat.reduceSub, Nat.reduceLeDiff, Nat.reduceEqDiff, Nat.reduceLT, Nat.reduceBEq, ↓reduceIte, Int.reduceLE, Int.reduceLT, Int.reduceToNat, Int.reduceNeg, reduceCtorEq, Int.reduceEq, SF0, SF1, SF2, DPa0, DHb0, DHb1, DHa0, DCg0, DCe0, DCa0, DCa1, DDb0, DBc0, DBa0, DPs0, hq]
    rw [← hn]
    refine ⟨i + 1, by omega, by omega, ?_⟩
    (refine wk_le ?_ ?_ ?_; (focus (simp [W8, leTm, leAV, AV.under, underL]; done)); (focus (simp [leL, OB.under, underL, AV.under]; done)); (focus (simp; done)))
  · simp (disch := omega) only [SX0, SX1, SX2, SX3, SX4, SX5, SX6, SX7, SX8, SU0, SY0, SY1, Nat.reduceAdd, Nat.reduceMul, Nat.reduceSub, Nat.reduceLeDiff, Nat.reduceEqDiff, Nat.reduceLT, Nat.reduceBEq, ↓reduceIte, Int.reduceLE, Int.reduceLT, Int.reduceToNat, Int.reduceNeg, reduceCtorEq, Int.reduceEq, SF0, SF1, SF2, DPa0, DHb0, DHb1, DHa0, DCg0, DCe0, DCa0, DCa1, DDb0, DBc0, DBa0, DPs0]
    rw [List.take_of_length_le (by omega)]
    exact fin_val ⟨rfl, rfl⟩

theorem e_orderAreaS : Enters Try.prog 146 := enters_of Try.func146 (by kernel_rfl) (by kernel_rfl)
set_option maxHeartbeats 1000000 in
theorem orderAreaS_c (l : List Line) (ho : orderOk l) : ACalls Try.prog 146 [.sl (l.map Line.cs)] [] [] (fun r L => r = .val (.int .i64 (areaO l)) ∧ L = []) := by
  have hl := ho.1.1
  refine acalls_tm T_tt Try.func146 rfl e_orderAreaS 32 rfl (W8 _ .any .any .any .any .any .any .any (W8 .any .any .any .any .any .any .any .any (W8 .any .any .any .any .any .any .any .any (W8 .any .any .any .any .any .any .any .any [.any])))) rfl (rv := [.tmp 2]) rfl (sx_sound (bl := []) T_tt _ _ _ ?_)
  simp (disch := omega) only [SX0, SX1, SX2, SX3, SX4, SX5, SX6, SX7, SX8, SU0, SY0, SY1, Nat.reduceAdd, Nat.reduceMul, Nat.reduceSub, Nat.reduceLeDiff, Nat.reduceEqDiff, Nat.reduceLT, Nat.reduceBEq, ↓reduceIte, Int.reduceLE, Int.reduceLT, Int.reduceToNat, Int.reduceNeg, reduceCtorEq, Int.reduceEq, SF0, SF1, SF2, DPa0, DHb0, DHb1, DHa0, DCg0, DCe0, DCa0, DCa1, DDb0, DBc0, DBa0, DPs0]
  with_reducible refine awp_loop_h 3 30 (fun (i : Nat) => [(3, .val (.int .i64 (areaO (l.take i)))), (4, .val (.int .i64 i))]) (fun _ => []) (fun i => i ≤ l.length) (fun i => l.length - i) 0 (Nat.zero_le _) ?_ (fun i hi => sx_sound (bl := []) T_tt _ _ _ ?_)
  · simp (disch := omega) only [SX0, SX1, SX2, SX3, SX4, SX5, SX6, SX7, SX8, SU0, SY0, SY1, Nat.reduceAdd, Nat.reduceMul, Nat.reduceSub, Nat.reduceLeDiff, Nat.reduceEqDiff, Nat.reduceLT, Nat.reduceBEq, ↓reduceIte, Int.reduceLE, Int.reduceLT, Int.reduceToNat, Int.reduceNeg, reduceCtorEq, Int.reduceEq, SF0, SF1, SF2, DPa0, DHb0, DHb1, DHa0, DCg0, DCe0, DCa0, DCa1, DDb0, DBc0, DBa0, DPs0]
    (refine wk_le ?_ ?_ ?_; (focus (simp [W8, leTm, leAV, AV.under, underL, areaO]; done)); (focus (simp [leL, OB.under, underL, AV.under, areaO]; done)); (focus (simp; done)))
  simp (disch := omega) only [SX0, SX1, SX2, SX3, SX4, SX5, SX6, SX7, SX8, SU0, SY0, SY1, Nat.reduceAdd, Nat.reduceMul, Nat.reduceSub, Nat.reduceLeDiff, Nat.reduceEqDiff, Nat.reduceLT, Nat.reduceBEq, ↓reduceIte, Int.reduceLE, Int.reduceLT, Int.reduceToNat, Int.reduceNeg, reduceCtorEq, Int.reduceEq, SF0, SF1, SF2, DPa0, DHb0, DHb1, DHa0, DCg0, DCe0, DCa0, DCa1, DDb0, DBc0, DBa0, DPs0]
  refine br_dec (fun h2 => ?_) (fun h2 => ?_)
  · obtain ⟨q, hq⟩ := get_lt (l := l) (i := i) (by omega)
    have hn := areaO_next hq
    have hb := areaO_le ho i
    have h24 : q.N ≤ 24 := by have := countO_one (fun q hq => (ho.2.1 q hq).2) hq; have := ho.1.2; omega
    have hq1 := lineArea_le (ho.2.1 q (List.mem_of_getElem? hq)) h24
    have hq2 := ho.2.1 q (List.mem_of_getElem? hq)
    simp (disch := omega) only [SX0, SX1, SX2, SX3, SX4, SX5, SX6, SX7, SX8, SU0, SY0, SY1, Nat.reduceAdd, Nat.reduceMul, Nat.reduceSub, Nat.reduceLeDiff, Nat.reduceEqDiff, Nat.reduceLT, Nat.reduceBEq, ↓reduceIte, Int.reduceLE, Int.reduceLT, Int.reduceToNat, Int.reduceNeg, reduceCtorEq, Int.reduceEq, SF0, SF1, SF2, DPa0, DHb0, DHb1, DHa0, DCg0, DCe0, DCa0, DCa1, DDb0, DBc0, DBa0, DPs0]
    refine awp_drawA T_tt mixed (by decide +kernel) (by kernel_rfl) (by kernel_rfl) ?_
    simp (disch := omega) only [SX0, SX1, SX2, SX3, SX4, SX5, SX6, SX7, SX8, SU0, SY0, SY1, Nat.reduceAdd, Nat.reduceMul, Nat.reduceSub, Nat.reduceLeDiff, Nat.reduceEqDiff, Nat.reduceLT, Nat.reduceBEq, ↓reduceIte, Int.reduceLE, Int.reduceLT, Int.reduceToNat, Int.reduceNeg, reduceCtorEq, Int.reduceEq, SF0, SF1, SF2, DPa0, DHb0, DHb1, DHa0, DCg0, DCe0, DCa0, DCa1, DDb0, DBc0, DBa0, DPs0, hq]
    rw [← hn]
    refine ⟨i + 1, by omega, by omega, ?_⟩
    (refine wk_le ?_ ?_ ?_; (focus (simp [W8, leTm, leAV, AV.under, underL]; done)); (focus (simp [leL, OB.under, underL, AV.under]; done)); (focus (simp; done)))
  · simp (disch := omega) only [SX0, SX1, SX2, SX3, SX4, SX5, SX6, SX7, SX8, SU0, SY0, SY1, Nat.reduceAdd, Nat.reduceMul, Nat.reduceSub, Nat.reduceLeDiff, Nat.reduceEqDiff, Nat.reduceLT, Nat.reduceBEq, ↓reduceIte, Int.reduceLE, Int.reduceLT, Int.reduceToNat, Int.reduceNeg, reduceCtorEq, Int.reduceEq, SF0, SF1, SF2, DPa0, DHb0, DHb1, DHa0, DCg0, DCe0, DCa0, DCa1, DDb0, DBc0, DBa0, DPs0]
    rw [List.take_of_length_le (by omega)]
    exact fin_val ⟨rfl, rfl⟩

theorem e_validOrderS : Enters Try.prog 141 := enters_of Try.func141 (by kernel_rfl) (by kernel_rfl)
set_option maxRecDepth 8000 in
set_option maxHeartbeats 4000000 in
theorem validOrderS_c (l : List Line) (hl : l.length < 2 ^ 40) : ACalls Try.prog 141 [.sl (l.map Line.cs)] [] [] (fun r L => r = .val (.bool (decide (orderOk l))) ∧ L = []) := by
  refine acalls_tm T_tt Try.func141 rfl e_validOrderS 57 rfl (W8 _ .any .any .any .any .any .any .any (W8 .any .any .any .any .any .any .any .any (W8 .any .any .any .any .any .any .any .any (W8 .any .any .any .any .any .any .any .any (W8 .any .any .any .any .any .any .any .any (W8 .any .any .any .any .any .any .any .any (W8 .any .any .any .any .any .any .any .any [.any, .any]))))))) rfl (rv := [.tmp 2]) rfl (sx_sound (bl := []) T_tt _ _ _ ?_)
  simp (disch := omega) only [SX0, SX1, SX2, SX3, SX4, SX5, SX6, SX7, SX8, SU0, SY0, SY1, Nat.reduceAdd, Nat.reduceMul, Nat.reduceSub, Nat.reduceLeDiff, Nat.reduceEqDiff, Nat.reduceLT, Nat.reduceBEq, ↓reduceIte, Int.reduceLE, Int.reduceLT, Int.reduceToNat, Int.reduceNeg, reduceCtorEq, Int.reduceEq, SF0, SF1, SF2, DPa0, DHb0, DHb1, DHa0, DCg0, DCe0, DCa0, DCa1, DDb0, DBc0, DBa0, DPs0]
  with_reducible refine awp_loop_h 3 55 (fun (i : Nat) => [(3, .val (.int .i64 (countO (l.take i)))), (4, .val (.int .i64 i))]) (fun _ => []) (fun i => i ≤ l.length ∧ countO (l.take i) ≤ 24 * i ∧ (∀ q ∈ l.take i, q.P.ok ∧ 1 ≤ q.N) ∧ newP (l.take i)) (fun i => l.length - i) 0 ⟨Nat.zero_le _, by simp [countO], by simp, by simp [newP]⟩ ?_ (fun i hi => sx_sound (bl := []) T_tt _ _ _ ?_)
  · simp (disch := omega) only [SX0, SX1, SX2, SX3, SX4, SX5, SX6, SX7, SX8, SU0, SY0, SY1, Nat.reduceAdd, Nat.reduceMul, Nat.reduceSub, Nat.reduceLeDiff, Nat.reduceEqDiff, Nat.reduceLT, Nat.reduceBEq, ↓reduceIte, Int.reduceLE, Int.reduceLT, Int.reduceToNat, Int.reduceNeg, reduceCtorEq, Int.reduceEq, SF0, SF1, SF2, DPa0, DHb0, DHb1, DHa0, DCg0, DCe0, DCa0, DCa1, DDb0, DBc0, DBa0, DPs0]
    (refine wk_le ?_ ?_ ?_; (focus (simp [W8, leTm, leAV, AV.under, underL, countO]; done)); (focus (simp [leL, OB.under, underL, AV.under, countO]; done)); (focus (simp; done)))
  have hc0 := countO_le (l := l.take i) fun q hq => (hi.2.2.1 q hq).2
  simp (disch := omega) only [SX0, SX1, SX2, SX3, SX4, SX5, SX6, SX7, SX8, SU0, SY0, SY1, Nat.reduceAdd, Nat.reduceMul, Nat.reduceSub, Nat.reduceLeDiff, Nat.reduceEqDiff, Nat.reduceLT, Nat.reduceBEq, ↓reduceIte, Int.reduceLE, Int.reduceLT, Int.reduceToNat, Int.reduceNeg, reduceCtorEq, Int.reduceEq, SF0, SF1, SF2, DPa0, DHb0, DHb1, DHa0, DCg0, DCe0, DCa0, DCa1, DDb0, DBc0, DBa0, DPs0]
  refine br_dec (fun h2 => ?_) (fun h2 => ?_)
  · obtain ⟨q, hq⟩ := get_lt (l := l) (i := i) (by omega)
    have hn := countO_next hq
    have hm := List.mem_of_getElem? hq
    simp (disch := omega) only [SX0, SX1, SX2, SX3, SX4, SX5, SX6, SX7, SX8, SU0, SY0, SY1, Nat.reduceAdd, Nat.reduceMul, Nat.reduceSub, Nat.reduceLeDiff, Nat.reduceEqDiff, Nat.reduceLT, Nat.reduceBEq, ↓reduceIte, Int.reduceLE, Int.reduceLT, Int.reduceToNat, Int.reduceNeg, reduceCtorEq, Int.reduceEq, SF0, SF1, SF2, DPa0, DHb0, DHb1, DHa0, DCg0, DCe0, DCa0, DCa1, DDb0, DBc0, DBa0, DPs0, hq]
    refine acall_one (validPane_c q.P) rfl rfl ?_
    simp (disch := omega) only [SX0, SX1, SX2, SX3, SX4, SX5, SX6, SX7, SX8, SU0, SY0, SY1, Nat.reduceAdd, Nat.reduceMul, Nat.reduceSub, Nat.reduceLeDiff, Nat.reduceEqDiff, Nat.reduceLT, Nat.reduceBEq, ↓reduceIte, Int.reduceLE, Int.reduceLT, Int.reduceToNat, Int.reduceNeg, reduceCtorEq, Int.reduceEq, SF0, SF1, SF2, DPa0, DHb0, DHb1, DHa0, DCg0, DCe0, DCa0, DCa1, DDb0, DBc0, DBa0, DPs0]
    refine br_ndec (fun h3 => ?_) (fun h3 => ?_)
    · simp (disch := omega) only [SX0, SX1, SX2, SX3, SX4, SX5, SX6, SX7, SX8, SU0, SY0, SY1, Nat.reduceAdd, Nat.reduceMul, Nat.reduceSub, Nat.reduceLeDiff, Nat.reduceEqDiff, Nat.reduceLT, Nat.reduceBEq, ↓reduceIte, Int.reduceLE, Int.reduceLT, Int.reduceToNat, Int.reduceNeg, reduceCtorEq, Int.reduceEq, SF0, SF1, SF2, DPa0, DHb0, DHb1, DHa0, DCg0, DCe0, DCa0, DCa1, DDb0, DBc0, DBa0, DPs0]
      exact fin_val ⟨vF fun hh => h3 (hh.2.1 q hm).1, rfl⟩
    simp (disch := omega) only [SX0, SX1, SX2, SX3, SX4, SX5, SX6, SX7, SX8, SU0, SY0, SY1, Nat.reduceAdd, Nat.reduceMul, Nat.reduceSub, Nat.reduceLeDiff, Nat.reduceEqDiff, Nat.reduceLT, Nat.reduceBEq, ↓reduceIte, Int.reduceLE, Int.reduceLT, Int.reduceToNat, Int.reduceNeg, reduceCtorEq, Int.reduceEq, SF0, SF1, SF2, DPa0, DHb0, DHb1, DHa0, DCg0, DCe0, DCa0, DCa1, DDb0, DBc0, DBa0, DPs0, hq]
    refine acall_one (inRange_c _ _ _) rfl rfl ?_
    simp (disch := omega) only [SX0, SX1, SX2, SX3, SX4, SX5, SX6, SX7, SX8, SU0, SY0, SY1, Nat.reduceAdd, Nat.reduceMul, Nat.reduceSub, Nat.reduceLeDiff, Nat.reduceEqDiff, Nat.reduceLT, Nat.reduceBEq, ↓reduceIte, Int.reduceLE, Int.reduceLT, Int.reduceToNat, Int.reduceNeg, reduceCtorEq, Int.reduceEq, SF0, SF1, SF2, DPa0, DHb0, DHb1, DHa0, DCg0, DCe0, DCa0, DCa1, DDb0, DBc0, DBa0, DPs0]
    refine br_ndec (fun h4 => ?_) (fun h4 => ?_)
    · simp (disch := omega) only [SX0, SX1, SX2, SX3, SX4, SX5, SX6, SX7, SX8, SU0, SY0, SY1, Nat.reduceAdd, Nat.reduceMul, Nat.reduceSub, Nat.reduceLeDiff, Nat.reduceEqDiff, Nat.reduceLT, Nat.reduceBEq, ↓reduceIte, Int.reduceLE, Int.reduceLT, Int.reduceToNat, Int.reduceNeg, reduceCtorEq, Int.reduceEq, SF0, SF1, SF2, DPa0, DHb0, DHb1, DHa0, DCg0, DCe0, DCa0, DCa1, DDb0, DBc0, DBa0, DPs0]
      exact fin_val ⟨vF fun hh => h4 (by
        have h5 := countO_one (fun q hq => (hh.2.1 q hq).2) hq
        have h6 := (hh.2.1 q hm).2
        have := hh.1.2
        omega), rfl⟩
    simp (disch := omega) only [SX0, SX1, SX2, SX3, SX4, SX5, SX6, SX7, SX8, SU0, SY0, SY1, Nat.reduceAdd, Nat.reduceMul, Nat.reduceSub, Nat.reduceLeDiff, Nat.reduceEqDiff, Nat.reduceLT, Nat.reduceBEq, ↓reduceIte, Int.reduceLE, Int.reduceLT, Int.reduceToNat, Int.reduceNeg, reduceCtorEq, Int.reduceEq, SF0, SF1, SF2, DPa0, DHb0, DHb1, DHa0, DCg0, DCe0, DCa0, DCa1, DDb0, DBc0, DBa0, DPs0]
    with_reducible refine awp_loop_h 5 53 (fun (j : Nat) => [(5, .val (.int .i64 j))]) (fun _ => []) (fun j => j ≤ i ∧ ∀ c ∈ l.take j, c.P ≠ q.P) (fun j => i - j) 0 ⟨Nat.zero_le _, by simp⟩ ?_ (fun j hj => sx_sound (bl := []) T_tt _ _ _ ?_)
    · simp (disch := omega) only [SX0, SX1, SX2, SX3, SX4, SX5, SX6, SX7, SX8, SU0, SY0, SY1, Nat.reduceAdd, Nat.reduceMul, Nat.reduceSub, Nat.reduceLeDiff, Nat.reduceEqDiff, Nat.reduceLT, Nat.reduceBEq, ↓reduceIte, Int.reduceLE, Int.reduceLT, Int.reduceToNat, Int.reduceNeg, reduceCtorEq, Int.reduceEq, SF0, SF1, SF2, DPa0, DHb0, DHb1, DHa0, DCg0, DCe0, DCa0, DCa1, DDb0, DBc0, DBa0, DPs0]
      (refine wk_le ?_ ?_ ?_; (focus (simp [W8, leTm, leAV, AV.under, underL]; done)); (focus (simp [leL, OB.under, underL, AV.under]; done)); (focus (simp; done)))
    simp (disch := omega) only [SX0, SX1, SX2, SX3, SX4, SX5, SX6, SX7, SX8, SU0, SY0, SY1, Nat.reduceAdd, Nat.reduceMul, Nat.reduceSub, Nat.reduceLeDiff, Nat.reduceEqDiff, Nat.reduceLT, Nat.reduceBEq, ↓reduceIte, Int.reduceLE, Int.reduceLT, Int.reduceToNat, Int.reduceNeg, reduceCtorEq, Int.reduceEq, SF0, SF1, SF2, DPa0, DHb0, DHb1, DHa0, DCg0, DCe0, DCa0, DCa1, DDb0, DBc0, DBa0, DPs0]
    refine br_dec (fun h5 => ?_) (fun h5 => ?_)
    · obtain ⟨c, hc⟩ := get_lt (l := l) (i := j) (by omega)
      simp (disch := omega) only [SX0, SX1, SX2, SX3, SX4, SX5, SX6, SX7, SX8, SU0, SY0, SY1, Nat.reduceAdd, Nat.reduceMul, Nat.reduceSub, Nat.reduceLeDiff, Nat.reduceEqDiff, Nat.reduceLT, Nat.reduceBEq, ↓reduceIte, Int.reduceLE, Int.reduceLT, Int.reduceToNat, Int.reduceNeg, reduceCtorEq, Int.reduceEq, SF0, SF1, SF2, DPa0, DHb0, DHb1, DHa0, DCg0, DCe0, DCa0, DCa1, DDb0, DBc0, DBa0, DPs0]
      refine awp_drawA T_tt mixed (by decide +kernel) (by kernel_rfl) (by kernel_rfl) ?_
      simp (disch := omega) only [SX0, SX1, SX2, SX3, SX4, SX5, SX6, SX7, SX8, SU0, SY0, SY1, Nat.reduceAdd, Nat.reduceMul, Nat.reduceSub, Nat.reduceLeDiff, Nat.reduceEqDiff, Nat.reduceLT, Nat.reduceBEq, ↓reduceIte, Int.reduceLE, Int.reduceLT, Int.reduceToNat, Int.reduceNeg, reduceCtorEq, Int.reduceEq, SF0, SF1, SF2, DPa0, DHb0, DHb1, DHa0, DCg0, DCe0, DCa0, DCa1, DDb0, DBc0, DBa0, DPs0, hq, hc, Pane.eq_c]
      refine br_dec (fun h6 => ?_) (fun h6 => ?_)
      · simp (disch := omega) only [SX0, SX1, SX2, SX3, SX4, SX5, SX6, SX7, SX8, SU0, SY0, SY1, Nat.reduceAdd, Nat.reduceMul, Nat.reduceSub, Nat.reduceLeDiff, Nat.reduceEqDiff, Nat.reduceLT, Nat.reduceBEq, ↓reduceIte, Int.reduceLE, Int.reduceLT, Int.reduceToNat, Int.reduceNeg, reduceCtorEq, Int.reduceEq, SF0, SF1, SF2, DPa0, DHb0, DHb1, DHa0, DCg0, DCe0, DCa0, DCa1, DDb0, DBc0, DBa0, DPs0]
        exact fin_val ⟨vF fun hh => newP_at hq hh.2.2 c (List.mem_of_getElem? (i := j) (by rw [List.getElem?_take, if_pos (by omega)]; exact hc)) h6, rfl⟩
      · simp (disch := omega) only [SX0, SX1, SX2, SX3, SX4, SX5, SX6, SX7, SX8, SU0, SY0, SY1, Nat.reduceAdd, Nat.reduceMul, Nat.reduceSub, Nat.reduceLeDiff, Nat.reduceEqDiff, Nat.reduceLT, Nat.reduceBEq, ↓reduceIte, Int.reduceLE, Int.reduceLT, Int.reduceToNat, Int.reduceNeg, reduceCtorEq, Int.reduceEq, SF0, SF1, SF2, DPa0, DHb0, DHb1, DHa0, DCg0, DCe0, DCa0, DCa1, DDb0, DBc0, DBa0, DPs0]
        refine ⟨j + 1, ⟨by omega, take_next hc hj.2 h6⟩, by omega, ?_⟩
        (refine wk_le ?_ ?_ ?_; (focus (simp [W8, leTm, leAV, AV.under, underL]; done)); (focus (simp [leL, OB.under, underL, AV.under]; done)); (focus (simp; done)))
    · have hji : j = i := by omega
      subst hji
      simp (disch := omega) only [SX0, SX1, SX2, SX3, SX4, SX5, SX6, SX7, SX8, SU0, SY0, SY1, Nat.reduceAdd, Nat.reduceMul, Nat.reduceSub, Nat.reduceLeDiff, Nat.reduceEqDiff, Nat.reduceLT, Nat.reduceBEq, ↓reduceIte, Int.reduceLE, Int.reduceLT, Int.reduceToNat, Int.reduceNeg, reduceCtorEq, Int.reduceEq, SF0, SF1, SF2, DPa0, DHb0, DHb1, DHa0, DCg0, DCe0, DCa0, DCa1, DDb0, DBc0, DBa0, DPs0, hq]
      rw [← hn]
      refine ⟨j + 1, ⟨by omega, by omega, take_next hq hi.2.2.1 ⟨h3, h4.1⟩, newP_next hq hi.2.2.2 hj.2⟩, by omega, ?_⟩
      (refine wk_le ?_ ?_ ?_; (focus (simp [W8, leTm, leAV, AV.under, underL]; done)); (focus (simp [leL, OB.under, underL, AV.under]; done)); (focus (simp; done)))
  · have e : l.take i = l := List.take_of_length_le (by omega)
    rw [e] at hi
    rw [e]
    have ho : orderOk l ↔ (l.length ≤ 8 ∧ countO l ≤ 24) := ⟨fun h => h.1, fun h => ⟨h, hi.2.2.1, hi.2.2.2⟩⟩
    simp (disch := omega) only [SX0, SX1, SX2, SX3, SX4, SX5, SX6, SX7, SX8, SU0, SY0, SY1, Nat.reduceAdd, Nat.reduceMul, Nat.reduceSub, Nat.reduceLeDiff, Nat.reduceEqDiff, Nat.reduceLT, Nat.reduceBEq, ↓reduceIte, Int.reduceLE, Int.reduceLT, Int.reduceToNat, Int.reduceNeg, reduceCtorEq, Int.reduceEq, SF0, SF1, SF2, DPa0, DHb0, DHb1, DHa0, DCg0, DCe0, DCa0, DCa1, DDb0, DBc0, DBa0, DPs0]
    refine br_dec (fun h3 => ?_) (fun h3 => ?_)
    · simp (disch := omega) only [SX0, SX1, SX2, SX3, SX4, SX5, SX6, SX7, SX8, SU0, SY0, SY1, Nat.reduceAdd, Nat.reduceMul, Nat.reduceSub, Nat.reduceLeDiff, Nat.reduceEqDiff, Nat.reduceLT, Nat.reduceBEq, ↓reduceIte, Int.reduceLE, Int.reduceLT, Int.reduceToNat, Int.reduceNeg, reduceCtorEq, Int.reduceEq, SF0, SF1, SF2, DPa0, DHb0, DHb1, DHa0, DCg0, DCe0, DCa0, DCa1, DDb0, DBc0, DBa0, DPs0]
      exact fin_val ⟨vb ⟨fun h => ho.2 ⟨by omega, h⟩, fun h => (ho.1 h).2⟩, rfl⟩
    · simp (disch := omega) only [SX0, SX1, SX2, SX3, SX4, SX5, SX6, SX7, SX8, SU0, SY0, SY1, Nat.reduceAdd, Nat.reduceMul, Nat.reduceSub, Nat.reduceLeDiff, Nat.reduceEqDiff, Nat.reduceLT, Nat.reduceBEq, ↓reduceIte, Int.reduceLE, Int.reduceLT, Int.reduceToNat, Int.reduceNeg, reduceCtorEq, Int.reduceEq, SF0, SF1, SF2, DPa0, DHb0, DHb1, DHa0, DCg0, DCe0, DCa0, DCa1, DDb0, DBc0, DBa0, DPs0]
      exact fin_val ⟨vF fun h => h3 (by have := (ho.1 h).1; omega), rfl⟩
end Go.Pc
