/- The reader of the reference's generators. -/
import Derived.Test.YtkcpcmobmalijaaBc
set_option linter.unusedSimpArgs false
set_option linter.unusedVariables false
namespace Go.Pc
open Go Go.Proofs

/-- The reader's cells. -/
def rdr (xs : List Int) (p : Int) : OB := .cells [.sl (bys xs), .val (.int .i64 p)]

theorem e_newReader : Enters Try.prog 76 := enters_of Try.func76 (by kernel_rfl) (by kernel_rfl)
theorem newReader_c (xs : List Int) : ACalls Try.prog 76 [.sl (bys xs)] [] [] (fun r L => r = .ptr 0 0 ∧ L = [rdr (xs.take 2000) 0]) := by
  refine acalls_tm T_tt Try.func76 rfl e_newReader 10 rfl (W8 _ .any .any .any .any .any .any .any [.any, .any, .any]) rfl (rv := [.tmp 2]) rfl (sx_sound (bl := []) T_tt _ _ _ ?_)
  simp (disch := omega) only [SX0, SX1, SX2, SX3, SX4, SX5, SX6, SX7, SX8, SU0, SY0, SY1, Nat.reduceAdd, Nat.reduceMul, Nat.reduceSub, Nat.reduceLeDiff, Nat.reduceEqDiff, Nat.reduceLT, Nat.reduceBEq, ↓reduceIte, Int.reduceLE, Int.reduceLT, Int.reduceToNat, Int.reduceNeg, reduceCtorEq, Int.reduceEq, SF0, SF1, SF2, DBc0, DBc1]
  refine br_dec (fun h => ?_) (fun h => ?_)
  · simp (disch := omega) only [SX0, SX1, SX2, SX3, SX4, SX5, SX6, SX7, SX8, SU0, SY0, SY1, Nat.reduceAdd, Nat.reduceMul, Nat.reduceSub, Nat.reduceLeDiff, Nat.reduceEqDiff, Nat.reduceLT, Nat.reduceBEq, ↓reduceIte, Int.reduceLE, Int.reduceLT, Int.reduceToNat, Int.reduceNeg, reduceCtorEq, Int.reduceEq, SF0, SF1, SF2, DBc0, DBc1, bysTake]
    refine req ⟨by omega, fun c hc => bys_one xs c 0 (by rw [bysGet]; exact hc)⟩ ?_
    simp (disch := omega) only [SX0, SX1, SX2, SX3, SX4, SX5, SX6, SX7, SX8, SU0, SY0, SY1, Nat.reduceAdd, Nat.reduceMul, Nat.reduceSub, Nat.reduceLeDiff, Nat.reduceEqDiff, Nat.reduceLT, Nat.reduceBEq, ↓reduceIte, Int.reduceLE, Int.reduceLT, Int.reduceToNat, Int.reduceNeg, reduceCtorEq, Int.reduceEq, SF0, SF1, SF2, DBc0, DBc1, bysTake]
    exact fin_zero (.ptr 0 0) (rdr (xs.take 2000) 0) ⟨rfl, rfl⟩ rfl rfl (by simp) (by simp)
  · simp (disch := omega) only [SX0, SX1, SX2, SX3, SX4, SX5, SX6, SX7, SX8, SU0, SY0, SY1, Nat.reduceAdd, Nat.reduceMul, Nat.reduceSub, Nat.reduceLeDiff, Nat.reduceEqDiff, Nat.reduceLT, Nat.reduceBEq, ↓reduceIte, Int.reduceLE, Int.reduceLT, Int.reduceToNat, Int.reduceNeg, reduceCtorEq, Int.reduceEq, SF0, SF1, SF2, DBc0, DBc1]
    have hx : xs.take 2000 = xs := List.take_of_length_le (by omega)
    exact fin_zero (.ptr 0 0) (rdr (xs.take 2000) 0) ⟨rfl, rfl⟩ rfl (by rw [hx]; rfl) (by simp) (by simp)

theorem tmod_pick {x n : Int} (h : 0 ≤ x) (hn : ¬ n < 1) : 0 ≤ x.tmod n ∧ (1 ≤ n → x.tmod n < n) ∧ (n < 1 → x.tmod n = 0) :=
  ⟨Int.tmod_nonneg _ h, fun h1 => Int.tmod_lt_of_pos _ (by omega), fun h1 => absurd h1 hn⟩

theorem xor_nn (a b : Int) (ha : 0 ≤ a ∧ a < 4611686018427387904) (hb : 0 ≤ b ∧ b < 4611686018427387904) :
    0 ≤ IntKind.i64.wrap ((BitVec.ofInt IntKind.i64.bits a ^^^ BitVec.ofInt IntKind.i64.bits b).toNat : Int) := by
  show 0 ≤ IntKind.i64.wrap ((BitVec.ofInt 64 a ^^^ BitVec.ofInt 64 b).toNat : Int)
  rw [BitVec.toNat_xor, BitVec.toNat_ofInt, BitVec.toNat_ofInt]
  have h1 : (a % ((2 ^ 64 : Nat) : Int)).toNat < 2 ^ 62 := by omega
  have h2 : (b % ((2 ^ 64 : Nat) : Int)).toNat < 2 ^ 62 := by omega
  have := Nat.xor_lt_two_pow h1 h2
  rw [wrap64 _ (by omega) (by omega)]
  omega

theorem e_pick : Enters Try.prog 78 := enters_of Try.func78 (by kernel_rfl) (by kernel_rfl)
set_option maxRecDepth 8000 in
set_option maxHeartbeats 1000000 in
theorem pick_c (xs : List Int) (p n : Int) (hx : ∀ x ∈ xs, 0 ≤ x ∧ x < 256) (hl : xs.length ≤ 2000) (hp : 0 ≤ p ∧ p ≤ 1000000000) :
    ACalls Try.prog 78 [.ptr 0 0, .val (.int .i64 n)] [rdr xs p] [0] (fun r L => ∃ v : Int, r = .val (.int .i64 v) ∧ L = [rdr xs (p + 1)] ∧ 0 ≤ v ∧ (1 ≤ n → v < n) ∧ (n < 1 → v = 0)) := by
  refine acalls_tm T_tt Try.func78 rfl e_pick 97 rfl (W8 _ _ .any .any .any .any .any .any (W8 .any .any .any .any .any .any .any .any (W8 .any .any .any .any .any .any .any .any (W8 .any .any .any .any .any .any .any .any (W8 .any .any .any .any .any .any .any .any (W8 .any .any .any .any .any .any .any .any (W8 .any .any .any .any .any .any .any .any (W8 .any .any .any .any .any .any .any .any (W8 .any .any .any .any .any .any .any .any (W8 .any .any .any .any .any .any .any .any (W8 .any .any .any .any .any .any .any .any (W8 .any .any .any .any .any .any .any .any [.any, .any, .any])))))))))))) rfl (rv := [.tmp 4]) rfl (sx_sound (bl := []) T_tt _ _ _ ?_)
  simp (disch := omega) only [SX0, SX1, SX2, SX3, SX4, SX5, SX6, SX7, SX8, SU0, SY0, SY1, Nat.reduceAdd, Nat.reduceMul, Nat.reduceSub, Nat.reduceLeDiff, Nat.reduceEqDiff, Nat.reduceLT, Nat.reduceBEq, ↓reduceIte, Int.reduceLE, Int.reduceLT, Int.reduceToNat, Int.reduceNeg, reduceCtorEq, Int.reduceEq, SF0, SF1, SF2, DBc0, DBc1, rdr]
  refine br_dec (fun h => ?_) (fun h => ?_)
  · simp (disch := omega) only [SX0, SX1, SX2, SX3, SX4, SX5, SX6, SX7, SX8, SU0, SY0, SY1, Nat.reduceAdd, Nat.reduceMul, Nat.reduceSub, Nat.reduceLeDiff, Nat.reduceEqDiff, Nat.reduceLT, Nat.reduceBEq, ↓reduceIte, Int.reduceLE, Int.reduceLT, Int.reduceToNat, Int.reduceNeg, reduceCtorEq, Int.reduceEq, SF0, SF1, SF2, DBc0, DBc1]
    exact fin_zero (.val (.int .i64 0)) (rdr xs (p + 1)) ⟨0, rfl, rfl, by omega, by omega, by omega⟩ rfl rfl (by simp) (by simp)
  · simp (disch := omega) only [SX0, SX1, SX2, SX3, SX4, SX5, SX6, SX7, SX8, SU0, SY0, SY1, Nat.reduceAdd, Nat.reduceMul, Nat.reduceSub, Nat.reduceLeDiff, Nat.reduceEqDiff, Nat.reduceLT, Nat.reduceBEq, ↓reduceIte, Int.reduceLE, Int.reduceLT, Int.reduceToNat, Int.reduceNeg, reduceCtorEq, Int.reduceEq, SF0, SF1, SF2, DBc0, DBc1]
    refine br_dec (fun h1 => ?_) (fun h1 => ?_)
    · simp (disch := omega) only [SX0, SX1, SX2, SX3, SX4, SX5, SX6, SX7, SX8, SU0, SY0, SY1, Nat.reduceAdd, Nat.reduceMul, Nat.reduceSub, Nat.reduceLeDiff, Nat.reduceEqDiff, Nat.reduceLT, Nat.reduceBEq, ↓reduceIte, Int.reduceLE, Int.reduceLT, Int.reduceToNat, Int.reduceNeg, reduceCtorEq, Int.reduceEq, SF0, SF1, SF2, DBc0, DBc1]
      exact fin_zero (.val (.int .i64 0)) (rdr xs (p + 1)) ⟨0, rfl, rfl, by omega, by omega, by omega⟩ rfl rfl (by simp) (by simp)
    · simp (disch := omega) only [SX0, SX1, SX2, SX3, SX4, SX5, SX6, SX7, SX8, SU0, SY0, SY1, Nat.reduceAdd, Nat.reduceMul, Nat.reduceSub, Nat.reduceLeDiff, Nat.reduceEqDiff, Nat.reduceLT, Nat.reduceBEq, ↓reduceIte, Int.reduceLE, Int.reduceLT, Int.reduceToNat, Int.reduceNeg, reduceCtorEq, Int.reduceEq, SF0, SF1, SF2, DBc0, DBc1]
      refine br_dec (fun h2 => ?_) (fun h2 => ?_)
      · obtain ⟨y, hy⟩ := get_lt (l := xs) (i := p.toNat) (by omega)
        have hy1 := hx y (List.mem_of_getElem? hy)
        have hpp : p + 1 - 1 = p := by omega
        simp (disch := omega) only [SX0, SX1, SX2, SX3, SX4, SX5, SX6, SX7, SX8, SU0, SY0, SY1, Nat.reduceAdd, Nat.reduceMul, Nat.reduceSub, Nat.reduceLeDiff, Nat.reduceEqDiff, Nat.reduceLT, Nat.reduceBEq, ↓reduceIte, Int.reduceLE, Int.reduceLT, Int.reduceToNat, Int.reduceNeg, reduceCtorEq, Int.reduceEq, SF0, SF1, SF2, DBc0, DBc1, hpp, hy]
        refine req hp.1 ?_
        simp (disch := omega) only [SX0, SX1, SX2, SX3, SX4, SX5, SX6, SX7, SX8, SU0, SY0, SY1, Nat.reduceAdd, Nat.reduceMul, Nat.reduceSub, Nat.reduceLeDiff, Nat.reduceEqDiff, Nat.reduceLT, Nat.reduceBEq, ↓reduceIte, Int.reduceLE, Int.reduceLT, Int.reduceToNat, Int.reduceNeg, reduceCtorEq, Int.reduceEq, SF0, SF1, SF2, DBc0, DBc1, hpp, hy]
        refine req (by omega) ?_
        simp (disch := omega) only [SX0, SX1, SX2, SX3, SX4, SX5, SX6, SX7, SX8, SU0, SY0, SY1, Nat.reduceAdd, Nat.reduceMul, Nat.reduceSub, Nat.reduceLeDiff, Nat.reduceEqDiff, Nat.reduceLT, Nat.reduceBEq, ↓reduceIte, Int.reduceLE, Int.reduceLT, Int.reduceToNat, Int.reduceNeg, reduceCtorEq, Int.reduceEq, SF0, SF1, SF2, DBc0, DBc1]
        exact fin_zero (.val (.int .i64 (y.tmod n))) (rdr xs (p + 1)) ⟨_, rfl, rfl, tmod_pick hy1.1 h⟩ rfl rfl (by simp) (by simp)
      · simp (disch := omega) only [SX0, SX1, SX2, SX3, SX4, SX5, SX6, SX7, SX8, SU0, SY0, SY1, Nat.reduceAdd, Nat.reduceMul, Nat.reduceSub, Nat.reduceLeDiff, Nat.reduceEqDiff, Nat.reduceLT, Nat.reduceBEq, ↓reduceIte, Int.reduceLE, Int.reduceLT, Int.reduceToNat, Int.reduceNeg, reduceCtorEq, Int.reduceEq, SF0, SF1, SF2, DBc0, DBc1]
        refine awp_draw (bl := []) T_tt mixed 46 (by decide) (by kernel_rfl) (.inl rfl) (by kernel_rfl) ?_
        obtain ⟨y, hy⟩ := get_lt (l := xs) (i := (p.tmod xs.length).toNat) (by have := Int.tmod_lt_of_pos p (b := xs.length) (by omega); have := Int.tmod_nonneg (xs.length : Int) hp.1; omega)
        obtain ⟨z, hz⟩ := get_lt (l := xs) (i := ((p * 7 + 3).tmod xs.length).toNat) (by have := Int.tmod_lt_of_pos (p * 7 + 3) (b := xs.length) (by omega); have := Int.tmod_nonneg (a := p * 7 + 3) (xs.length : Int) (by omega); omega)
        have hy1 := hx y (List.mem_of_getElem? hy)
        have hz1 := hx z (List.mem_of_getElem? hz)
        have hpp : p + 1 - 1 = p := by omega
        have hq : 0 ≤ p.tdiv xs.length ∧ p.tdiv xs.length ≤ p := ⟨Int.tdiv_nonneg hp.1 (by omega), Int.tdiv_le_self _ hp.1⟩
        have hxl : ((xs.length : Int) = 0) = False := eq_false h1
        have hq1 : (0 ≤ p.tmod xs.length) = True := eq_true (Int.tmod_nonneg _ hp.1)
        have hq2 : (0 ≤ (p * 7 + 3).tmod xs.length) = True := eq_true (Int.tmod_nonneg _ (by omega))
        simp (disch := omega) only [SX0, SX1, SX2, SX3, SX4, SX5, SX6, SX7, SX8, SU0, SY0, SY1, Nat.reduceAdd, Nat.reduceMul, Nat.reduceSub, Nat.reduceLeDiff, Nat.reduceEqDiff, Nat.reduceLT, Nat.reduceBEq, ↓reduceIte, Int.reduceLE, Int.reduceLT, Int.reduceToNat, Int.reduceNeg, reduceCtorEq, Int.reduceEq, SF0, SF1, SF2, DBc0, DBc1, hpp, hy, hz, hxl, hq1, hq2]
        have hn : (n = 0) = False := eq_false (by omega)
        have hx1 : 0 ≤ y * 131 + z * 1117 + p * 29 + p.tdiv xs.length * 53 ∧ y * 131 + z * 1117 + p * 29 + p.tdiv xs.length * 53 < 4611686018427387904 := by omega
        generalize y * 131 + z * 1117 + p * 29 + p.tdiv xs.length * 53 = x at *
        have hx2 : 0 ≤ x.tdiv 64 ∧ x.tdiv 64 ≤ x := ⟨Int.tdiv_nonneg hx1.1 (by omega), Int.tdiv_le_self _ hx1.1⟩
        simp (disch := omega) only [SX0, SX1, SX2, SX3, SX4, SX5, SX6, SX7, SX8, SU0, SY0, SY1, Nat.reduceAdd, Nat.reduceMul, Nat.reduceSub, Nat.reduceLeDiff, Nat.reduceEqDiff, Nat.reduceLT, Nat.reduceBEq, ↓reduceIte, Int.reduceLE, Int.reduceLT, Int.reduceToNat, Int.reduceNeg, reduceCtorEq, Int.reduceEq, SF0, SF1, SF2, DBc0, DBc1, hn]
        have hx3 := xor_nn x (x.tdiv 64) hx1 (by omega)
        exact fin_zero (.val (.int .i64 _)) (rdr xs (p + 1)) ⟨_, rfl, rfl, tmod_pick hx3 h⟩ rfl rfl (by simp) (by simp)

theorem rdr_ren (xs : List Int) (p : Int) (σ : Nat → Nat) : (rdr xs p).ren σ = rdr xs p := by simp [rdr, OB.ren, AV.ren]

/-- A call of pick. -/
theorem pick_call {fx : List Nat} {xs : List Int} {p n : Int} (hx : ∀ x ∈ xs, 0 ≤ x ∧ x < 256) (hl : xs.length ≤ 2000) (hp : 0 ≤ p ∧ p ≤ 1000000000) {r : Nat} {s : AS} (hL : s.L[r]? = some (rdr xs p)) {K : AV → AS → Prop}
    (hK : ∀ v : Int, 0 ≤ v → (1 ≤ n → v < n) → (n < 1 → v = 0) → K (.val (.int .i64 v)) { s with L := s.L.set r (rdr xs (p + 1)) }) : ACall Try.prog fx (.fn 78 []) [.ptr r 0, .val (.int .i64 n)] s K :=
  acall_blk (R := fun res o => ∃ v : Int, res = .val (.int .i64 v) ∧ o = rdr xs (p + 1) ∧ 0 ≤ v ∧ (1 ≤ n → v < n) ∧ (n < 1 → v = 0)) ((pick_c xs p n hx hl hp).mono fun res L ⟨v, h1, h2, h3⟩ => ⟨_, h2, v, h1, rfl, h3⟩) r (by rw [rdr_ren]; exact hL) (by simp [AV.ren, nameIn]) fun res o ⟨v, h1, h2, h3, h4, h5⟩ => by
    subst h1; subst h2
    rw [rdr_ren]
    exact hK v h3 h4 h5

theorem e_one : Enters Try.prog 102 := enters_of Try.func102 (by kernel_rfl) (by kernel_rfl)
theorem one_c (xs : List Int) (p : Int) (l : List Int) (hx : ∀ x ∈ xs, 0 ≤ x ∧ x < 256) (hl : xs.length ≤ 2000) (hp : 0 ≤ p ∧ p ≤ 1000000000) (hn : 0 < l.length ∧ l.length ≤ 1000) :
    ACalls Try.prog 102 [.ptr 0 0, .sl (l.map fun x => [.val (.int .i64 x)])] [rdr xs p] [0] (fun r L => ∃ o', L = [o'] ∧ o' = rdr xs (p + 1) ∧ ∃ v, r = .val (.int .i64 v) ∧ v ∈ l) := by
  refine acalls_tm T_tt Try.func102 rfl e_one 10 rfl (W8 _ _ .any .any .any .any .any .any [.any, .any, .any, .any]) rfl (rv := [.tmp 4]) rfl (sx_sound (bl := []) T_tt _ _ _ ?_)
  simp (disch := omega) only [SX0, SX1, SX2, SX3, SX4, SX5, SX6, SX7, SX8, SU0, SY0, SY1, Nat.reduceAdd, Nat.reduceMul, Nat.reduceSub, Nat.reduceLeDiff, Nat.reduceEqDiff, Nat.reduceLT, Nat.reduceBEq, ↓reduceIte, Int.reduceLE, Int.reduceLT, Int.reduceToNat, Int.reduceNeg, reduceCtorEq, Int.reduceEq, SF0, SF1, SF2, DBc0, DBc1]
  refine pick_call hx hl hp rfl fun v h0 h1 _ => ?_
  obtain ⟨x, hv⟩ := get_lt (l := l) (i := v.toNat) (by omega)
  have hv0 : (0 ≤ v) = True := eq_true h0
  simp (disch := omega) only [SX0, SX1, SX2, SX3, SX4, SX5, SX6, SX7, SX8, SU0, SY0, SY1, Nat.reduceAdd, Nat.reduceMul, Nat.reduceSub, Nat.reduceLeDiff, Nat.reduceEqDiff, Nat.reduceLT, Nat.reduceBEq, ↓reduceIte, Int.reduceLE, Int.reduceLT, Int.reduceToNat, Int.reduceNeg, reduceCtorEq, Int.reduceEq, SF0, SF1, SF2, DBc0, DBc1, hv, hv0]
  exact fin_zero (.val (.int .i64 x)) (rdr xs (p + 1)) ⟨_, rfl, rfl, x, rfl, List.mem_of_getElem? hv⟩ rfl (by rw [rdr_ren]; rfl) (by simp) (by simp)

/-- A call of one. -/
theorem one_call {fx : List Nat} {xs : List Int} {p : Int} {l : List Int} (hx : ∀ x ∈ xs, 0 ≤ x ∧ x < 256) (hl : xs.length ≤ 2000) (hp : 0 ≤ p ∧ p ≤ 1000000000) (hn : 0 < l.length ∧ l.length ≤ 1000) {es : List (List AV)} (hes : es = l.map fun x => [.val (.int .i64 x)]) {r : Nat} {s : AS} (hL : s.L[r]? = some (rdr xs p)) {K : AV → AS → Prop}
    (hK : ∀ v ∈ l, K (.val (.int .i64 v)) { s with L := s.L.set r (rdr xs (p + 1)) }) : ACall Try.prog fx (.fn 102 []) [.ptr r 0, .sl es] s K := by
  subst hes
  exact acall_blk (R := fun res o => o = rdr xs (p + 1) ∧ ∃ v, res = .val (.int .i64 v) ∧ v ∈ l) (one_c xs p l hx hl hp hn) r (by rw [rdr_ren]; exact hL) (by simp [AV.ren, nameIn]) fun res o ⟨h1, v, h2, h3⟩ => by
    subst h1; subst h2
    rw [rdr_ren]
    exact hK v h3

end Go.Pc

/- Works; plans that fit. -/
namespace Go.Pc
open Go Go.Proofs

structure Work where
  W : Int
  H : Int
  Ps : List Pane

def Work.cs (k : Work) : List AV := [.val (.int .i64 k.W), .val (.int .i64 k.H), .sl (k.Ps.map Pane.cs)]
theorem Work.len (k : Work) : k.cs.length = 3 := rfl
theorem Work.take (k : Work) : k.cs.take 3 = k.cs := rfl
theorem Work.g0 (k : Work) : k.cs[0]? = some (.val (.int .i64 k.W)) := rfl
theorem Work.g1 (k : Work) : k.cs[1]? = some (.val (.int .i64 k.H)) := rfl
theorem Work.g2 (k : Work) : k.cs[2]? = some (.sl (k.Ps.map Pane.cs)) := rfl
theorem Work.free (k : Work) : freeL k.cs = true := rfl

theorem Work.one (k : Work) : k.cs.all AV.one = true := rfl
theorem Work.pure (k : Work) : k.cs.all AV.pure = true := rfl
theorem Work.filtd (f : Nat → Bool) (p : Work) : filtL f p.cs = p.cs := (free_filt_aux f).2 _ p.free
theorem Work.rend (f : Nat → Nat) (p : Work) : renL f p.cs = p.cs := freeL_rend f p.free
theorem DDb0 : type_of% @Work.one ∧ type_of% @Work.pure ∧ type_of% @Work.rend ∧ type_of% @Work.filtd ∧ type_of% @Work.len ∧ type_of% @Work.take ∧ type_of% @Work.g0 ∧ type_of% @Work.g1 ∧ type_of% @Work.g2 := ⟨@Work.one, @Work.pure, @Work.rend, @Work.filtd, @Work.len, @Work.take, @Work.g0, @Work.g1, @Work.g2⟩
/-- A pane fills a glass. -/
def fills (k : Work) (pa : Int) (tu : Bool) (w h : Int) : Bool :=
  if pa < 0 then false else
  match k.Ps[pa.toNat]? with
  | none => false
  | some q => if tu then q.Tu && decide (q.W ≠ q.H) && decide (q.H = w) && decide (q.W = h) else decide (q.W = w) && decide (q.H = h)

/-- A plan fits a glass. -/
def Plan.fits (k : Work) : Plan → Int → Int → Bool
  | .mk op at_ pa tu ks, w, h =>
    if op = 1 then fills k pa tu w h
    else if op = 2 then
      match ks with
      | [a, b] => decide (1 ≤ at_ ∧ at_ ≤ w - 1) && a.fits k at_ h && b.fits k (w - at_) h
      | _ => false
    else if op = 3 then
      match ks with
      | [a, b] => decide (1 ≤ at_ ∧ at_ ≤ h - 1) && a.fits k w at_ && b.fits k w (h - at_)
      | _ => false
    else true

theorem Plan.two {p : Plan} (hw : p.wf = true) (hc : p.cut) : ∃ a b, p.ks = [a, b] ∧ a.wf = true ∧ b.wf = true ∧ a.nodes < p.nodes ∧ b.nodes < p.nodes := by
  obtain ⟨h1, h2⟩ := (Plan.wf_iff p).1 hw
  unfold Plan.good at h1
  rw [if_pos hc] at h1
  obtain ⟨a, b, hab⟩ : ∃ a b, p.ks = [a, b] := by
    match hk : p.ks, h1.1 with
    | [a, b], _ => exact ⟨a, b, rfl⟩
  exact ⟨a, b, hab, h2 a (by simp [hab]), h2 b (by simp [hab]), Plan.nodes_kid (by simp [hab]), Plan.nodes_kid (by simp [hab])⟩

theorem Plan.fits_pane (k : Work) (p : Plan) (w h : Int) (ho : p.op = 1) : p.fits k w h = fills k p.pa p.tu w h := by
  cases p; simp only [Plan.op] at ho; rw [Plan.fits.eq_def]; simp [ho, Plan.pa, Plan.tu]
theorem Plan.fits_down (k : Work) (p a b : Plan) (w h : Int) (ho : p.op = 2) (hk : p.ks = [a, b]) : p.fits k w h = (decide (1 ≤ p.at_) && decide (p.at_ ≤ w - 1) && a.fits k p.at_ h && b.fits k (w - p.at_) h) := by
  cases p; simp only [Plan.op, Plan.ks] at ho hk; subst hk; rw [Plan.fits.eq_def]; simp [ho, Plan.at_, Bool.decide_and] <;> rfl
theorem Plan.fits_across (k : Work) (p a b : Plan) (w h : Int) (ho : p.op = 3) (hk : p.ks = [a, b]) : p.fits k w h = (decide (1 ≤ p.at_) && decide (p.at_ ≤ h - 1) && a.fits k w p.at_ && b.fits k w (h - p.at_)) := by
  cases p; simp only [Plan.op, Plan.ks] at ho hk; subst hk; rw [Plan.fits.eq_def]; simp [ho, Plan.at_, Bool.decide_and] <;> rfl
theorem Plan.fits_else (k : Work) (p : Plan) (w h : Int) (h1 : p.op ≠ 1) (h2 : p.op ≠ 2) (h3 : p.op ≠ 3) : p.fits k w h = true := by
  cases p; simp only [Plan.op] at h1 h2 h3; rw [Plan.fits.eq_def]; simp [h1, h2, h3]

theorem fills_out (k : Work) (pa : Int) (tu : Bool) (w h : Int) (hh : ¬ (0 ≤ pa ∧ pa ≤ (k.Ps.length : Int) - 1)) : fills k pa tu w h = false := by
  unfold fills
  split
  · rfl
  · rw [List.getElem?_eq_none (by omega)]
theorem fills_in {k : Work} {pa : Int} {q : Pane} (hq : k.Ps[pa.toNat]? = some q) (h0 : 0 ≤ pa) (tu : Bool) (w h : Int) : fills k pa tu w h = if tu then q.Tu && decide (q.W ≠ q.H) && decide (q.H = w) && decide (q.W = h) else decide (q.W = w) && decide (q.H = h) := by
  unfold fills
  rw [if_neg (by omega), hq]

theorem e_fitsS : Enters Try.prog 152 := enters_of Try.func152 (by kernel_rfl) (by kernel_rfl)
set_option maxRecDepth 8000 in
set_option maxHeartbeats 4000000 in
theorem fitsS_n (k : Work) (hk : k.Ps.length < 2 ^ 40) : ∀ (n : Nat) (p : Plan) (w h : Int), p.nodes ≤ n → p.wf = true → (-1000000000000 ≤ w ∧ w ≤ 1000000000000) → (-1000000000000 ≤ h ∧ h ≤ 1000000000000) →
    ACalls Try.prog 152 [.agg k.cs, .agg p.cs, .val (.int .i64 w), .val (.int .i64 h)] [] [] (fun r L => r = .val (.bool (p.fits k w h)) ∧ L = []) := by
  intro n
  induction n with
  | zero => intro p w h hn; have := p.nodes_pos; omega
  | succ n ih =>
  intro p w h hn hwf hw hh
  refine acalls_tm T_tt Try.func152 rfl e_fitsS 119 rfl (W8 _ _ _ _ .any .any .any .any (W8 .any .any .any .any .any .any .any .any (W8 .any .any .any .any .any .any .any .any (W8 .any .any .any .any .any .any .any .any (W8 .any .any .any .any .any .any .any .any (W8 .any .any .any .any .any .any .any .any (W8 .any .any .any .any .any .any .any .any (W8 .any .any .any .any .any .any .any .any (W8 .any .any .any .any .any .any .any .any (W8 .any .any .any .any .any .any .any .any (W8 .any .any .any .any .any .any .any .any (W8 .any .any .any .any .any .any .any .any (W8 .any .any .any .any .any .any .any .any (W8 .any .any .any .any .any .any .any .any (W8 .any .any .any .any .any .any .any .any [.any, .any, .any]))))))))))))))) rfl (rv := [.tmp 8]) rfl (sx_sound (bl := []) T_tt _ _ _ ?_)
  simp (disch := omega) only [SX0, SX1, SX2, SX3, SX4, SX5, SX6, SX7, SX8, SU0, SY0, SY1, Nat.reduceAdd, Nat.reduceMul, Nat.reduceSub, Nat.reduceLeDiff, Nat.reduceEqDiff, Nat.reduceLT, Nat.reduceBEq, ↓reduceIte, Int.reduceLE, Int.reduceLT, Int.reduceToNat, Int.reduceNeg, reduceCtorEq, Int.reduceEq, SF0, SF1, SF2, DBc0, DBc1, DDb0, Plan.len, Plan.take, Plan.g0, Plan.g1, Plan.g2, Plan.g3, Plan.g4, Plan.one, Plan.pure, Work.len, Work.take, Work.g0, Work.g1, Work.g2, Pane.len, Pane.take, Pane.g0, Pane.g1, Pane.g2, Pane.g3, Pane.one, Pane.pure]
  refine br_dec (fun h1 => ?_) (fun h1 => ?_)
  · simp (disch := omega) only [SX0, SX1, SX2, SX3, SX4, SX5, SX6, SX7, SX8, SU0, SY0, SY1, Nat.reduceAdd, Nat.reduceMul, Nat.reduceSub, Nat.reduceLeDiff, Nat.reduceEqDiff, Nat.reduceLT, Nat.reduceBEq, ↓reduceIte, Int.reduceLE, Int.reduceLT, Int.reduceToNat, Int.reduceNeg, reduceCtorEq, Int.reduceEq, SF0, SF1, SF2, DBc0, DBc1, DDb0, Plan.len, Plan.take, Plan.g0, Plan.g1, Plan.g2, Plan.g3, Plan.g4, Plan.one, Plan.pure, Work.len, Work.take, Work.g0, Work.g1, Work.g2, Pane.len, Pane.take, Pane.g0, Pane.g1, Pane.g2, Pane.g3, Pane.one, Pane.pure]
    refine acall_one (inRange_c _ _ _) rfl rfl ?_
    simp (disch := omega) only [SX0, SX1, SX2, SX3, SX4, SX5, SX6, SX7, SX8, SU0, SY0, SY1, Nat.reduceAdd, Nat.reduceMul, Nat.reduceSub, Nat.reduceLeDiff, Nat.reduceEqDiff, Nat.reduceLT, Nat.reduceBEq, ↓reduceIte, Int.reduceLE, Int.reduceLT, Int.reduceToNat, Int.reduceNeg, reduceCtorEq, Int.reduceEq, SF0, SF1, SF2, DBc0, DBc1, DDb0]
    refine br_ndec (fun h2 => ?_) (fun h2 => ?_)
    · simp (disch := omega) only [SX0, SX1, SX2, SX3, SX4, SX5, SX6, SX7, SX8, SU0, SY0, SY1, Nat.reduceAdd, Nat.reduceMul, Nat.reduceSub, Nat.reduceLeDiff, Nat.reduceEqDiff, Nat.reduceLT, Nat.reduceBEq, ↓reduceIte, Int.reduceLE, Int.reduceLT, Int.reduceToNat, Int.reduceNeg, reduceCtorEq, Int.reduceEq, SF0, SF1, SF2, DBc0, DBc1, DDb0]
      refine fin_val ⟨?_, rfl⟩
      rw [Plan.fits_pane k p w h h1, fills_out k _ _ _ _ h2]
    · obtain ⟨q, hq⟩ := get_lt (l := k.Ps) (i := p.pa.toNat) (by omega)
      have h0 : (0 ≤ p.pa) = True := eq_true h2.1
      simp (disch := omega) only [SX0, SX1, SX2, SX3, SX4, SX5, SX6, SX7, SX8, SU0, SY0, SY1, Nat.reduceAdd, Nat.reduceMul, Nat.reduceSub, Nat.reduceLeDiff, Nat.reduceEqDiff, Nat.reduceLT, Nat.reduceBEq, ↓reduceIte, Int.reduceLE, Int.reduceLT, Int.reduceToNat, Int.reduceNeg, reduceCtorEq, Int.reduceEq, SF0, SF1, SF2, DBc0, DBc1, DDb0, hq, h0, Plan.len, Plan.take, Plan.g0, Plan.g1, Plan.g2, Plan.g3, Plan.g4, Plan.one, Plan.pure, Work.len, Work.take, Work.g0, Work.g1, Work.g2, Pane.len, Pane.take, Pane.g0, Pane.g1, Pane.g2, Pane.g3, Pane.one, Pane.pure]
      repeat' first | with_reducible refine fin_val ⟨?_, rfl⟩ | with_reducible refine br_dec (fun hb => ?_) (fun hb => ?_) | with_reducible refine br_ndec (fun hb => ?_) (fun hb => ?_) | with_reducible refine br_bool (fun hb => ?_) (fun hb => ?_) | with_reducible refine pk_dec (fun hb => ?_) (fun hb => ?_) | with_reducible refine pk_ndec (fun hb => ?_) (fun hb => ?_) | with_reducible refine awp_drawA T_tt mixed (by decide +kernel) (by kernel_rfl) (by kernel_rfl) ?_ | simp (disch := omega) only [SX0, SX1, SX2, SX3, SX4, SX5, SX6, SX7, SX8, SU0, SY0, SY1, Nat.reduceAdd, Nat.reduceMul, Nat.reduceSub, Nat.reduceLeDiff, Nat.reduceEqDiff, Nat.reduceLT, Nat.reduceBEq, ↓reduceIte, Int.reduceLE, Int.reduceLT, Int.reduceToNat, Int.reduceNeg, reduceCtorEq, Int.reduceEq, SF0, SF1, SF2, DBc0, DBc1, DDb0, Work.len, Work.take, Work.g0, Work.g1, Work.g2, Pane.len, Pane.take, Pane.g0, Pane.g1, Pane.g2, Pane.g3, Pane.one, Pane.pure, Plan.len, Plan.take, Plan.g0, Plan.g1, Plan.g2, Plan.g3, Plan.g4, Plan.one, Plan.pure]
      all_goals rw [Plan.fits_pane k p w h h1, fills_in hq h2.1]
      all_goals simp_all
  · simp (disch := omega) only [SX0, SX1, SX2, SX3, SX4, SX5, SX6, SX7, SX8, SU0, SY0, SY1, Nat.reduceAdd, Nat.reduceMul, Nat.reduceSub, Nat.reduceLeDiff, Nat.reduceEqDiff, Nat.reduceLT, Nat.reduceBEq, ↓reduceIte, Int.reduceLE, Int.reduceLT, Int.reduceToNat, Int.reduceNeg, reduceCtorEq, Int.reduceEq, SF0, SF1, SF2, DBc0, DBc1, DDb0, Plan.len, Plan.take, Plan.g0, Plan.g1, Plan.g2, Plan.g3, Plan.g4, Plan.one, Plan.pure, Work.len, Work.take, Work.g0, Work.g1, Work.g2, Pane.len, Pane.take, Pane.g0, Pane.g1, Pane.g2, Pane.g3, Pane.one, Pane.pure]
    refine br_dec (fun h2 => ?_) (fun h2 => ?_)
    · simp (disch := omega) only [SX0, SX1, SX2, SX3, SX4, SX5, SX6, SX7, SX8, SU0, SY0, SY1, Nat.reduceAdd, Nat.reduceMul, Nat.reduceSub, Nat.reduceLeDiff, Nat.reduceEqDiff, Nat.reduceLT, Nat.reduceBEq, ↓reduceIte, Int.reduceLE, Int.reduceLT, Int.reduceToNat, Int.reduceNeg, reduceCtorEq, Int.reduceEq, SF0, SF1, SF2, DBc0, DBc1, DDb0, Plan.len, Plan.take, Plan.g0, Plan.g1, Plan.g2, Plan.g3, Plan.g4, Plan.one, Plan.pure, Work.len, Work.take, Work.g0, Work.g1, Work.g2, Pane.len, Pane.take, Pane.g0, Pane.g1, Pane.g2, Pane.g3, Pane.one, Pane.pure]
      obtain ⟨a, b, hab, ha, hb, na, nb⟩ := Plan.two hwf (.inl h2)
      refine awp_draw (bl := []) T_tt mixed 30 (by decide) (by kernel_rfl) (.inl rfl) (by kernel_rfl) ?_
      simp (disch := omega) only [SX0, SX1, SX2, SX3, SX4, SX5, SX6, SX7, SX8, SU0, SY0, SY1, Nat.reduceAdd, Nat.reduceMul, Nat.reduceSub, Nat.reduceLeDiff, Nat.reduceEqDiff, Nat.reduceLT, Nat.reduceBEq, ↓reduceIte, Int.reduceLE, Int.reduceLT, Int.reduceToNat, Int.reduceNeg, reduceCtorEq, Int.reduceEq, SF0, SF1, SF2, DBc0, DBc1, DDb0, hab, Plan.len, Plan.take, Plan.g0, Plan.g1, Plan.g2, Plan.g3, Plan.g4, Plan.one, Plan.pure, Work.len, Work.take, Work.g0, Work.g1, Work.g2, Pane.len, Pane.take, Pane.g0, Pane.g1, Pane.g2, Pane.g3, Pane.one, Pane.pure]
      refine qc_one (inRange_c _ _ _) rfl ?_
      simp (disch := omega) only [SX0, SX1, SX2, SX3, SX4, SX5, SX6, SX7, SX8, SU0, SY0, SY1, Nat.reduceAdd, Nat.reduceMul, Nat.reduceSub, Nat.reduceLeDiff, Nat.reduceEqDiff, Nat.reduceLT, Nat.reduceBEq, ↓reduceIte, Int.reduceLE, Int.reduceLT, Int.reduceToNat, Int.reduceNeg, reduceCtorEq, Int.reduceEq, SF0, SF1, SF2, DBc0, DBc1, DDb0]
      by_cases hr : 1 ≤ p.at_ ∧ p.at_ ≤ w - 1
      · simp (disch := omega) only [SX0, SX1, SX2, SX3, SX4, SX5, SX6, SX7, SX8, SU0, SY0, SY1, Nat.reduceAdd, Nat.reduceMul, Nat.reduceSub, Nat.reduceLeDiff, Nat.reduceEqDiff, Nat.reduceLT, Nat.reduceBEq, ↓reduceIte, Int.reduceLE, Int.reduceLT, Int.reduceToNat, Int.reduceNeg, reduceCtorEq, Int.reduceEq, SF0, SF1, SF2, DBc0, DBc1, DDb0, hr, hab, Plan.len, Plan.take, Plan.g0, Plan.g1, Plan.g2, Plan.g3, Plan.g4, Plan.one, Plan.pure, Work.len, Work.take, Work.g0, Work.g1, Work.g2, Pane.len, Pane.take, Pane.g0, Pane.g1, Pane.g2, Pane.g3, Pane.one, Pane.pure]
        refine qc_one (ih a p.at_ h (by omega) ha (by omega) (by omega)) (by simp [freeL, AV.free, Plan.free, Work.free]) ?_
        simp (disch := omega) only [SX0, SX1, SX2, SX3, SX4, SX5, SX6, SX7, SX8, SU0, SY0, SY1, Nat.reduceAdd, Nat.reduceMul, Nat.reduceSub, Nat.reduceLeDiff, Nat.reduceEqDiff, Nat.reduceLT, Nat.reduceBEq, ↓reduceIte, Int.reduceLE, Int.reduceLT, Int.reduceToNat, Int.reduceNeg, reduceCtorEq, Int.reduceEq, SF0, SF1, SF2, DBc0, DBc1, DDb0, hab, Plan.len, Plan.take, Plan.g0, Plan.g1, Plan.g2, Plan.g3, Plan.g4, Plan.one, Plan.pure, Work.len, Work.take, Work.g0, Work.g1, Work.g2, Pane.len, Pane.take, Pane.g0, Pane.g1, Pane.g2, Pane.g3, Pane.one, Pane.pure]
        refine br_bool (fun hc => ?_) (fun hc => ?_)
        · simp (disch := omega) only [SX0, SX1, SX2, SX3, SX4, SX5, SX6, SX7, SX8, SU0, SY0, SY1, Nat.reduceAdd, Nat.reduceMul, Nat.reduceSub, Nat.reduceLeDiff, Nat.reduceEqDiff, Nat.reduceLT, Nat.reduceBEq, ↓reduceIte, Int.reduceLE, Int.reduceLT, Int.reduceToNat, Int.reduceNeg, reduceCtorEq, Int.reduceEq, SF0, SF1, SF2, DBc0, DBc1, DDb0, hab, Plan.len, Plan.take, Plan.g0, Plan.g1, Plan.g2, Plan.g3, Plan.g4, Plan.one, Plan.pure, Work.len, Work.take, Work.g0, Work.g1, Work.g2, Pane.len, Pane.take, Pane.g0, Pane.g1, Pane.g2, Pane.g3, Pane.one, Pane.pure]
          refine qc_one (ih b (w - p.at_) h (by omega) hb (by omega) (by omega)) (by simp [freeL, AV.free, Plan.free, Work.free]) ?_
          simp (disch := omega) only [SX0, SX1, SX2, SX3, SX4, SX5, SX6, SX7, SX8, SU0, SY0, SY1, Nat.reduceAdd, Nat.reduceMul, Nat.reduceSub, Nat.reduceLeDiff, Nat.reduceEqDiff, Nat.reduceLT, Nat.reduceBEq, ↓reduceIte, Int.reduceLE, Int.reduceLT, Int.reduceToNat, Int.reduceNeg, reduceCtorEq, Int.reduceEq, SF0, SF1, SF2, DBc0, DBc1, DDb0, hab, Plan.len, Plan.take, Plan.g0, Plan.g1, Plan.g2, Plan.g3, Plan.g4, Plan.one, Plan.pure, Work.len, Work.take, Work.g0, Work.g1, Work.g2, Pane.len, Pane.take, Pane.g0, Pane.g1, Pane.g2, Pane.g3, Pane.one, Pane.pure]
          refine fin_val ⟨?_, rfl⟩
          rw [Plan.fits_down k p a b w h h2 hab]
          simp [hr, hc]
        · simp (disch := omega) only [SX0, SX1, SX2, SX3, SX4, SX5, SX6, SX7, SX8, SU0, SY0, SY1, Nat.reduceAdd, Nat.reduceMul, Nat.reduceSub, Nat.reduceLeDiff, Nat.reduceEqDiff, Nat.reduceLT, Nat.reduceBEq, ↓reduceIte, Int.reduceLE, Int.reduceLT, Int.reduceToNat, Int.reduceNeg, reduceCtorEq, Int.reduceEq, SF0, SF1, SF2, DBc0, DBc1, DDb0, hab, Plan.len, Plan.take, Plan.g0, Plan.g1, Plan.g2, Plan.g3, Plan.g4, Plan.one, Plan.pure, Work.len, Work.take, Work.g0, Work.g1, Work.g2, Pane.len, Pane.take, Pane.g0, Pane.g1, Pane.g2, Pane.g3, Pane.one, Pane.pure]
          refine fin_val ⟨?_, rfl⟩
          rw [Plan.fits_down k p a b w h h2 hab]
          simp [hc]
      · simp (disch := omega) only [SX0, SX1, SX2, SX3, SX4, SX5, SX6, SX7, SX8, SU0, SY0, SY1, Nat.reduceAdd, Nat.reduceMul, Nat.reduceSub, Nat.reduceLeDiff, Nat.reduceEqDiff, Nat.reduceLT, Nat.reduceBEq, ↓reduceIte, Int.reduceLE, Int.reduceLT, Int.reduceToNat, Int.reduceNeg, reduceCtorEq, Int.reduceEq, SF0, SF1, SF2, DBc0, DBc1, DDb0, hr, Plan.len, Plan.take, Plan.g0, Plan.g1, Plan.g2, Plan.g3, Plan.g4, Plan.one, Plan.pure, Work.len, Work.take, Work.g0, Work.g1, Work.g2, Pane.len, Pane.take, Pane.g0, Pane.g1, Pane.g2, Pane.g3, Pane.one, Pane.pure]
        refine fin_val ⟨?_, rfl⟩
        rw [Plan.fits_down k p a b w h h2 hab]
        have e : (decide (1 ≤ p.at_) && decide (p.at_ ≤ w - 1)) = false := by simp; omega
        simp [e]
    · simp (disch := omega) only [SX0, SX1, SX2, SX3, SX4, SX5, SX6, SX7, SX8, SU0, SY0, SY1, Nat.reduceAdd, Nat.reduceMul, Nat.reduceSub, Nat.reduceLeDiff, Nat.reduceEqDiff, Nat.reduceLT, Nat.reduceBEq, ↓reduceIte, Int.reduceLE, Int.reduceLT, Int.reduceToNat, Int.reduceNeg, reduceCtorEq, Int.reduceEq, SF0, SF1, SF2, DBc0, DBc1, DDb0, Plan.len, Plan.take, Plan.g0, Plan.g1, Plan.g2, Plan.g3, Plan.g4, Plan.one, Plan.pure, Work.len, Work.take, Work.g0, Work.g1, Work.g2, Pane.len, Pane.take, Pane.g0, Pane.g1, Pane.g2, Pane.g3, Pane.one, Pane.pure]
      refine br_dec (fun h3 => ?_) (fun h3 => ?_)
      · simp (disch := omega) only [SX0, SX1, SX2, SX3, SX4, SX5, SX6, SX7, SX8, SU0, SY0, SY1, Nat.reduceAdd, Nat.reduceMul, Nat.reduceSub, Nat.reduceLeDiff, Nat.reduceEqDiff, Nat.reduceLT, Nat.reduceBEq, ↓reduceIte, Int.reduceLE, Int.reduceLT, Int.reduceToNat, Int.reduceNeg, reduceCtorEq, Int.reduceEq, SF0, SF1, SF2, DBc0, DBc1, DDb0, Plan.len, Plan.take, Plan.g0, Plan.g1, Plan.g2, Plan.g3, Plan.g4, Plan.one, Plan.pure, Work.len, Work.take, Work.g0, Work.g1, Work.g2, Pane.len, Pane.take, Pane.g0, Pane.g1, Pane.g2, Pane.g3, Pane.one, Pane.pure]
        obtain ⟨a, b, hab, ha, hb, na, nb⟩ := Plan.two hwf (.inr h3)
        refine awp_draw (bl := []) T_tt mixed 30 (by decide) (by kernel_rfl) (.inl rfl) (by kernel_rfl) ?_
        simp (disch := omega) only [SX0, SX1, SX2, SX3, SX4, SX5, SX6, SX7, SX8, SU0, SY0, SY1, Nat.reduceAdd, Nat.reduceMul, Nat.reduceSub, Nat.reduceLeDiff, Nat.reduceEqDiff, Nat.reduceLT, Nat.reduceBEq, ↓reduceIte, Int.reduceLE, Int.reduceLT, Int.reduceToNat, Int.reduceNeg, reduceCtorEq, Int.reduceEq, SF0, SF1, SF2, DBc0, DBc1, DDb0, hab, Plan.len, Plan.take, Plan.g0, Plan.g1, Plan.g2, Plan.g3, Plan.g4, Plan.one, Plan.pure, Work.len, Work.take, Work.g0, Work.g1, Work.g2, Pane.len, Pane.take, Pane.g0, Pane.g1, Pane.g2, Pane.g3, Pane.one, Pane.pure]
        refine qc_one (inRange_c _ _ _) rfl ?_
        simp (disch := omega) only [SX0, SX1, SX2, SX3, SX4, SX5, SX6, SX7, SX8, SU0, SY0, SY1, Nat.reduceAdd, Nat.reduceMul, Nat.reduceSub, Nat.reduceLeDiff, Nat.reduceEqDiff, Nat.reduceLT, Nat.reduceBEq, ↓reduceIte, Int.reduceLE, Int.reduceLT, Int.reduceToNat, Int.reduceNeg, reduceCtorEq, Int.reduceEq, SF0, SF1, SF2, DBc0, DBc1, DDb0]
        by_cases hr : 1 ≤ p.at_ ∧ p.at_ ≤ h - 1
        · simp (disch := omega) only [SX0, SX1, SX2, SX3, SX4, SX5, SX6, SX7, SX8, SU0, SY0, SY1, Nat.reduceAdd, Nat.reduceMul, Nat.reduceSub, Nat.reduceLeDiff, Nat.reduceEqDiff, Nat.reduceLT, Nat.reduceBEq, ↓reduceIte, Int.reduceLE, Int.reduceLT, Int.reduceToNat, Int.reduceNeg, reduceCtorEq, Int.reduceEq, SF0, SF1, SF2, DBc0, DBc1, DDb0, hr, hab, Plan.len, Plan.take, Plan.g0, Plan.g1, Plan.g2, Plan.g3, Plan.g4, Plan.one, Plan.pure, Work.len, Work.take, Work.g0, Work.g1, Work.g2, Pane.len, Pane.take, Pane.g0, Pane.g1, Pane.g2, Pane.g3, Pane.one, Pane.pure]
          refine qc_one (ih a w p.at_ (by omega) ha (by omega) (by omega)) (by simp [freeL, AV.free, Plan.free, Work.free]) ?_
          simp (disch := omega) only [SX0, SX1, SX2, SX3, SX4, SX5, SX6, SX7, SX8, SU0, SY0, SY1, Nat.reduceAdd, Nat.reduceMul, Nat.reduceSub, Nat.reduceLeDiff, Nat.reduceEqDiff, Nat.reduceLT, Nat.reduceBEq, ↓reduceIte, Int.reduceLE, Int.reduceLT, Int.reduceToNat, Int.reduceNeg, reduceCtorEq, Int.reduceEq, SF0, SF1, SF2, DBc0, DBc1, DDb0, hab, Plan.len, Plan.take, Plan.g0, Plan.g1, Plan.g2, Plan.g3, Plan.g4, Plan.one, Plan.pure, Work.len, Work.take, Work.g0, Work.g1, Work.g2, Pane.len, Pane.take, Pane.g0, Pane.g1, Pane.g2, Pane.g3, Pane.one, Pane.pure]
          refine br_bool (fun hc => ?_) (fun hc => ?_)
          · simp (disch := omega) only [SX0, SX1, SX2, SX3, SX4, SX5, SX6, SX7, SX8, SU0, SY0, SY1, Nat.reduceAdd, Nat.reduceMul, Nat.reduceSub, Nat.reduceLeDiff, Nat.reduceEqDiff, Nat.reduceLT, Nat.reduceBEq, ↓reduceIte, Int.reduceLE, Int.reduceLT, Int.reduceToNat, Int.reduceNeg, reduceCtorEq, Int.reduceEq, SF0, SF1, SF2, DBc0, DBc1, DDb0, hab, Plan.len, Plan.take, Plan.g0, Plan.g1, Plan.g2, Plan.g3, Plan.g4, Plan.one, Plan.pure, Work.len, Work.take, Work.g0, Work.g1, Work.g2, Pane.len, Pane.take, Pane.g0, Pane.g1, Pane.g2, Pane.g3, Pane.one, Pane.pure]
            refine qc_one (ih b w (h - p.at_) (by omega) hb (by omega) (by omega)) (by simp [freeL, AV.free, Plan.free, Work.free]) ?_
            simp (disch := omega) only [SX0, SX1, SX2, SX3, SX4, SX5, SX6, SX7, SX8, SU0, SY0, SY1, Nat.reduceAdd, Nat.reduceMul, Nat.reduceSub, Nat.reduceLeDiff, Nat.reduceEqDiff, Nat.reduceLT, Nat.reduceBEq, ↓reduceIte, Int.reduceLE, Int.reduceLT, Int.reduceToNat, Int.reduceNeg, reduceCtorEq, Int.reduceEq, SF0, SF1, SF2, DBc0, DBc1, DDb0, hab, Plan.len, Plan.take, Plan.g0, Plan.g1, Plan.g2, Plan.g3, Plan.g4, Plan.one, Plan.pure, Work.len, Work.take, Work.g0, Work.g1, Work.g2, Pane.len, Pane.take, Pane.g0, Pane.g1, Pane.g2, Pane.g3, Pane.one, Pane.pure]
            refine fin_val ⟨?_, rfl⟩
            rw [Plan.fits_across k p a b w h h3 hab]
            simp [hr, hc]
          · simp (disch := omega) only [SX0, SX1, SX2, SX3, SX4, SX5, SX6, SX7, SX8, SU0, SY0, SY1, Nat.reduceAdd, Nat.reduceMul, Nat.reduceSub, Nat.reduceLeDiff, Nat.reduceEqDiff, Nat.reduceLT, Nat.reduceBEq, ↓reduceIte, Int.reduceLE, Int.reduceLT, Int.reduceToNat, Int.reduceNeg, reduceCtorEq, Int.reduceEq, SF0, SF1, SF2, DBc0, DBc1, DDb0, hab, Plan.len, Plan.take, Plan.g0, Plan.g1, Plan.g2, Plan.g3, Plan.g4, Plan.one, Plan.pure, Work.len, Work.take, Work.g0, Work.g1, Work.g2, Pane.len, Pane.take, Pane.g0, Pane.g1, Pane.g2, Pane.g3, Pane.one, Pane.pure]
            refine fin_val ⟨?_, rfl⟩
            rw [Plan.fits_across k p a b w h h3 hab]
            simp [hc]
        · simp (disch := omega) only [SX0, SX1, SX2, SX3, SX4, SX5, SX6, SX7, SX8, SU0, SY0, SY1, Nat.reduceAdd, Nat.reduceMul, Nat.reduceSub, Nat.reduceLeDiff, Nat.reduceEqDiff, Nat.reduceLT, Nat.reduceBEq, ↓reduceIte, Int.reduceLE, Int.reduceLT, Int.reduceToNat, Int.reduceNeg, reduceCtorEq, Int.reduceEq, SF0, SF1, SF2, DBc0, DBc1, DDb0, hr, Plan.len, Plan.take, Plan.g0, Plan.g1, Plan.g2, Plan.g3, Plan.g4, Plan.one, Plan.pure, Work.len, Work.take, Work.g0, Work.g1, Work.g2, Pane.len, Pane.take, Pane.g0, Pane.g1, Pane.g2, Pane.g3, Pane.one, Pane.pure]
          refine fin_val ⟨?_, rfl⟩
          rw [Plan.fits_across k p a b w h h3 hab]
          have e : (decide (1 ≤ p.at_) && decide (p.at_ ≤ h - 1)) = false := by simp; omega
          simp [e]
      · simp (disch := omega) only [SX0, SX1, SX2, SX3, SX4, SX5, SX6, SX7, SX8, SU0, SY0, SY1, Nat.reduceAdd, Nat.reduceMul, Nat.reduceSub, Nat.reduceLeDiff, Nat.reduceEqDiff, Nat.reduceLT, Nat.reduceBEq, ↓reduceIte, Int.reduceLE, Int.reduceLT, Int.reduceToNat, Int.reduceNeg, reduceCtorEq, Int.reduceEq, SF0, SF1, SF2, DBc0, DBc1, DDb0, Plan.len, Plan.take, Plan.g0, Plan.g1, Plan.g2, Plan.g3, Plan.g4, Plan.one, Plan.pure, Work.len, Work.take, Work.g0, Work.g1, Work.g2, Pane.len, Pane.take, Pane.g0, Pane.g1, Pane.g2, Pane.g3, Pane.one, Pane.pure]
        refine fin_val ⟨?_, rfl⟩
        rw [Plan.fits_else k p w h h1 h2 h3]

theorem fitsS_c (k : Work) (hk : k.Ps.length < 2 ^ 40) (p : Plan) (w h : Int) (hp : p.wf = true) (hw : -1000000000000 ≤ w ∧ w ≤ 1000000000000) (hh : -1000000000000 ≤ h ∧ h ≤ 1000000000000) :
    ACalls Try.prog 152 [.agg k.cs, .agg p.cs, .val (.int .i64 w), .val (.int .i64 h)] [] [] (fun r L => r = .val (.bool (p.fits k w h)) ∧ L = []) := fitsS_n k hk _ p w h (Nat.le_refl _) hp hw hh

end Go.Pc
