/- Texts that are read: orders, in the reference. -/
import Derived.Test.YtajkeegikligcaaDoorCrc
set_option linter.unusedSimpArgs false
set_option linter.unusedVariables false
namespace Go.Pc
open Go Go.Proofs Go.Lib

def readAll : List (List UInt8) → Option (List Ln)
  | [] => some []
  | t :: ts => (rlS (sp 32 t)).bind fun x => (readAll ts).map (x :: ·)
theorem readAll_snoc (l : List (List UInt8)) (t : List UInt8) : readAll (l ++ [t]) = (readAll l).bind fun ls => (rlS (sp 32 t)).map fun x => ls ++ [x] := by
  induction l with
  | nil => simp [readAll]; cases rlS (sp 32 t) <;> rfl
  | cons u l ih =>
    simp only [List.cons_append, readAll, ih]
    cases rlS (sp 32 u) <;> simp
    cases readAll l <;> simp
    cases rlS (sp 32 t) <;> rfl
theorem readAll_none {l : List (List UInt8)} {t : List UInt8} (h : t ∈ l) (ht : rlS (sp 32 t) = none) : readAll l = none := by
  induction l with
  | nil => cases h
  | cons u l ih =>
    simp only [readAll]
    rcases List.mem_cons.1 h with rfl | h
    · rw [ht]; rfl
    · rw [ih h]; cases rlS (sp 32 u) <;> rfl
theorem readAll_len {l : List (List UInt8)} : ∀ {ls : List Ln}, readAll l = some ls → ls.length = l.length := by
  induction l with
  | nil => intro ls h; simp [readAll] at h; simp [← h]
  | cons u l ih =>
    intro ls h
    simp only [readAll] at h
    cases h1 : rlS (sp 32 u) with
    | none => simp [h1] at h
    | some x =>
      cases h2 : readAll l with
      | none => simp [h1, h2] at h
      | some m => simp [h1, h2] at h; rw [← h]; simp [ih h2]

/-- The order of a text, if it is one. -/
def ordOf (s : List UInt8) : Option (List Ln) := match readAll (sp 10 s).dropLast with
  | some ls => if (sp 10 s).getLast? = some [] ∧ ordOk ls then some ls else none
  | none => none
theorem ordOf_none {s : List UInt8} (h : readAll (sp 10 s).dropLast = none) : ordOf s = none := by unfold ordOf; rw [h]
theorem ordOf_no {s : List UInt8} {ls : List Ln} (h : readAll (sp 10 s).dropLast = some ls) (h2 : ¬ ((sp 10 s).getLast? = some [] ∧ ordOk ls)) : ordOf s = none := by unfold ordOf; rw [h]; simp only; rw [if_neg h2]
theorem ordOf_some {s : List UInt8} {ls : List Ln} (h : readAll (sp 10 s).dropLast = some ls) (h2 : (sp 10 s).getLast? = some [] ∧ ordOk ls) : ordOf s = some ls := by unfold ordOf; rw [h]; simp only; rw [if_pos h2]
theorem ordOf_ok {s : List UInt8} {ls : List Ln} (h : ordOf s = some ls) : ordOk ls := by
  unfold ordOf at h
  split at h
  · split at h
    · rename_i hc; cases h; exact hc.2
    · cases h
  · cases h

def ordR (o : Option (List Ln)) : AV := match o with
  | some ls => .tup [.sl (ls.map Ln.cs), .val (.bool true)]
  | none => .tup [.val (.slice none 0 0), .val (.bool false)]
theorem ordR_some (ls : List Ln) : ordR (some ls) = .tup [.sl (ls.map Ln.cs), .val (.bool true)] := rfl
theorem ordR_none : ordR none = .tup [.val (.slice none 0 0), .val (.bool false)] := rfl

theorem zLn_one : zLn.all AV.one = true := rfl
theorem DCrd0 : type_of% @zLn_one := @zLn_one

theorem e_parseOrderS : Enters Tryd.prog 16 := enters_of Tryd.func16 (by kernel_rfl) (by kernel_rfl)
set_option maxRecDepth 8000 in
set_option maxHeartbeats 4000000 in
theorem parseOrderS_c (s : List UInt8) (hs : s.length ≤ 1048576) : ACalls Tryd.prog 16 [.val (.string (strB s))] [] [] (fun r L => r = ordR (ordOf s) ∧ L = []) := by
  have c0 : (⟨#[]⟩ : ByteArray) = strB [] := rfl
  have hsp := splitAt_c s 10 hs
  have hlen := sp_len 10 s
  have hne := sp_ne 10 s
  have hmem : ∀ t ∈ sp 10 s, t.length ≤ 1048576 := fun t ht => Nat.le_trans (sp_mem_len ht) hs
  have hpos := List.length_pos_iff.2 hne
  have sl : (strs (sp 10 s)).length = (sp 10 s).length := by simp [strs]
  have sg : ∀ (i : Nat) w, (sp 10 s)[i]? = some w → (strs (sp 10 s))[i]? = some [AV.val (.string (strB w))] := fun i w h => by simp [strs, h]
  have hdl : (sp 10 s).dropLast = (sp 10 s).take ((sp 10 s).length - 1) := List.dropLast_eq_take
  have hgl : (sp 10 s).getLast? = (sp 10 s)[(sp 10 s).length - 1]? := List.getLast?_eq_getElem?
  have b10 : (((10 : UInt8).toNat : Nat) : Int) = 10 := rfl
  rw [b10] at hsp
  have bad : ordOf s = none → ∀ {s' : AS}, Fin [] 0 (fun r L => r = ordR (ordOf s) ∧ L = []) s' (.tup [.val (.slice none 0 0), .val (.bool false)]) := fun h s' => fin_free rfl ⟨by rw [h]; rfl, rfl⟩
  refine acalls_tm T_tt Tryd.func16 rfl e_parseOrderS 46 rfl (W8 _ .any .any .any .any .any .any .any (W8 .any .any .any .any .any .any .any .any (W8 .any .any .any .any .any .any .any .any (W8 .any .any .any .any .any .any .any .any (W8 .any .any .any .any .any .any .any .any [.any, .any, .any, .any, .any, .any, .any]))))) rfl (rv := [.tmp 2, .tmp 3]) rfl (sx_sound (bl := [9]) T_tt _ _ _ ?_)
  simp (disch := omega) only [SX0, SX1, SX2, SX3, SX4, SX5, SX6, SX7, SX8, SU0, SY0, SY1, Nat.reduceAdd, Nat.reduceMul, Nat.reduceSub, Nat.reduceLeDiff, Nat.reduceEqDiff, Nat.reduceLT, Nat.reduceBEq, ↓reduceIte, Int.reduceLE, Int.reduceLT, Int.reduceToNat, Int.reduceNeg, reduceCtorEq, Int.reduceEq, SF0, SF1, SF2, DCqa0, DCqa1, DCqa2, DCe0, DCe1, DCe2, DDb0, DBc0, DBc1, DLa0, DCg0, DCqk0, DCpd0, DCrk0, DCrd0]
  refine acall_one hsp rfl rfl ?_
  have ON := @ordOf_none s
  have ON2 := @ordOf_no s
  have OS := @ordOf_some s
  generalize sp 10 s = lines at *
  simp (disch := omega) only [SX0, SX1, SX2, SX3, SX4, SX5, SX6, SX7, SX8, SU0, SY0, SY1, Nat.reduceAdd, Nat.reduceMul, Nat.reduceSub, Nat.reduceLeDiff, Nat.reduceEqDiff, Nat.reduceLT, Nat.reduceBEq, ↓reduceIte, Int.reduceLE, Int.reduceLT, Int.reduceToNat, Int.reduceNeg, reduceCtorEq, Int.reduceEq, SF0, SF1, SF2, DCqa0, DCqa1, DCqa2, DCe0, DCe1, DCe2, DDb0, DBc0, DBc1, DLa0, DCg0, DCqk0, DCpd0, DCrk0, DCrd0, sl]
  with_reducible refine awp_loop_h (G := Nat × List Ln) 4 43 (fun g => [(4, .os 0 5 0 g.1), (5, .sl (strs lines)), (6, .val (.int .i64 g.1))]) (fun g => [.vec 5 (g.2.map Ln.cs)]) (fun g => g.1 + 1 ≤ lines.length ∧ readAll (lines.take g.1) = some g.2) (fun g => lines.length - g.1) (0, []) ⟨by omega, by simp [readAll]⟩ ?_ (fun g hg => sx_sound (bl := [9]) T_tt _ _ _ ?_)
  · simp (disch := omega) only [SX0, SX1, SX2, SX3, SX4, SX5, SX6, SX7, SX8, SU0, SY0, SY1, Nat.reduceAdd, Nat.reduceMul, Nat.reduceSub, Nat.reduceLeDiff, Nat.reduceEqDiff, Nat.reduceLT, Nat.reduceBEq, ↓reduceIte, Int.reduceLE, Int.reduceLT, Int.reduceToNat, Int.reduceNeg, reduceCtorEq, Int.reduceEq, SF0, SF1, SF2, DCqa0, DCqa1, DCqa2, DCe0, DCe1, DCe2, DDb0, DBc0, DBc1, DLa0, DCg0, DCqk0, DCpd0, DCrk0, DCrd0]
    (refine wk_le ?_ ?_ ?_; (focus (simp [W8, leTm, leAV, AV.under, underL, strs]; done)); (focus (simp [leL, OB.under, underL, AV.under, strs]; done)); (focus (simp; done)))
  simp (disch := omega) only [SX0, SX1, SX2, SX3, SX4, SX5, SX6, SX7, SX8, SU0, SY0, SY1, Nat.reduceAdd, Nat.reduceMul, Nat.reduceSub, Nat.reduceLeDiff, Nat.reduceEqDiff, Nat.reduceLT, Nat.reduceBEq, ↓reduceIte, Int.reduceLE, Int.reduceLT, Int.reduceToNat, Int.reduceNeg, reduceCtorEq, Int.reduceEq, SF0, SF1, SF2, DCqa0, DCqa1, DCqa2, DCe0, DCe1, DCe2, DDb0, DBc0, DBc1, DLa0, DCg0, DCqk0, DCpd0, DCrk0, DCrd0, sl]
  obtain ⟨i, ls⟩ := g
  obtain ⟨hi, hra⟩ := hg
  simp only at hi hra
  have hll := readAll_len hra
  rw [List.length_take, Nat.min_eq_left (by omega)] at hll
  refine br_dec (fun h1 => ?_) (fun h1 => ?_)
  · obtain ⟨t, ht⟩ := get_lt (l := lines) (i := i) (by omega)
    have htm := List.mem_of_getElem? ht
    have htl := hmem t htm
    have hs2 := splitAt_c t 32 htl
    have b32 : (((32 : UInt8).toNat : Nat) : Int) = 32 := rfl
    rw [b32] at hs2
    have hr2 := readLineS_c (sp 32 t) (by have := sp_len 32 t; omega) fun w hw => Nat.le_trans (sp_mem_len hw) htl
    simp (disch := omega) only [SX0, SX1, SX2, SX3, SX4, SX5, SX6, SX7, SX8, SU0, SY0, SY1, Nat.reduceAdd, Nat.reduceMul, Nat.reduceSub, Nat.reduceLeDiff, Nat.reduceEqDiff, Nat.reduceLT, Nat.reduceBEq, ↓reduceIte, Int.reduceLE, Int.reduceLT, Int.reduceToNat, Int.reduceNeg, reduceCtorEq, Int.reduceEq, SF0, SF1, SF2, DCqa0, DCqa1, DCqa2, DCe0, DCe1, DCe2, DDb0, DBc0, DBc1, DLa0, DCg0, DCqk0, DCpd0, DCrk0, DCrd0, sl, sg i t ht]
    refine acall_one hs2 rfl rfl ?_
    simp (disch := omega) only [SX0, SX1, SX2, SX3, SX4, SX5, SX6, SX7, SX8, SU0, SY0, SY1, Nat.reduceAdd, Nat.reduceMul, Nat.reduceSub, Nat.reduceLeDiff, Nat.reduceEqDiff, Nat.reduceLT, Nat.reduceBEq, ↓reduceIte, Int.reduceLE, Int.reduceLT, Int.reduceToNat, Int.reduceNeg, reduceCtorEq, Int.reduceEq, SF0, SF1, SF2, DCqa0, DCqa1, DCqa2, DCe0, DCe1, DCe2, DDb0, DBc0, DBc1, DLa0, DCg0, DCqk0, DCpd0, DCrk0, DCrd0]
    cases hrl : rlS (sp 32 t) with
    | none =>
      rw [hrl, lnR_none] at hr2
      refine acall_one hr2 rfl rfl ?_
      simp (disch := omega) only [SX0, SX1, SX2, SX3, SX4, SX5, SX6, SX7, SX8, SU0, SY0, SY1, Nat.reduceAdd, Nat.reduceMul, Nat.reduceSub, Nat.reduceLeDiff, Nat.reduceEqDiff, Nat.reduceLT, Nat.reduceBEq, ↓reduceIte, Int.reduceLE, Int.reduceLT, Int.reduceToNat, Int.reduceNeg, reduceCtorEq, Int.reduceEq, SF0, SF1, SF2, DCqa0, DCqa1, DCqa2, DCe0, DCe1, DCe2, DDb0, DBc0, DBc1, DLa0, DCg0, DCqk0, DCpd0, DCrk0, DCrd0]
      refine bad (ON (readAll_none (t := t) ?_ hrl))
      rw [hdl]
      exact List.mem_of_getElem? (i := i) (by rw [List.getElem?_take_of_lt (by omega)]; exact ht)
    | some x =>
      rw [hrl, lnR_some] at hr2
      refine acall_one hr2 rfl rfl ?_
      simp (disch := omega) only [SX0, SX1, SX2, SX3, SX4, SX5, SX6, SX7, SX8, SU0, SY0, SY1, Nat.reduceAdd, Nat.reduceMul, Nat.reduceSub, Nat.reduceLeDiff, Nat.reduceEqDiff, Nat.reduceLT, Nat.reduceBEq, ↓reduceIte, Int.reduceLE, Int.reduceLT, Int.reduceToNat, Int.reduceNeg, reduceCtorEq, Int.reduceEq, SF0, SF1, SF2, DCqa0, DCqa1, DCqa2, DCe0, DCe1, DCe2, DDb0, DBc0, DBc1, DLa0, DCg0, DCqk0, DCpd0, DCrk0, DCrd0]
      refine req (by omega) ?_
      simp (disch := omega) only [SX0, SX1, SX2, SX3, SX4, SX5, SX6, SX7, SX8, SU0, SY0, SY1, Nat.reduceAdd, Nat.reduceMul, Nat.reduceSub, Nat.reduceLeDiff, Nat.reduceEqDiff, Nat.reduceLT, Nat.reduceBEq, ↓reduceIte, Int.reduceLE, Int.reduceLT, Int.reduceToNat, Int.reduceNeg, reduceCtorEq, Int.reduceEq, SF0, SF1, SF2, DCqa0, DCqa1, DCqa2, DCe0, DCe1, DCe2, DDb0, DBc0, DBc1, DLa0, DCg0, DCqk0, DCpd0, DCrk0, DCrd0]
      refine ⟨(i + 1, ls ++ [x]), ⟨by simp only; omega, ?_⟩, by simp only; omega, ?_⟩
      · simp only
        rw [List.take_add_one, ht, Option.toList_some, readAll_snoc, hra, hrl]
        rfl
      · simp only [List.map_append, List.map_cons, List.map_nil]
        (refine wk_le ?_ ?_ ?_; (focus (simp [W8, leTm, leAV, AV.under, underL, strs]; done)); (focus (simp [leL, OB.under, underL, AV.under, strs]; done)); (focus (simp; done)))
  · have hil : i = lines.length - 1 := by omega
    have hra' := hra
    rw [hil, ← hdl] at hra'
    obtain ⟨t, ht⟩ := get_lt (l := lines) (i := lines.length - 1) (by omega)
    have e1 : (lines.length : Int) - 1 = ((lines.length - 1 : Nat) : Int) := by omega
    simp (disch := omega) only [SX0, SX1, SX2, SX3, SX4, SX5, SX6, SX7, SX8, SU0, SY0, SY1, Nat.reduceAdd, Nat.reduceMul, Nat.reduceSub, Nat.reduceLeDiff, Nat.reduceEqDiff, Nat.reduceLT, Nat.reduceBEq, ↓reduceIte, Int.reduceLE, Int.reduceLT, Int.reduceToNat, Int.reduceNeg, reduceCtorEq, Int.reduceEq, SF0, SF1, SF2, DCqa0, DCqa1, DCqa2, DCe0, DCe1, DCe2, DDb0, DBc0, DBc1, DLa0, DCg0, DCqk0, DCpd0, DCrk0, DCrd0, sl, e1, sg _ t ht, c0, strB_inj]
    have hlast : lines.getLast? = some t := by rw [hgl, ht]
    refine br_ndec (fun h2 => ?_) (fun h2 => ?_)
    · simp (disch := omega) only [SX0, SX1, SX2, SX3, SX4, SX5, SX6, SX7, SX8, SU0, SY0, SY1, Nat.reduceAdd, Nat.reduceMul, Nat.reduceSub, Nat.reduceLeDiff, Nat.reduceEqDiff, Nat.reduceLT, Nat.reduceBEq, ↓reduceIte, Int.reduceLE, Int.reduceLT, Int.reduceToNat, Int.reduceNeg, reduceCtorEq, Int.reduceEq, SF0, SF1, SF2, DCqa0, DCqa1, DCqa2, DCe0, DCe1, DCe2, DDb0, DBc0, DBc1, DLa0, DCg0, DCqk0, DCpd0, DCrk0, DCrd0]
      refine bad (ON2 hra' fun hh => h2 ?_)
      have := hh.1
      rw [hlast] at this
      exact Option.some.inj this
    · simp (disch := omega) only [SX0, SX1, SX2, SX3, SX4, SX5, SX6, SX7, SX8, SU0, SY0, SY1, Nat.reduceAdd, Nat.reduceMul, Nat.reduceSub, Nat.reduceLeDiff, Nat.reduceEqDiff, Nat.reduceLT, Nat.reduceBEq, ↓reduceIte, Int.reduceLE, Int.reduceLT, Int.reduceToNat, Int.reduceNeg, reduceCtorEq, Int.reduceEq, SF0, SF1, SF2, DCqa0, DCqa1, DCqa2, DCe0, DCe1, DCe2, DDb0, DBc0, DBc1, DLa0, DCg0, DCqk0, DCpd0, DCrk0, DCrd0]
      refine acall_tell (validOrderS_c ls (by omega)) (by exact ⟨.row 0 5 i _ rfl (by simp; omega), trivial⟩) ?_
      simp (disch := omega) only [SX0, SX1, SX2, SX3, SX4, SX5, SX6, SX7, SX8, SU0, SY0, SY1, Nat.reduceAdd, Nat.reduceMul, Nat.reduceSub, Nat.reduceLeDiff, Nat.reduceEqDiff, Nat.reduceLT, Nat.reduceBEq, ↓reduceIte, Int.reduceLE, Int.reduceLT, Int.reduceToNat, Int.reduceNeg, reduceCtorEq, Int.reduceEq, SF0, SF1, SF2, DCqa0, DCqa1, DCqa2, DCe0, DCe1, DCe2, DDb0, DBc0, DBc1, DLa0, DCg0, DCqk0, DCpd0, DCrk0, DCrd0]
      refine br_ndec (fun h3 => ?_) (fun h3 => ?_)
      · simp (disch := omega) only [SX0, SX1, SX2, SX3, SX4, SX5, SX6, SX7, SX8, SU0, SY0, SY1, Nat.reduceAdd, Nat.reduceMul, Nat.reduceSub, Nat.reduceLeDiff, Nat.reduceEqDiff, Nat.reduceLT, Nat.reduceBEq, ↓reduceIte, Int.reduceLE, Int.reduceLT, Int.reduceToNat, Int.reduceNeg, reduceCtorEq, Int.reduceEq, SF0, SF1, SF2, DCqa0, DCqa1, DCqa2, DCe0, DCe1, DCe2, DDb0, DBc0, DBc1, DLa0, DCg0, DCqk0, DCpd0, DCrk0, DCrd0]
        exact bad (ON2 hra' fun hh => h3 hh.2)
      · rw [OS hra' ⟨by rw [hlast, h2], h3⟩, ordR_some]
        simp (disch := omega) only [SX0, SX1, SX2, SX3, SX4, SX5, SX6, SX7, SX8, SU0, SY0, SY1, Nat.reduceAdd, Nat.reduceMul, Nat.reduceSub, Nat.reduceLeDiff, Nat.reduceEqDiff, Nat.reduceLT, Nat.reduceBEq, ↓reduceIte, Int.reduceLE, Int.reduceLT, Int.reduceToNat, Int.reduceNeg, reduceCtorEq, Int.reduceEq, SF0, SF1, SF2, DCqa0, DCqa1, DCqa2, DCe0, DCe1, DCe2, DDb0, DBc0, DBc1, DLa0, DCg0, DCqk0, DCpd0, DCrk0, DCrd0]
        refine fin_frz (r := 0) (k := 5) rfl (by simp) ?_
        simp only [AV.frz, frzL, if_true, Nat.zero_add, true_and, List.length_map, List.drop_zero]
        rw [if_pos (by omega), List.take_of_length_le (by simp; omega)]
        exact fin_free rfl ⟨rfl, rfl⟩
end Go.Pc
