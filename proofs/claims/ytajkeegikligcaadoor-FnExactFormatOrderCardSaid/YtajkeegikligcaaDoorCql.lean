/- Texts of orders: the program's lineText. -/
import Derived.Test.YtajkeegikligcaaDoorCqb
import Derived.Test.YtajkeegikligcaaDoorCqk
set_option linter.unusedSimpArgs false
set_option linter.unusedVariables false
namespace Go.Pc
open Go Go.Proofs Go.Lib Go.RowKit

theorem below_growE {w w' : World} (hb : Below w.heap.size w w') : Grow w w' := ⟨hb.size, fun k hk _ => hb.block k hk, fun k c e f hc => ⟨c, by rw [hb.block k (Array.getElem?_eq_some_iff.1 hc).1]; exact hc, rfl⟩, hb.os, hb.output, hb.tape⟩

theorem itoa_calls (n : Nat) (hn : n ≤ 200) (W : World) (htab : TabIs Tryd.prog W "internal/strconv.uint64pow10" .u64 pow10Tab) :
    Calls Tryd.prog 46 #[.int .i64 n] W fun e W' => e = .returned (.string (strB (decDigits n))) ∧ Below W.heap.size W W' :=
  (itoa_raw n hn W htab).mono fun e W' ⟨h1, k, os, h2⟩ => ⟨h1, by rw [h2]; exact Lib.below_grow _ W (Nat.le_refl _) k os⟩

theorem qck_itoa {n : Int} (h : 0 ≤ n ∧ n ≤ 200) {L : List OB} {k : AV → Prop} (hk : k (.val (.string (strB (decDigits n.toNat))))) : QCK Tryd.prog KTab L (.fn 46 []) [.val (.int .i64 n)] k := by
  refine ⟨_, fun ρ w vf vs hr hK hvf hvl hv => ?_, hk⟩
  have hent : Enters Tryd.prog 46 := enters_of Tryd.func46 (by kernel_rfl) (by kernel_rfl)
  cases hvf with
  | pr hp => cases hp
  | fn f cv _ hs hc =>
  have hcv : cv = #[] := by
    cases cv with
    | mk l => cases l with
      | nil => rfl
      | cons x l => simp at hs
  subst hcv
  simp only [Deferred.ofValue, Sem.run_bind, Sem.run_pure, Result.andThen_ok, invoke, Array.empty_append, Array.append_empty]
  rw [hent]
  simp only [Out]
  obtain ⟨l⟩ := vs
  match l, hvl with
  | [v], _ =>
    have h1 := val_inv (hv 0 v _ rfl rfl)
    subst h1
    obtain ⟨m, rfl⟩ := Int.eq_ofNat_of_zero_le h.1
    refine (itoa_calls m (by omega) w hK.1).mono fun e w' ⟨he, hb⟩ => ?_
    exact ⟨_, he, .pr (.val _), (below_growE hb)⟩

/-- A row of texts. -/
def strs (xs : List (List UInt8)) : List (List AV) := xs.map fun x => [.val (.string (strB x))]

theorem join_c (x : List UInt8) (xs : List (List UInt8)) (sep : List UInt8) (hN : (x :: xs).length ≤ 1000) (hl : (Lib.join (x :: xs) sep).length ≤ 1000000) :
    ACalls Tryd.prog 53 [.sl (strs (x :: xs)), .val (.string (strB sep))] [] [] (fun r L => r = .val (.string (strB (Lib.join (x :: xs) sep))) ∧ L = []) := by
  refine ⟨enters_of Tryd.func53 (by kernel_rfl) (by kernel_rfl), fun ρ w vs hr hvl hv => ?_⟩
  obtain ⟨l⟩ := vs
  match l, hvl with
  | [v0, v1], _ =>
    have e1 := val_inv (hv 1 v1 _ rfl rfl)
    subst e1
    have h0 := hv 0 v0 _ rfl rfl
    cases h0 with
    | pr hp =>
      cases hp with
      | sl bk o k n c es cv hn h0 hc hk hown hlt hl' hcell hread =>
        have hk1 : k = 1 := by rw [← hl' 0 [.val (.string (strB x))] rfl]; rfl
        subst hk1
        simp only [strs, List.length_map] at hn
        subst hn
        have hmap : ((x :: xs).map strB).map (fun b : ByteArray => b.data.toList) = x :: xs := by
          rw [List.map_map]
          have : ((fun b : ByteArray => b.data.toList) ∘ strB) = id := by funext l; rfl
          rw [this, List.map_id]
        have hcells : ∀ (j : Nat) b, ((x :: xs).map strB)[j]? = some b → w.cell? ⟨bk, o + j, none⟩ = some (.string b) := fun j b hj => by
          rw [List.getElem?_map] at hj
          obtain ⟨y, hy, rfl⟩ := Option.map_eq_some_iff.1 hj
          have hrow : (strs (x :: xs))[j]? = some [.val (.string (strB y))] := by rw [strs, List.getElem?_map, hy]; rfl
          have h1 := hcell j 0 _ (.val (.string (strB y))) hrow rfl
          have h2 := hread j 0 _ (.val (.string (strB y))) hrow rfl
          have h3 := val_inv (.pr h2)
          rw [h3] at h1
          simpa using h1
        have hj := Tryd.strings_Join bk o c ((x :: xs).map strB) (strB sep) w hcells hlt (by rw [List.length_map]; omega) (by rw [List.length_map]; exact hc) (by rw [hmap]; show (Lib.join (x :: xs) sep).length ≤ _; omega)
        rw [hmap, List.length_map] at hj
        refine Calls.mono hj fun e w' ⟨he, hb⟩ => ?_
        exact ⟨_, _, [], ρ, he, ⟨rfl, rfl⟩, Nat.zero_le _, .pr (.val _), hr.grow (below_growE hb), .grow (below_growE hb)⟩

theorem join_txt (x : Ln) : Lib.join [decDigits x.N.toNat, decDigits x.P.W.toNat, decDigits x.P.H.toNat, wordT x.P.Tu, decDigits x.P.Ki.toNat] [32] = x.txt := by
  rw [Lib.join_cons]
  simp [Lib.joinTail, Ln.txt]

set_option maxRecDepth 8000 in
set_option maxHeartbeats 4000000 in
theorem lineText_k (x : Ln) (h : x.P.ok ∧ 1 ≤ x.N ∧ x.N ≤ 24) : ∀ (ρ : Env) (w : World) (vs : Array Value), KTab ρ w → HR w ρ [] → vs.size = 1 → (∀ (i : Nat) v x', vs[i]? = some v → [AV.agg x.cs][i]? = some x' → VR w ρ v x') →
    Calls Tryd.prog 35 vs w (fun e w' => ∃ v' res L' ρ', e = .returned v' ∧ (res = .val (.string (strB x.txt)) ∧ L' = []) ∧ ([] : List OB).length ≤ L'.length ∧ VR w' ρ' v' res ∧ HR w' ρ' L' ∧ St [] ρ w ρ' w') := by
  have S := KTab.stays
  have hlen := Ln.txt_len h.1 h.2.2
  obtain ⟨⟨h1, h2, h3⟩, h4, h5⟩ := h
  have J := join_c (decDigits x.N.toNat) [decDigits x.P.W.toNat, decDigits x.P.H.toNat, wordT x.P.Tu, decDigits x.P.Ki.toNat] [32] (by simp) (by rw [join_txt]; omega)
  rw [join_txt] at J
  have c32 : (⟨#[32]⟩ : ByteArray) = strB [32] := rfl
  have ct : (⟨#[116, 117, 114, 110, 115]⟩ : ByteArray) = strB (wordT true) := rfl
  have cf : (⟨#[102, 105, 120, 101, 100]⟩ : ByteArray) = strB (wordT false) := rfl
  simp only [strs, List.map_cons, List.map_nil] at J
  refine callsK_intro (args := [.agg x.cs]) (L0 := []) (R := fun r L => r = .val (.string (strB x.txt)) ∧ L = []) T_tt Tryd.func35 rfl 24 rfl (rv := [.tmp 2]) rfl (W8 _ .any .any .any .any .any .any .any (W8 .any .any .any .any .any .any .any .any (W8 .any .any .any .any .any .any .any .any [.any]))) rfl ?_
  refine awpK_seq S (sx_sound (bl := []) T_tt _ _ _ ?_)
  simp (disch := omega) only [SX0, SX1, SX2, SX3, SX4, SX5, SX6, SX7, SX8, SU0, SY0, SY1, Nat.reduceAdd, Nat.reduceMul, Nat.reduceSub, Nat.reduceLeDiff, Nat.reduceEqDiff, Nat.reduceLT, Nat.reduceBEq, ↓reduceIte, Int.reduceLE, Int.reduceLT, Int.reduceToNat, Int.reduceNeg, reduceCtorEq, Int.reduceEq, SF0, SF1, SF2, DCqa0, DCqa1, DCqa2, DCe0, DCe1, DCe2, DDb0, DBc0, DBc1, DLa0, DCg0, DCqk0, DCpd0]
  refine kthen_n (awpK_seq S (sx_sound (bl := []) T_tt _ _ _ ?_))
  simp (disch := omega) only [SX0, SX1, SX2, SX3, SX4, SX5, SX6, SX7, SX8, SU0, SY0, SY1, Nat.reduceAdd, Nat.reduceMul, Nat.reduceSub, Nat.reduceLeDiff, Nat.reduceEqDiff, Nat.reduceLT, Nat.reduceBEq, ↓reduceIte, Int.reduceLE, Int.reduceLT, Int.reduceToNat, Int.reduceNeg, reduceCtorEq, Int.reduceEq, SF0, SF1, SF2, DCqa0, DCqa1, DCqa2, DCe0, DCe1, DCe2, DDb0, DBc0, DBc1, DLa0, DCg0, DCqk0, DCpd0]
  refine kthen_n (awpK_seq S (sx_sound (bl := []) T_tt _ _ _ ?_))
  simp (disch := omega) only [SX0, SX1, SX2, SX3, SX4, SX5, SX6, SX7, SX8, SU0, SY0, SY1, Nat.reduceAdd, Nat.reduceMul, Nat.reduceSub, Nat.reduceLeDiff, Nat.reduceEqDiff, Nat.reduceLT, Nat.reduceBEq, ↓reduceIte, Int.reduceLE, Int.reduceLT, Int.reduceToNat, Int.reduceNeg, reduceCtorEq, Int.reduceEq, SF0, SF1, SF2, DCqa0, DCqa1, DCqa2, DCe0, DCe1, DCe2, DDb0, DBc0, DBc1, DLa0, DCg0, DCqk0, DCpd0]
  cases htu : x.P.Tu
  all_goals
    rw [htu] at J
    simp (disch := omega) only [SX0, SX1, SX2, SX3, SX4, SX5, SX6, SX7, SX8, SU0, SY0, SY1, Nat.reduceAdd, Nat.reduceMul, Nat.reduceSub, Nat.reduceLeDiff, Nat.reduceEqDiff, Nat.reduceLT, Nat.reduceBEq, ↓reduceIte, Int.reduceLE, Int.reduceLT, Int.reduceToNat, Int.reduceNeg, reduceCtorEq, Int.reduceEq, SF0, SF1, SF2, DCqa0, DCqa1, DCqa2, DCe0, DCe1, DCe2, DDb0, DBc0, DBc1, DLa0, DCg0, DCqk0, DCpd0, htu, ct, cf, c32]
    refine kthen_n (awpK_seqK S (awpK_draw (bl := []) S T_tt mixed 16 (by decide) (by kernel_rfl) (.inr ⟨by kernel_rfl, by kernel_rfl⟩) (by kernel_rfl) ?_))
    repeat' first | simp (disch := omega) only [SX0, SX1, SX2, SX3, SX4, SX5, SX6, SX7, SX8, SU0, SY0, SY1, Nat.reduceAdd, Nat.reduceMul, Nat.reduceSub, Nat.reduceLeDiff, Nat.reduceEqDiff, Nat.reduceLT, Nat.reduceBEq, ↓reduceIte, Int.reduceLE, Int.reduceLT, Int.reduceToNat, Int.reduceNeg, reduceCtorEq, Int.reduceEq, SF0, SF1, SF2, DCqa0, DCqa1, DCqa2, DCe0, DCe1, DCe2, DDb0, DBc0, DBc1, DLa0, DCg0, DCqk0, DCpd0, ct, cf, c32] | refine qck_itoa (by omega) ?_ | refine acall_one J (by rfl) rfl ?_ | fail
    refine kthen_n (awpK_of (sx_sound (bl := []) T_tt _ _ _ ?_))
    simp (disch := omega) only [SX0, SX1, SX2, SX3, SX4, SX5, SX6, SX7, SX8, SU0, SY0, SY1, Nat.reduceAdd, Nat.reduceMul, Nat.reduceSub, Nat.reduceLeDiff, Nat.reduceEqDiff, Nat.reduceLT, Nat.reduceBEq, ↓reduceIte, Int.reduceLE, Int.reduceLT, Int.reduceToNat, Int.reduceNeg, reduceCtorEq, Int.reduceEq, SF0, SF1, SF2, DCqa0, DCqa1, DCqa2, DCe0, DCe1, DCe2, DDb0, DBc0, DBc1, DLa0, DCg0, DCqk0, DCpd0]
    exact fin_val ⟨rfl, rfl⟩
end Go.Pc
