/- The program's search for the fewest groups. -/
import Derived.Test.YtkcpcmobmalijaaBka
import Derived.Test.YtkcpcmobmalijaaBse
set_option linter.unusedSimpArgs false
set_option linter.unusedVariables false
namespace Go.Pc
open Go Go.Proofs

/-- What is told of the sets below one. -/
def rowF (m : Nat → Nat) (N S : Nat) : List Int := (List.range N).map fun s => if s < S then (m s : Int) else 0
theorem rowF_len (m : Nat → Nat) (N S : Nat) : (rowF m N S).length = N := by simp [rowF]
theorem rowF_get {m : Nat → Nat} {N S s : Nat} (h : s < S) (hN : s < N) : (rowF m N S)[s]? = some (m s : Int) := by
  simp only [rowF, List.getElem?_map, List.getElem?_range hN, Option.map_some, if_pos h]
theorem rowF_one {m : Nat → Nat} {N : Nat} (h : m 0 = 0) : ints (rowF m N 1) = List.replicate N [.val (.int .i64 0)] := by
  apply List.ext_getElem
  · simp [rowF, ints]
  · intro i h1 h2
    simp only [ints, rowF, List.getElem_map, List.getElem_range, List.getElem_replicate]
    by_cases c : i < 1
    · have : i = 0 := by omega
      subst this
      rw [if_pos c, h]; rfl
    · rw [if_neg c]
theorem rowF_set {m : Nat → Nat} {N S : Nat} (h : S < N) : (rowF m N S).set S (m S : Int) = rowF m N (S + 1) := by
  apply List.ext_getElem
  · simp [rowF]
  · intro x h1 h2
    rw [List.getElem_set]
    simp only [rowF, List.getElem_map, List.getElem_range]
    by_cases e : S = x
    · subst e; rw [if_pos rfl, if_pos (by omega)]
    · rw [if_neg e]
      by_cases c : x < S
      · rw [if_pos c, if_pos (by omega)]
      · rw [if_neg c, if_neg (by omega)]

end Go.Pc
