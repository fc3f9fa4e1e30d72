/- Numbers in a row: equal ones, sums; sums of areas. -/
import Derived.Test.YtkcpcmobmalijaaCg
set_option linter.unusedSimpArgs false
set_option linter.unusedVariables false
namespace Go.Pc
open Go Go.Proofs

def ints (l : List Int) : List (List AV) := l.map fun x => [.val (.int .i64 x)]
theorem ints_x (l : List Int) : ints l = l.map fun x => [.val (.int .i64 x)] := rfl
theorem DHa0 : type_of% @ints_x := @ints_x

end Go.Pc
