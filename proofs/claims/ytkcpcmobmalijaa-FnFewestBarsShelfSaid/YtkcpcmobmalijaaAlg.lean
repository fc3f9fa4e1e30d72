/- The abstract logic: regions that draw their order, where guards are known. -/
import Derived.Test.YtkcpcmobmalijaaAlh
set_option linter.unusedSimpArgs false
set_option linter.unusedVariables false
namespace Go.Pc
open Go

section
variable {P : Program}

end

theorem ofV_undef : AV.ofV undef = .val undef := nrf rfl
theorem DAlg0 : type_of% @ofV_undef := @ofV_undef

end Go.Pc
