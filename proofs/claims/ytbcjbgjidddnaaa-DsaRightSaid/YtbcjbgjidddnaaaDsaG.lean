/- A part of the proof: DgQ14, DgW2. -/
import Derived.Test.YtbcjbgjidddnaaaDsaF
set_option linter.unusedVariables false
namespace Go.Ax.TryP
open Go.Proofs
theorem d6X {ct c s e l y w : List Int} (hct : ct.length = 48) (ho : b7U c s e l y w) : J5 (c80 ct c s e l y w) 3248 61 = (b8H (hrow c w e l) 55).1 := by
 have hl := (c48 ho.2.2).2
 unfold J5 c80
 rw [List.drop_left' (d4c hct c s y 5), List.take_of_length_le (by omega)]
end Go.Ax.TryP
namespace Go.Ax.TryP
open Go.Proofs
end Go.Ax.TryP
