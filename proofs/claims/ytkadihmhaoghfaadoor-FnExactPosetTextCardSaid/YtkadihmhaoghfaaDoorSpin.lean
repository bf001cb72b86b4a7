/- Is an element in a set. -/
import Derived.Test.YtkadihmhaoghfaaDoorG
import Derived.Test.YtkadihmhaoghfaaDoorB1
namespace Go.Proofs.YtkadihmhaoghfaaDoor.B
open Go.RowKit Go.Proofs.YtkadihmhaoghfaaDoor.M Go.Proofs.YtkadihmhaoghfaaDoorW.PrintWords Go.Proofs.YtkadihmhaoghfaaDoorW.PrintLast Go.Proofs.YtkadihmhaoghfaaDoorW.PrintMore
attribute [local irreducible] Go.bits shl shr sd
theorem poIn_is {s e : Nat} (he : e ≤ 64) : spec_poIn.f (s : Int) (e : Int) = some (s.testBit e) := by
  unfold spec_poIn.f
  rw [if_pos (by omega)]
  congr 1
  have := bit_tmod (s := s) he
  cases hb : s.testBit e
  · rw [hb] at this; simpa using this
  · rw [hb] at this; simpa using this
end Go.Proofs.YtkadihmhaoghfaaDoor.B
