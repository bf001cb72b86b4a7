/- How many elements a set has: both sides, for sets of at most ten elements. -/
import Derived.Test.YtcijgnfidipmaaaS
import Derived.Test.YtcijgnfidipmaaaB13
namespace Go.Proofs.Ytcijgnfidipmaaa.B
open Go.RowKit Go.Proofs.Ytcijgnfidipmaaa.M Go.Proofs.YtcijgnfidipmaaaW.PrintWords Go.Proofs.YtcijgnfidipmaaaW.PrintLast Go.Proofs.YtcijgnfidipmaaaW.PrintMore
/-- How many elements a set has. -/
def pop (s : Nat) : Nat := (items s).length
theorem sizes_alike : ∀ s : Fin 1024, spec_obSize.f 12 (s.val : Int) = some ((pop s.val : Nat) : Int) ∧ impl_size.f (s.val : Int) = some ((pop s.val : Nat) : Int) := by decide +kernel
theorem obSize_ev {s : Nat} (hs : s < 1024) : Ev (fun k => spec_obSize.f k (s : Int)) ((pop s : Nat) : Int) := Ev.of (fun k => spec_obSize.mono _ k) (sizes_alike ⟨s, hs⟩).1
theorem size_is {s : Nat} (hs : s < 1024) : impl_size.f (s : Int) = some ((pop s : Nat) : Int) := (sizes_alike ⟨s, hs⟩).2
theorem lt1024 {s n : Nat} (hs : s < 2 ^ n) (hn : n ≤ 10) : s < 1024 := Nat.lt_of_lt_of_le hs (two_pow_le (j := 10) hn)
end Go.Proofs.Ytcijgnfidipmaaa.B
