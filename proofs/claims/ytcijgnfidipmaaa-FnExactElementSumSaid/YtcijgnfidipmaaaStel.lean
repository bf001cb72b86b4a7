/- Is a number an element, as the reference asks. -/
import Derived.Test.YtcijgnfidipmaaaG
import Derived.Test.YtcijgnfidipmaaaB27
namespace Go.Proofs.Ytcijgnfidipmaaa.B
open Go.RowKit Go.Proofs.Ytcijgnfidipmaaa.M Go.Proofs.YtcijgnfidipmaaaW.PrintWords Go.Proofs.YtcijgnfidipmaaaW.PrintLast Go.Proofs.YtcijgnfidipmaaaW.PrintMore
attribute [local irreducible] Go.bits shl shr sd
def elB (P : List Nat) (e : Int) : Bool := decide (0 ≤ e ∧ e ≤ (P.length : Int) - 1)
theorem tgElement_is {l : List Int} {P : List Nat} (hP : Good l P) (e : Int) : spec_tgElement.f l e = some (elB P e) := by
  have hl := hP.length
  have hn := hP.n10
  have hn1 := hP.n1
  have hw : wrap64 ((l.length : Int) - 1) = (P.length : Int) - 1 := by rw [hl]; exact wrap64_id (by omega) (by omega)
  unfold spec_tgElement.f elB
  rw [hw, l1In_is, Option.bind_some]
theorem elB_nat {P : List Nat} {e : Int} (h : elB P e = true) : ∃ i : Nat, e = (i : Int) ∧ i < P.length := by
  unfold elB at h
  rw [decide_eq_true_eq] at h
  exact ⟨e.toNat, by omega, by omega⟩
end Go.Proofs.Ytcijgnfidipmaaa.B
