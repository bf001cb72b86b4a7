/- Sets of a good poset: is it one, is an element in it. -/
import Derived.Test.YtcijgnfidipmaaaG
import Derived.Test.YtcijgnfidipmaaaB1
import Derived.Test.YtcijgnfidipmaaaB10
namespace Go.Proofs.Ytcijgnfidipmaaa.B
open Go.RowKit Go.Proofs.Ytcijgnfidipmaaa.M Go.Proofs.YtcijgnfidipmaaaW.PrintWords Go.Proofs.YtcijgnfidipmaaaW.PrintLast Go.Proofs.YtcijgnfidipmaaaW.PrintMore
attribute [local irreducible] Go.bits shl shr sd
theorem poIn_is {s e : Nat} (he : e ≤ 64) : spec_poIn.f (s : Int) (e : Int) = some (s.testBit e) := by
  unfold spec_poIn.f
  rw [if_pos (by omega)]
  congr 1
  have := bit_tmod (s := s) he
  cases hb : s.testBit e
  · rw [hb] at this; simpa using this
  · rw [hb] at this; simpa using this
/-- Is a number a set of elements? -/
def setB (l : List Int) (a : Int) : Bool := decide (0 ≤ a ∧ a ≤ ((2 ^ l.length - 1 : Nat) : Int))
theorem poSet_is (l : List Int) (hn : l.length ≤ 62) (a : Int) : spec_poSet.f l a = some (setB l a) := by
  unfold spec_poSet.f setB
  rw [mask_sub (by omega), l1In_is]
  rfl
theorem all_is (l : List Int) (hn : l.length ≤ 62) : impl_Poset_all.f l = some ((2 ^ l.length - 1 : Nat) : Int) := by
  unfold impl_Poset_all.f impl_Poset_n.f
  rw [Option.bind_some, if_pos (by omega), mask_sub (by omega)]
theorem goodB_length {l : List Int} (h : goodB l = true) : 1 ≤ l.length ∧ l.length ≤ 10 := by
  unfold goodB at h
  rw [Bool.and_eq_true, decide_eq_true_eq] at h
  omega
theorem isSet_ev (l : List Int) (a : Int) : Ev (fun k => impl_isSet.f k l a) (goodB l && setB l a) := by
  unfold impl_isSet.f
  refine Ev.bind (IsPoset_ev l) ?_
  cases hg : goodB l with
  | false => exact ev_as (Ev.now _) (fun k => by rw [if_neg (by decide)]; rfl)
  | true =>
    have := goodB_length hg
    rw [Bool.true_and]
    exact ev_as (Ev.now _) (fun k => by rw [if_pos rfl, all_is l (by omega), Option.bind_some, within_is]; rfl)
theorem set_nat {l : List Int} {a : Int} (h : setB l a = true) : ∃ s : Nat, a = (s : Int) ∧ s < 2 ^ l.length := by
  unfold setB at h
  rw [decide_eq_true_eq] at h
  have := Nat.one_le_two_pow (n := l.length)
  exact ⟨a.toNat, by omega, by omega⟩
end Go.Proofs.Ytcijgnfidipmaaa.B
