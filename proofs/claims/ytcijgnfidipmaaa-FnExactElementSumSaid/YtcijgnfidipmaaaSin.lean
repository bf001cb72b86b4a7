/- Is it a good poset, and a set an ideal of it: both sides. -/
import Derived.Test.YtcijgnfidipmaaaSidl
import Derived.Test.YtcijgnfidipmaaaSclose
import Derived.Test.YtcijgnfidipmaaaB10
namespace Go.Proofs.Ytcijgnfidipmaaa.B
open Go.RowKit Go.Proofs.Ytcijgnfidipmaaa.M Go.Proofs.YtcijgnfidipmaaaW.PrintWords Go.Proofs.YtcijgnfidipmaaaW.PrintLast Go.Proofs.YtcijgnfidipmaaaW.PrintMore
attribute [local irreducible] Go.bits shl shr sd
/-- Is it a good poset, and a number an ideal of it? -/
def inB (l : List Int) (a : Int) : Bool := goodB l && (setB l a && idl (l.map Int.toNat) a.toNat)
theorem Good.nat {l : List Int} {P : List Nat} (h : Good l P) : l.map Int.toNat = P := by
  rw [h.eq]
  unfold cast
  rw [List.map_map]
  conv => rhs; rw [← List.map_id P]
  congr 1
theorem in_nat {l : List Int} {a : Int} (h : inB l a = true) : ∃ P, ∃ s : Nat, Good l P ∧ a = (s : Int) ∧ s < 2 ^ P.length ∧ idl P s = true := by
  unfold inB at h
  rw [Bool.and_eq_true, Bool.and_eq_true] at h
  obtain ⟨P, hP⟩ := good_of h.1
  obtain ⟨s, rfl, hs⟩ := set_nat h.2.1
  have hl := hP.length
  have hi := h.2.2
  rw [hP.nat, Int.toNat_natCast] at hi
  exact ⟨P, s, hP, rfl, by rw [show P.length = l.length by omega]; exact hs, hi⟩
theorem tgIn_ev (l : List Int) (a : Int) : Ev (fun k => spec_tgIn.f k l a) (inB l a) := by
  unfold spec_tgIn.f inB
  refine Ev.bind (poGood_ev l) ?_
  cases hg : goodB l with
  | false => exact ev_as (Ev.now _) (fun k => by rw [if_neg (by decide)]; rfl)
  | true =>
    have hlen := goodB_length hg
    rw [Bool.true_and]
    cases hs : setB l a with
    | false => exact ev_as (Ev.now _) (fun k => by rw [if_pos rfl, poSet_is l (by omega), hs, Option.bind_some, if_neg (by decide)]; rfl)
    | true =>
      obtain ⟨P, hP⟩ := good_of hg
      obtain ⟨s, rfl, hs2⟩ := set_nat hs
      have hl := hP.length
      rw [hP.nat, Int.toNat_natCast, Bool.true_and]
      exact ev_bind (poIdeal_ev hP (by rw [show P.length = l.length by omega]; exact hs2)) (Ev.now _) (fun k => by rw [if_pos rfl, poSet_is l (by omega), hs, Option.bind_some, if_pos rfl])
theorem isIdeal_ev (l : List Int) (a : Int) : Ev (fun k => impl_isIdeal.f k l a) (inB l a) := by
  unfold impl_isIdeal.f inB
  refine Ev.bind (isSet_ev l a) ?_
  cases hg : goodB l with
  | false => exact ev_as (Ev.now _) (fun k => by rw [Bool.false_and, if_neg (by decide)]; rfl)
  | true =>
    have hlen := goodB_length hg
    rw [Bool.true_and, Bool.true_and]
    cases hs : setB l a with
    | false => exact ev_as (Ev.now _) (fun k => by rw [if_neg (by decide)]; rfl)
    | true =>
      obtain ⟨P, hP⟩ := good_of hg
      obtain ⟨s, rfl, hs2⟩ := set_nat hs
      have hl := hP.length
      rw [hP.nat, Int.toNat_natCast, Bool.true_and, idl_dn]
      refine ev_bind (close_ev hP (by rw [show P.length = l.length by omega]; exact hs2)) (ev_eq (Ev.now _) ?_) (fun k => by rw [if_pos rfl])
      rw [Bool.eq_iff_iff, beq_iff_eq, decide_eq_true_eq]
      omega
end Go.Proofs.Ytcijgnfidipmaaa.B
