/- Words of elements: an ideal toggled at its elements, by the program. -/
import Derived.Test.YtinnobjcphfejaaMwrd
import Derived.Test.YtinnobjcphfejaaStoi
import Derived.Test.YtinnobjcphfejaaB21
namespace Go.Proofs.Ytinnobjcphfejaa.B
open Go.RowKit Go.Proofs.Ytinnobjcphfejaa.M Go.Proofs.YtinnobjcphfejaaW.PrintWords Go.Proofs.YtinnobjcphfejaaW.PrintLast Go.Proofs.YtinnobjcphfejaaW.PrintMore
attribute [local irreducible] Go.bits shl shr sd
theorem toggles_ev {l : List Int} {P : List Nat} (hP : Good l P) (o : List Int) (ho : o.length ≤ 1048576) (hr : rangeB ((P.length : Int) - 1) o = true) {s : Nat} (hs : s < 2 ^ P.length) : Ev (fun k => impl_Poset_toggles.f k l (s : Int) o) ((togs P s o : Nat) : Int) := by
  have H : ∀ (i : Nat) (st : Nat), i ≤ o.length → st < 2 ^ P.length → Ev (fun k => impl_Poset_toggles.l0 k (st : Int) o (o.length : Int) (i : Int) l) ((togs P st (o.drop i) : Nat) : Int) := by
    refine ev_down (fun k (st : Nat) i => impl_Poset_toggles.l0 k (st : Int) o (o.length : Int) i l) (fun i st => ((togs P st (o.drop i) : Nat) : Int)) o.length (fun _ st => st < 2 ^ P.length) ?_ ?_
    · intro st _
      rw [List.drop_length]
      exact ev_step (Ev.now _) (fun k => by simp only [impl_Poset_toggles.l0]; rw [if_neg (by omega)]; rfl)
    · intro i st hi hst ih
      obtain ⟨e, he, hlt⟩ := range_at hr hi
      have c1 : (i : Int) < (o.length : Int) := by omega
      have c2 : 0 ≤ (i : Int) := by omega
      have hw : wrap64 ((i : Int) + 1) = (i : Int) + 1 := wrap64_id (by omega) (by omega)
      rw [drop_step o 0 hi, he]
      refine ev_stepb (toggle_ev hP hst hlt) ?_ (fun k => by simp only [impl_Poset_toggles.l0]; rw [if_pos c1, if_pos c2, if_pos c1, rd_nat, he])
      exact ev_as (ih _ (tog_lt hst hlt)) (fun k => by rw [hw]; rfl)
  unfold impl_Poset_toggles.f
  have := H 0 s (by omega) hs
  rwa [List.drop_zero] at this
end Go.Proofs.Ytinnobjcphfejaa.B
