/- Are all of a list within bounds, as the reference asks. -/
import Derived.Test.YtinnobjcphfejaaS
import Derived.Test.YtinnobjcphfejaaMwrd
import Derived.Test.YtinnobjcphfejaaB6
namespace Go.Proofs.Ytinnobjcphfejaa.B
open Go.RowKit Go.Proofs.Ytinnobjcphfejaa.M Go.Proofs.YtinnobjcphfejaaW.PrintWords Go.Proofs.YtinnobjcphfejaaW.PrintLast Go.Proofs.YtinnobjcphfejaaW.PrintMore
attribute [local irreducible] Go.bits shl shr sd
theorem l1All_ev (o : List Int) (ho : o.length ≤ 1048576) (n : Int) : Ev (fun k => spec_l1All.f k o 0 n) (rangeB n o) := by
  have H : ∀ (i : Nat) (_ : Unit), i ≤ o.length → True → Ev (fun k => spec_l1All.l0 k 0 n o (o.length : Int) (i : Int)) (rangeB n (o.drop i)) := by
    refine ev_down (fun k (_ : Unit) i => spec_l1All.l0 k 0 n o (o.length : Int) i) (fun i _ => rangeB n (o.drop i)) o.length (fun _ _ => True) ?_ ?_
    · intro _ _
      rw [List.drop_length]
      exact ev_step (Ev.now _) (fun k => by simp only [spec_l1All.l0]; rw [if_neg (by omega)]; rfl)
    · intro i _ hi _ ih
      have c1 : (i : Int) < (o.length : Int) := by omega
      have c2 : 0 ≤ (i : Int) := by omega
      have hw : wrap64 ((i : Int) + 1) = (i : Int) + 1 := wrap64_id (by omega) (by omega)
      rw [drop_step o 0 hi]
      unfold rangeB
      rw [List.all_cons]
      by_cases hr : 0 ≤ o.getD i 0 ∧ o.getD i 0 ≤ n
      · rw [decide_eq_true hr, Bool.true_and]
        exact ev_step (ih () trivial) (fun k => by simp only [spec_l1All.l0]; rw [if_pos c1, if_pos c2, if_pos c1, rd_nat, l1In_is, decide_eq_true hr, Option.bind_some, if_pos rfl, hw])
      · rw [decide_eq_false hr, Bool.false_and]
        exact ev_step (Ev.now _) (fun k => by simp only [spec_l1All.l0]; rw [if_pos c1, if_pos c2, if_pos c1, rd_nat, l1In_is, decide_eq_false hr, Option.bind_some, if_neg (by decide)])
  unfold spec_l1All.f
  have := H 0 () (by omega) trivial
  rwa [List.drop_zero] at this
end Go.Proofs.Ytinnobjcphfejaa.B
