/- The plain law of Rectangle: the two printed functions answer alike. -/
import Derived.Test.YtkpomonamapcdaaSrect
import Derived.Test.YtkpomonamapcdaaLh
import Derived.Test.YtkpomonamapcdaaB28
namespace Go.Proofs.Ytkpomonamapcdaa.B
open Go.RowKit Go.Proofs.Ytkpomonamapcdaa.M Go.Proofs.YtkpomonamapcdaaW.PrintWords Go.Proofs.YtkpomonamapcdaaW.PrintLast Go.Proofs.YtkpomonamapcdaaW.PrintMore
attribute [local irreducible] Go.bits shl shr sd
theorem both_Rectangle (a b : Int) : ∃ w r, w.length ≤ 10 ∧ Ev (fun k => spec_Rectangle.f k a b) (w, r) ∧ Ev (fun k => impl_Rectangle.f k a b) (w, r) := by
  unfold spec_Rectangle.f impl_Rectangle.f
  cases hs : sidesB a b with
  | false => exact ⟨[], false, by simp, ev_as (Ev.now _) (fun k => by rw [poSides_is, hs, Option.bind_some, if_neg (by decide)]), ev_as (Ev.now _) (fun k => by rw [areSides_is, hs, Option.bind_some, if_neg (by decide)])⟩
  | true =>
    obtain ⟨m, n, rfl, rfl, h1, h2, h3, h4, h5⟩ := sides_nat hs
    obtain ⟨l, P, hP, hlen, e1, e2⟩ := rect_ev h1 h2 h3 h4 h5
    have := hP.length
    have hn := hP.n10
    exact ⟨l, true, by omega, ev_bind e1 (Ev.now _) (fun k => by rw [poSides_is, hs, Option.bind_some, if_pos rfl]), ev_bind e2 (Ev.now _) (fun k => by rw [areSides_is, hs, Option.bind_some, if_pos rfl])⟩
theorem tail_Rectangle (a b : Int) (w : List Int) (z : Bool) (hw : w.length ≤ 1048576) (h2 : Ev (fun k => impl_Rectangle.f k a b) (w, z)) : Ev (fun k => laws_FnExactRectangle.j0 k a b z false w w) true := by
  have e2 : Ev (fun k => laws_FnExactRectangle.j1 k (1 + (w.length : Int)) false (marked w 1)) true := by
    refine ev_stepb (heldPoset_ev w 1 (by omega) (by omega) (by omega)) ?_ (fun k => by simp only [laws_FnExactRectangle.j1]; rw [if_neg (by decide)])
    exact ev_as (Ev.now _) (fun k => by rw [if_neg (by omega), if_pos rfl])
  refine ev_stepb (markPoset_ev w 1 (by omega) (by omega) (by omega)) ?_ (fun k => by simp only [laws_FnExactRectangle.j0]; rw [if_neg (by decide)])
  refine ev_bind (heldPoset_ev w 1 (by omega) (by omega) (by omega)) ?_ (fun k => rfl)
  refine ev_bind h2 ?_ (fun k => by rw [if_neg (by omega), if_pos rfl])
  refine ev_bind (eqPoset_ev w (by omega)) ?_ (fun k => rfl)
  exact ev_as e2 (fun k => by rw [if_pos rfl, bne_self_eq_false])
theorem FnExactRectangle (a b : Int) (_ : (Lit.int .i64 a).wf = true) (_ : (Lit.int .i64 b).wf = true) : ∃ k, laws_FnExactRectangle.f k a b = some true := by
  apply Ev.rounds
  unfold laws_FnExactRectangle.f
  obtain ⟨w, z, hw, h1, h2⟩ := both_Rectangle a b
  refine Ev.bind h1 ?_
  refine Ev.bind h2 ?_
  refine Ev.bind (eqPoset_ev w (by omega)) ?_
  exact ev_as (tail_Rectangle a b w z (by omega) h2) (fun k => by rw [if_pos rfl, bne_self_eq_false])
end Go.Proofs.Ytkpomonamapcdaa.B
