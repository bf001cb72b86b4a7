/- The plain law of CountIdeals: the two printed functions answer alike. -/
import Derived.Test.YtodbkoipebnheaaSids
import Derived.Test.YtodbkoipebnheaaL
import Derived.Test.YtodbkoipebnheaaB22
namespace Go.Proofs.Ytodbkoipebnheaa.B
open Go.RowKit Go.Proofs.Ytodbkoipebnheaa.M Go.Proofs.YtodbkoipebnheaaW.PrintWords Go.Proofs.YtodbkoipebnheaaW.PrintLast Go.Proofs.YtodbkoipebnheaaW.PrintMore
attribute [local irreducible] Go.bits shl shr sd
theorem both_CountIdeals (l : List Int) : ∃ r, Ev (fun k => spec_CountIdeals.f k l) r ∧ Ev (fun k => impl_CountIdeals.f k l) r := by
  unfold spec_CountIdeals.f impl_CountIdeals.f impl_IdealsOf.f
  cases hg : goodB l with
  | false => exact ⟨(0, false), Ev.bind (hg ▸ poGood_ev l) (ev_as (Ev.now _) (fun k => by rw [if_neg (by decide)])), Ev.bind (a := (([] : List Int), false)) (Ev.bind (hg ▸ IsPoset_ev l) (ev_as (Ev.now _) (fun k => by rw [if_neg (by decide)]))) (Ev.now _)⟩
  | true =>
    obtain ⟨P, hP⟩ := good_of hg
    refine ⟨(((cast (ids P)).length : Int), true), Ev.bind (hg ▸ poGood_ev l) ?_, Ev.bind (a := (cast (ids P), true)) (Ev.bind (hg ▸ IsPoset_ev l) ?_) (Ev.now _)⟩
    · exact ev_bind (poIdeals_ev hP) (Ev.now _) (fun k => by rw [if_pos rfl])
    · exact ev_bind (ideals_ev hP) (Ev.now _) (fun k => by rw [if_pos rfl])
theorem tail_CountIdeals (l : List Int) (h : l.length ≤ 1048576) : Ev (fun k => laws_FnExactCountIdeals.j0 k false l l) true := by
  refine ev_step (f := fun k => (laws_toPoset.f k l).bind fun t => (laws_eqPoset.f k l t).bind fun u => if u = true then some true else some false) ?_ (fun k => by simp only [laws_FnExactCountIdeals.j0]; rw [if_neg (by decide)])
  refine Ev.bind (toPoset_ev l (by omega)) ?_
  exact Ev.bind (eqPoset_ev l (by omega)) (Ev.now _)
theorem FnExactCountIdeals (l : List Int) (hm : l.length ≤ 9223372036854775807) (_ : ∀ x ∈ l, (Lit.int .i64 x).wf = true) : ∃ k, laws_FnExactCountIdeals.f k l = some true := by
  apply Ev.rounds
  unfold laws_FnExactCountIdeals.f
  refine sz_bind l hm _ true true (fun h => ?_) (fun _ => rfl)
  obtain ⟨r, h1, h2⟩ := both_CountIdeals l
  refine Ev.bind (toPoset_ev l (by omega)) ?_
  refine Ev.bind h1 ?_
  refine Ev.bind (toPoset_ev l (by omega)) ?_
  refine Ev.bind h2 ?_
  exact ev_as (tail_CountIdeals l h) (fun k => by first | (rw [if_pos rfl, bne_self_eq_false]) | (rw [bne_self_eq_false, bne_self_eq_false, if_neg (by decide)]))
end Go.Proofs.Ytodbkoipebnheaa.B
