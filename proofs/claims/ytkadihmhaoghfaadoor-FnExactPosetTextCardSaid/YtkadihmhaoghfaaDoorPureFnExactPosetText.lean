/- The plain law of PosetText: the two printed functions answer alike. -/
import Derived.Test.YtkadihmhaoghfaaDoorL
import Derived.Test.YtkadihmhaoghfaaDoorStext
import Derived.Test.YtkadihmhaoghfaaDoorB12
import Derived.Test.YtkadihmhaoghfaaDoorB13
namespace Go.Proofs.YtkadihmhaoghfaaDoor.B
open Go.RowKit Go.Proofs.YtkadihmhaoghfaaDoor.M Go.Proofs.YtkadihmhaoghfaaDoorW.PrintWords Go.Proofs.YtkadihmhaoghfaaDoorW.PrintLast Go.Proofs.YtkadihmhaoghfaaDoorW.PrintMore
attribute [local irreducible] Go.bits shl shr sd
theorem both_PosetText (l : List Int) : ∃ w b, Ev (fun k => spec_PosetText.f k l) (w, b) ∧ Ev (fun k => impl_PosetText.f k l) (w, b) := by
  unfold spec_PosetText.f impl_PosetText.f
  cases hg : goodB l with
  | false => exact ⟨⟨#[]⟩, false, Ev.bind (hg ▸ poGood_ev l) (ev_as (Ev.now _) (fun k => by rw [if_neg (by decide)])), Ev.bind (hg ▸ IsPoset_ev l) (ev_as (Ev.now _) (fun k => by rw [if_neg (by decide)]))⟩
  | true =>
    obtain ⟨P, hP⟩ := good_of hg
    refine ⟨text (grid (covF P) P.length 0) l.length, true, Ev.bind (hg ▸ poGood_ev l) ?_, Ev.bind (hg ▸ IsPoset_ev l) ?_⟩
    · exact ev_bind (poText_ev hP) (Ev.now _) (fun k => by rw [if_pos rfl])
    · exact ev_bind (text_ev hP) (Ev.now _) (fun k => by rw [if_pos rfl])
theorem tail_PosetText (l : List Int) (h : l.length ≤ 1048576) : Ev (fun k => laws_FnExactPosetText.j0 k false l l) true := by
  refine ev_step (f := fun k => (laws_toPoset.f k l).bind fun t => (laws_eqPoset.f k l t).bind fun u => if u = true then some true else some false) ?_ (fun k => by simp only [laws_FnExactPosetText.j0]; rw [if_neg (by decide)])
  refine Ev.bind (toPoset_ev l (by omega)) ?_
  exact Ev.bind (eqPoset_ev l (by omega)) (Ev.now _)
theorem FnExactPosetText (l : List Int) (hm : l.length ≤ 9223372036854775807) (_ : ∀ x ∈ l, (Lit.int .i64 x).wf = true) : ∃ k, laws_FnExactPosetText.f k l = some true := by
  apply Ev.rounds
  unfold laws_FnExactPosetText.f
  refine sz_bind l hm _ true true (fun h => ?_) (fun _ => rfl)
  obtain ⟨w, b, h1, h2⟩ := both_PosetText l
  refine Ev.bind (toPoset_ev l (by omega)) ?_
  refine Ev.bind h1 ?_
  refine Ev.bind (toPoset_ev l (by omega)) ?_
  refine Ev.bind h2 ?_
  exact ev_as (tail_PosetText l h) (fun k => by rw [if_pos rfl, bne_self_eq_false])
end Go.Proofs.YtkadihmhaoghfaaDoor.B
