/- The plain law of IdealsOf: the two printed functions answer alike. -/
import Derived.Test.YtodbkoipebnheaaSids
import Derived.Test.YtodbkoipebnheaaLm
import Derived.Test.YtodbkoipebnheaaB13
import Derived.Test.YtodbkoipebnheaaB28
import Derived.Test.YtodbkoipebnheaaB29
namespace Go.Proofs.Ytodbkoipebnheaa.B
open Go.RowKit Go.Proofs.Ytodbkoipebnheaa.M Go.Proofs.YtodbkoipebnheaaW.PrintWords Go.Proofs.YtodbkoipebnheaaW.PrintLast Go.Proofs.YtodbkoipebnheaaW.PrintMore
attribute [local irreducible] Go.bits shl shr sd
theorem both_IdealsOf (l : List Int) : ∃ w b, w.length ≤ 1024 ∧ Ev (fun k => spec_IdealsOf.f k l) (w, b) ∧ Ev (fun k => impl_IdealsOf.f k l) (w, b) := by
  unfold spec_IdealsOf.f impl_IdealsOf.f
  cases hg : goodB l with
  | false => exact ⟨[], false, by simp, Ev.bind (hg ▸ poGood_ev l) (ev_as (Ev.now _) (fun k => by rw [if_neg (by decide)])), Ev.bind (hg ▸ IsPoset_ev l) (ev_as (Ev.now _) (fun k => by rw [if_neg (by decide)]))⟩
  | true =>
    obtain ⟨P, hP⟩ := good_of hg
    refine ⟨cast (ids P), true, by rw [cast, List.length_map]; exact ids_length hP.n10, Ev.bind (hg ▸ poGood_ev l) ?_, Ev.bind (hg ▸ IsPoset_ev l) ?_⟩
    · exact ev_bind (poIdeals_ev hP) (Ev.now _) (fun k => by rw [if_pos rfl])
    · exact ev_bind (ideals_ev hP) (Ev.now _) (fun k => by rw [if_pos rfl])
theorem tail_IdealsOf (l w : List Int) (b : Bool) (h : l.length ≤ 1048576) (hw : w.length ≤ 1048576) (h2 : Ev (fun k => impl_IdealsOf.f k l) (w, b)) : Ev (fun k => laws_FnExactIdealsOf.j0 k w b w b false l l) true := by
  have e2 : Ev (fun k => laws_FnExactIdealsOf.j2 k (marked w 1) (1 + (w.length : Int)) false) true := by
    refine ev_stepb (heldIntS_ev w 1 (by omega) (by omega) (by omega)) ?_ (fun k => by simp only [laws_FnExactIdealsOf.j2]; rw [if_neg (by decide)])
    exact ev_as (Ev.now _) (fun k => by rw [if_neg (by omega), if_pos rfl])
  have e1 : Ev (fun k => laws_FnExactIdealsOf.j1 k w b w false l) true := by
    refine ev_stepb (markIntS_ev w 1 (by omega) (by omega) (by omega)) ?_ (fun k => by simp only [laws_FnExactIdealsOf.j1]; rw [if_neg (by decide)])
    refine ev_bind (heldIntS_ev w 1 (by omega) (by omega) (by omega)) ?_ (fun k => rfl)
    refine ev_bind (toPoset_ev l (by omega)) ?_ (fun k => by rw [if_neg (by omega), if_pos rfl])
    refine ev_bind h2 ?_ (fun k => rfl)
    refine ev_bind (eqIntS_ev w (by omega)) ?_ (fun k => rfl)
    exact ev_as e2 (fun k => by rw [if_pos rfl, bne_self_eq_false])
  refine ev_stepb (toPoset_ev l (by omega)) ?_ (fun k => by simp only [laws_FnExactIdealsOf.j0]; rw [if_neg (by decide)])
  refine ev_bind (eqPoset_ev l (by omega)) ?_ (fun k => rfl)
  refine ev_bind (markPoset_ev l 1 (by omega) (by omega) (by omega)) ?_ (fun k => by rw [if_pos rfl])
  refine ev_bind (eqIntS_ev w (by omega)) ?_ (fun k => by rw [if_neg (by omega)])
  exact ev_as e1 (fun k => by rw [if_pos rfl, bne_self_eq_false])
theorem FnExactIdealsOf (l : List Int) (hm : l.length ≤ 9223372036854775807) (_ : ∀ x ∈ l, (Lit.int .i64 x).wf = true) : ∃ k, laws_FnExactIdealsOf.f k l = some true := by
  apply Ev.rounds
  unfold laws_FnExactIdealsOf.f
  refine sz_bind l hm _ true true (fun h => ?_) (fun _ => rfl)
  obtain ⟨w, b, hw, h1, h2⟩ := both_IdealsOf l
  refine Ev.bind (toPoset_ev l (by omega)) ?_
  refine Ev.bind h1 ?_
  refine Ev.bind (toPoset_ev l (by omega)) ?_
  refine Ev.bind h2 ?_
  refine Ev.bind (eqIntS_ev w (by omega)) ?_
  exact ev_as (tail_IdealsOf l w b h (by omega) h2) (fun k => by rw [if_pos rfl, bne_self_eq_false])
end Go.Proofs.Ytodbkoipebnheaa.B
