/- The plain law of DualOf: the two printed functions answer alike. -/
import Derived.Test.YtodbkoipebnheaaSdual
import Derived.Test.YtodbkoipebnheaaLm
import Derived.Test.YtodbkoipebnheaaB25
import Derived.Test.YtodbkoipebnheaaB26
import Derived.Test.YtodbkoipebnheaaB27
namespace Go.Proofs.Ytodbkoipebnheaa.B
open Go.RowKit Go.Proofs.Ytodbkoipebnheaa.M Go.Proofs.YtodbkoipebnheaaW.PrintWords Go.Proofs.YtodbkoipebnheaaW.PrintLast Go.Proofs.YtodbkoipebnheaaW.PrintMore
attribute [local irreducible] Go.bits shl shr sd
theorem both_DualOf (l : List Int) : ∃ w b, w.length ≤ 10 ∧ Ev (fun k => spec_DualOf.f k l) (w, b) ∧ Ev (fun k => impl_DualOf.f k l) (w, b) := by
  unfold spec_DualOf.f impl_DualOf.f
  cases hg : goodB l with
  | false => exact ⟨[], false, by simp, Ev.bind (hg ▸ poGood_ev l) (ev_as (Ev.now _) (fun k => by rw [if_neg (by decide)])), Ev.bind (hg ▸ IsPoset_ev l) (ev_as (Ev.now _) (fun k => by rw [if_neg (by decide)]))⟩
  | true =>
    obtain ⟨P, hP⟩ := good_of hg
    refine ⟨cast (made (dualF P) P.length), true, by rw [cast, List.length_map, (made_bit _ _).1]; exact hP.n10, Ev.bind (hg ▸ poGood_ev l) ?_, Ev.bind (hg ▸ IsPoset_ev l) ?_⟩
    · exact ev_bind (poDual_ev hP) (Ev.now _) (fun k => by rw [if_pos rfl])
    · exact ev_bind (dual_ev hP) (Ev.now _) (fun k => by rw [if_pos rfl])
theorem heldPoset_ev (l : List Int) (k0 : Int) (hl : l.length ≤ 35184372088832) (h0 : 0 ≤ k0) (h1 : k0 ≤ 35184372088832) : Ev (fun k => laws_heldPoset.f k (marked l k0) k0) (k0 + (l.length : Int)) := by
  unfold laws_heldPoset.f
  exact Ev.bind (heldIntS_ev l k0 hl h0 h1) (ev_as (Ev.now _) (fun k => by rw [if_neg (by omega)]))
theorem tail_DualOf (l w : List Int) (b : Bool) (h : l.length ≤ 1048576) (hw : w.length ≤ 1048576) (h2 : Ev (fun k => impl_DualOf.f k l) (w, b)) : Ev (fun k => laws_FnExactDualOf.j0 k b b false l w l w) true := by
  have e2 : Ev (fun k => laws_FnExactDualOf.j2 k (1 + (w.length : Int)) false (marked w 1)) true := by
    refine ev_stepb (heldPoset_ev w 1 (by omega) (by omega) (by omega)) ?_ (fun k => by simp only [laws_FnExactDualOf.j2]; rw [if_neg (by decide)])
    exact ev_as (Ev.now _) (fun k => by rw [if_neg (by omega), if_pos rfl])
  have e1 : Ev (fun k => laws_FnExactDualOf.j1 k b false l w w) true := by
    refine ev_stepb (markPoset_ev w 1 (by omega) (by omega) (by omega)) ?_ (fun k => by simp only [laws_FnExactDualOf.j1]; rw [if_neg (by decide)])
    refine ev_bind (heldPoset_ev w 1 (by omega) (by omega) (by omega)) ?_ (fun k => rfl)
    refine ev_bind (toPoset_ev l (by omega)) ?_ (fun k => by rw [if_neg (by omega), if_pos rfl])
    refine ev_bind h2 ?_ (fun k => rfl)
    refine ev_bind (eqPoset_ev w (by omega)) ?_ (fun k => rfl)
    exact ev_as e2 (fun k => by rw [if_pos rfl, bne_self_eq_false])
  refine ev_stepb (toPoset_ev l (by omega)) ?_ (fun k => by simp only [laws_FnExactDualOf.j0]; rw [if_neg (by decide)])
  refine ev_bind (eqPoset_ev l (by omega)) ?_ (fun k => rfl)
  refine ev_bind (markPoset_ev l 1 (by omega) (by omega) (by omega)) ?_ (fun k => by rw [if_pos rfl])
  refine ev_bind (eqPoset_ev w (by omega)) ?_ (fun k => by rw [if_neg (by omega)])
  exact ev_as e1 (fun k => by rw [if_pos rfl, bne_self_eq_false])
theorem FnExactDualOf (l : List Int) (hm : l.length ≤ 9223372036854775807) (_ : ∀ x ∈ l, (Lit.int .i64 x).wf = true) : ∃ k, laws_FnExactDualOf.f k l = some true := by
  apply Ev.rounds
  unfold laws_FnExactDualOf.f
  refine sz_bind l hm _ true true (fun h => ?_) (fun _ => rfl)
  obtain ⟨w, b, hw, h1, h2⟩ := both_DualOf l
  refine Ev.bind (toPoset_ev l (by omega)) ?_
  refine Ev.bind h1 ?_
  refine Ev.bind (toPoset_ev l (by omega)) ?_
  refine Ev.bind h2 ?_
  refine Ev.bind (eqPoset_ev w (by omega)) ?_
  exact ev_as (tail_DualOf l w b h (by omega) h2) (fun k => by rw [if_pos rfl, bne_self_eq_false])
end Go.Proofs.Ytodbkoipebnheaa.B
