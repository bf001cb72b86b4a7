/- The plain law of AntichainsOf: the two printed functions answer alike. -/
import Derived.Test.YtodbkoipebnheaaSanti
import Derived.Test.YtodbkoipebnheaaLm
import Derived.Test.YtodbkoipebnheaaB20
import Derived.Test.YtodbkoipebnheaaB21
namespace Go.Proofs.Ytodbkoipebnheaa.B
open Go.RowKit Go.Proofs.Ytodbkoipebnheaa.M Go.Proofs.YtodbkoipebnheaaW.PrintWords Go.Proofs.YtodbkoipebnheaaW.PrintLast Go.Proofs.YtodbkoipebnheaaW.PrintMore
attribute [local irreducible] Go.bits shl shr sd
theorem both_AntichainsOf (l : List Int) : ∃ w b, w.length ≤ 1024 ∧ Ev (fun k => spec_AntichainsOf.f k l) (w, b) ∧ Ev (fun k => impl_AntichainsOf.f k l) (w, b) := by
  unfold spec_AntichainsOf.f impl_AntichainsOf.f
  cases hg : goodB l with
  | false => exact ⟨[], false, by simp, Ev.bind (hg ▸ poGood_ev l) (ev_as (Ev.now _) (fun k => by rw [if_neg (by decide)])), Ev.bind (hg ▸ IsPoset_ev l) (ev_as (Ev.now _) (fun k => by rw [if_neg (by decide)]))⟩
  | true =>
    obtain ⟨P, hP⟩ := good_of hg
    refine ⟨cast (antis P), true, by rw [cast, List.length_map]; exact antis_length hP.n10, Ev.bind (hg ▸ poGood_ev l) ?_, Ev.bind (hg ▸ IsPoset_ev l) ?_⟩
    · exact ev_as (specAntis_ev hP) (fun k => by rw [if_pos rfl])
    · exact ev_bind (implAntis_ev hP) (Ev.now _) (fun k => by rw [if_pos rfl])
theorem tail_AntichainsOf (l w : List Int) (b : Bool) (h : l.length ≤ 1048576) (hw : w.length ≤ 1048576) (h2 : Ev (fun k => impl_AntichainsOf.f k l) (w, b)) : Ev (fun k => laws_FnExactAntichainsOf.j0 k w b w b false l l) true := by
  have e2 : Ev (fun k => laws_FnExactAntichainsOf.j2 k (marked w 1) (1 + (w.length : Int)) false) true := by
    refine ev_stepb (heldIntS_ev w 1 (by omega) (by omega) (by omega)) ?_ (fun k => by simp only [laws_FnExactAntichainsOf.j2]; rw [if_neg (by decide)])
    exact ev_as (Ev.now _) (fun k => by rw [if_neg (by omega), if_pos rfl])
  have e1 : Ev (fun k => laws_FnExactAntichainsOf.j1 k w b w false l) true := by
    refine ev_stepb (markIntS_ev w 1 (by omega) (by omega) (by omega)) ?_ (fun k => by simp only [laws_FnExactAntichainsOf.j1]; rw [if_neg (by decide)])
    refine ev_bind (heldIntS_ev w 1 (by omega) (by omega) (by omega)) ?_ (fun k => rfl)
    refine ev_bind (toPoset_ev l (by omega)) ?_ (fun k => by rw [if_neg (by omega), if_pos rfl])
    refine ev_bind h2 ?_ (fun k => rfl)
    refine ev_bind (eqIntS_ev w (by omega)) ?_ (fun k => rfl)
    exact ev_as e2 (fun k => by rw [if_pos rfl, bne_self_eq_false])
  refine ev_stepb (toPoset_ev l (by omega)) ?_ (fun k => by simp only [laws_FnExactAntichainsOf.j0]; rw [if_neg (by decide)])
  refine ev_bind (eqPoset_ev l (by omega)) ?_ (fun k => rfl)
  refine ev_bind (markPoset_ev l 1 (by omega) (by omega) (by omega)) ?_ (fun k => by rw [if_pos rfl])
  refine ev_bind (eqIntS_ev w (by omega)) ?_ (fun k => by rw [if_neg (by omega)])
  exact ev_as e1 (fun k => by rw [if_pos rfl, bne_self_eq_false])
theorem FnExactAntichainsOf (l : List Int) (hm : l.length ≤ 9223372036854775807) (_ : ∀ x ∈ l, (Lit.int .i64 x).wf = true) : ∃ k, laws_FnExactAntichainsOf.f k l = some true := by
  apply Ev.rounds
  unfold laws_FnExactAntichainsOf.f
  refine sz_bind l hm _ true true (fun h => ?_) (fun _ => rfl)
  obtain ⟨w, b, hw, h1, h2⟩ := both_AntichainsOf l
  refine Ev.bind (toPoset_ev l (by omega)) ?_
  refine Ev.bind h1 ?_
  refine Ev.bind (toPoset_ev l (by omega)) ?_
  refine Ev.bind h2 ?_
  refine Ev.bind (eqIntS_ev w (by omega)) ?_
  exact ev_as (tail_AntichainsOf l w b h (by omega) h2) (fun k => by rw [if_pos rfl, bne_self_eq_false])
end Go.Proofs.Ytodbkoipebnheaa.B
