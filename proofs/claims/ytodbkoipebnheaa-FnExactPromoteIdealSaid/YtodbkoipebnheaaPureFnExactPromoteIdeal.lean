/- The plain law of PromoteIdeal: the two printed functions answer alike. -/
import Derived.Test.YtodbkoipebnheaaSptim
import Derived.Test.YtodbkoipebnheaaB36
namespace Go.Proofs.Ytodbkoipebnheaa.B
open Go.RowKit Go.Proofs.Ytodbkoipebnheaa.M Go.Proofs.YtodbkoipebnheaaW.PrintWords Go.Proofs.YtodbkoipebnheaaW.PrintLast Go.Proofs.YtodbkoipebnheaaW.PrintMore
attribute [local irreducible] Go.bits shl shr sd
theorem both_PromoteIdeal (a b s : Int) : ∃ r, Ev (fun k => spec_PromoteIdeal.f k a b s) r ∧ Ev (fun k => impl_PromoteIdeal.f k a b s) r := by
  unfold spec_PromoteIdeal.f impl_PromoteIdeal.f
  rcases tgRectangle_ev a b s with ⟨_, h1, h2⟩ | ⟨m, n, l, P, rfl, rfl, h1, h2, h3, h4, h5, hP, hlen, e1, e2, e3⟩
  · exact ⟨(0, false), Ev.bind h1 (ev_as (Ev.now _) (fun k => by rw [if_neg (by decide)])), Ev.bind (h2 1) (Ev.now _)⟩
  · refine ⟨_, ?_, Ev.bind (implProm_ev h1 h2 h3 h4 h5 hP hlen e2 s 1) (Ev.now _)⟩
    refine Ev.bind e3 ?_
    cases hg : inB l s with
    | false => rw [Bool.false_and, if_neg (by decide)]; exact ev_as (Ev.now _) (fun k => by rw [if_neg (by decide)])
    | true =>
      rw [Bool.true_and, if_pos (by decide)]
      obtain ⟨P', x, hP', rfl, hs, hi⟩ := in_nat hg
      have hPP : P' = P := by rw [← hP'.nat, hP.nat]
      subst hPP
      refine ev_bind (tgPromote_ev h1 h2 h3 h4 h5 hP hlen e1 hs) (Ev.now _) (fun k => by rw [if_pos rfl])
theorem FnExactPromoteIdeal (a b s : Int) (_ : (Lit.int .i64 a).wf = true) (_ : (Lit.int .i64 b).wf = true) (_ : (Lit.int .i64 s).wf = true) : ∃ k, laws_FnExactPromoteIdeal.f k a b s = some true := by
  apply Ev.rounds
  unfold laws_FnExactPromoteIdeal.f
  obtain ⟨r, h1, h2⟩ := both_PromoteIdeal a b s
  refine Ev.bind h1 ?_
  refine Ev.bind h2 ?_
  exact ev_as (Ev.now _) (fun k => by rw [if_pos rfl, bne_self_eq_false, if_neg (by decide)])
end Go.Proofs.Ytodbkoipebnheaa.B
