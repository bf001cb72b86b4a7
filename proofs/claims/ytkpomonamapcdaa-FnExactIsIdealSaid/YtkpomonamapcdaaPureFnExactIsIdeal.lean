/- The plain law of IsIdeal: the two printed functions answer alike. -/
import Derived.Test.YtkpomonamapcdaaSidl
import Derived.Test.YtkpomonamapcdaaSclose
import Derived.Test.YtkpomonamapcdaaL
import Derived.Test.YtkpomonamapcdaaB24
namespace Go.Proofs.Ytkpomonamapcdaa.B
open Go.RowKit Go.Proofs.Ytkpomonamapcdaa.M Go.Proofs.YtkpomonamapcdaaW.PrintWords Go.Proofs.YtkpomonamapcdaaW.PrintLast Go.Proofs.YtkpomonamapcdaaW.PrintMore
theorem both_IsIdeal (l : List Int) (a : Int) : ∃ r, Ev (fun k => spec_IsIdeal.f k l a) r ∧ Ev (fun k => impl_IsIdeal.f k l a) r := by
  unfold spec_IsIdeal.f impl_IsIdeal.f
  cases hg : goodB l with
  | false => exact ⟨(false, false), Ev.bind (hg ▸ poGood_ev l) (ev_as (Ev.now _) (fun k => by rw [if_neg (by decide)])), Ev.bind (show Ev _ false from ev_eq (isSet_ev l a) (by rw [hg]; rfl)) (ev_as (Ev.now _) (fun k => by rw [if_neg (by decide)]))⟩
  | true =>
    have hlen := goodB_length hg
    cases hs : setB l a with
    | false => exact ⟨(false, false), Ev.bind (hg ▸ poGood_ev l) (ev_as (Ev.now _) (fun k => by rw [if_pos rfl, poSet_is l (by omega), hs, Option.bind_some, if_neg (by decide)])), Ev.bind (show Ev _ false from ev_eq (isSet_ev l a) (by rw [hg, hs]; rfl)) (ev_as (Ev.now _) (fun k => by rw [if_neg (by decide)]))⟩
    | true =>
      obtain ⟨P, hP⟩ := good_of hg
      obtain ⟨s, rfl, hs2⟩ := set_nat hs
      have hs3 : s < 2 ^ P.length := by have := hP.length; rw [show P.length = l.length by omega]; exact hs2
      refine ⟨(idl P s, true), Ev.bind (hg ▸ poGood_ev l) ?_, Ev.bind (show Ev _ true from ev_eq (isSet_ev l _) (by rw [hg, hs]; rfl)) ?_⟩
      · refine ev_bind (poIdeal_ev hP hs3) ?_ (fun k => by rw [if_pos rfl, poSet_is l (by omega), hs, Option.bind_some, if_pos rfl])
        exact Ev.now _
      · refine ev_bind (close_ev hP hs3) ?_ (fun k => by rw [if_pos rfl])
        exact (ev_eq (Ev.now _) (by rw [idl_dn]; congr 1; rw [Bool.eq_iff_iff, beq_iff_eq, decide_eq_true_eq]; omega))

theorem tail_IsIdeal (l : List Int) (h : l.length ≤ 1048576) : Ev (fun k => laws_FnExactIsIdeal.j0 k false l l) true := by
  refine ev_step (f := fun k => (laws_toPoset.f k l).bind fun t => (laws_eqPoset.f k l t).bind fun u => if u = true then some true else some false) ?_ (fun k => by simp only [laws_FnExactIsIdeal.j0]; rw [if_neg (by decide)])
  refine Ev.bind (toPoset_ev l (by omega)) ?_
  exact Ev.bind (eqPoset_ev l (by omega)) (Ev.now _)
theorem FnExactIsIdeal (l : List Int) (a : Int) (hm : l.length ≤ 9223372036854775807) (_ : ∀ x ∈ l, (Lit.int .i64 x).wf = true) (_ : (Lit.int .i64 a).wf = true) : ∃ k, laws_FnExactIsIdeal.f k l a = some true := by
  apply Ev.rounds
  unfold laws_FnExactIsIdeal.f
  refine sz_bind l hm _ true true (fun h => ?_) (fun _ => rfl)
  obtain ⟨r, h1, h2⟩ := both_IsIdeal l a
  refine Ev.bind (toPoset_ev l (by omega)) ?_
  refine Ev.bind h1 ?_
  refine Ev.bind (toPoset_ev l (by omega)) ?_
  refine Ev.bind h2 ?_
  exact ev_as (tail_IsIdeal l h) (fun k => by first | (rw [if_pos rfl, bne_self_eq_false]) | (rw [bne_self_eq_false, bne_self_eq_false, if_neg (by decide)]))
end Go.Proofs.Ytkpomonamapcdaa.B
