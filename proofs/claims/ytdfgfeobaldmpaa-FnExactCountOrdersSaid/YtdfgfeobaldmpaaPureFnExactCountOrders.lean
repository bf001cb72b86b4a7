/- The plain law of CountOrders: the two printed functions answer alike. -/
import Derived.Test.YtdfgfeobaldmpaaStor
import Derived.Test.YtdfgfeobaldmpaaSways
import Derived.Test.YtdfgfeobaldmpaaL
import Derived.Test.YtdfgfeobaldmpaaB10
import Derived.Test.YtdfgfeobaldmpaaB5
namespace Go.Proofs.Ytdfgfeobaldmpaa.B
open Go.RowKit Go.Proofs.Ytdfgfeobaldmpaa.M Go.Proofs.YtdfgfeobaldmpaaW.PrintWords Go.Proofs.YtdfgfeobaldmpaaW.PrintLast Go.Proofs.YtdfgfeobaldmpaaW.PrintMore
attribute [local irreducible] Go.bits shl shr sd
theorem both_CountOrders (l : List Int) : ∃ r, Ev (fun k => spec_CountOrders.f k l) r ∧ Ev (fun k => impl_CountOrders.f k l) r := by
  unfold spec_CountOrders.f impl_CountOrders.f
  cases hg : goodB l with
  | false => exact ⟨(0, false), Ev.bind (hg ▸ poGood_ev l) (ev_as (Ev.now _) (fun k => by rw [if_neg (by decide)])), Ev.bind (hg ▸ IsPoset_ev l) (ev_as (Ev.now _) (fun k => by rw [if_neg (by decide)]))⟩
  | true =>
    obtain ⟨P, hP⟩ := good_of hg
    have h1 := Nat.one_le_two_pow (n := P.length)
    have k2 : (wdown (wrow' P) (2 ^ P.length - 1) (wstart P)).length = 2 ^ P.length := by rw [wdown_length _ (wrow'_length P)]; exact wstart_length P
    refine ⟨((cnts P).getD 0 0, true), Ev.bind (hg ▸ poGood_ev l) ?_, Ev.bind (hg ▸ IsPoset_ev l) ?_⟩
    · exact ev_bind (tgOrders_ev hP) (Ev.now _) (fun k => by rw [if_pos rfl])
    · refine ev_bind (ways_ev hP) ?_ (fun k => by rw [if_pos rfl])
      show Ev _ ((wdown (wrow P) (2 ^ P.length - 1) (wstart P)).getD 0 0, true)
      rw [counts_alike]
      exact ev_as (Ev.now _) (fun k => by rw [if_pos (by omega)]; rfl)
theorem tail_CountOrders (l : List Int) (h : l.length ≤ 1048576) : Ev (fun k => laws_FnExactCountOrders.j0 k false l l) true := by
  refine ev_step (f := fun k => (laws_toPoset.f k l).bind fun t => (laws_eqPoset.f k l t).bind fun u => if u = true then some true else some false) ?_ (fun k => by simp only [laws_FnExactCountOrders.j0]; rw [if_neg (by decide)])
  refine Ev.bind (toPoset_ev l (by omega)) ?_
  exact Ev.bind (eqPoset_ev l (by omega)) (Ev.now _)
theorem FnExactCountOrders (l : List Int) (hm : l.length ≤ 9223372036854775807) (_ : ∀ x ∈ l, (Lit.int .i64 x).wf = true) : ∃ k, laws_FnExactCountOrders.f k l = some true := by
  apply Ev.rounds
  unfold laws_FnExactCountOrders.f
  refine sz_bind l hm _ true true (fun h => ?_) (fun _ => rfl)
  obtain ⟨r, h1, h2⟩ := both_CountOrders l
  refine Ev.bind (toPoset_ev l (by omega)) ?_
  refine Ev.bind h1 ?_
  refine Ev.bind (toPoset_ev l (by omega)) ?_
  refine Ev.bind h2 ?_
  exact ev_as (tail_CountOrders l h) (fun k => by first | (rw [if_pos rfl, bne_self_eq_false]) | (rw [bne_self_eq_false, bne_self_eq_false, if_neg (by decide)]))
end Go.Proofs.Ytdfgfeobaldmpaa.B
