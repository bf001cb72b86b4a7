/- The plain law of CountLinear: the two printed functions answer alike. -/
import Derived.Test.YtdfgfeobaldmpaaScnt
import Derived.Test.YtdfgfeobaldmpaaSways
import Derived.Test.YtdfgfeobaldmpaaL
import Derived.Test.YtdfgfeobaldmpaaB8
import Derived.Test.YtdfgfeobaldmpaaB9
namespace Go.Proofs.Ytdfgfeobaldmpaa.B
open Go.RowKit Go.Proofs.Ytdfgfeobaldmpaa.M Go.Proofs.YtdfgfeobaldmpaaW.PrintWords Go.Proofs.YtdfgfeobaldmpaaW.PrintLast Go.Proofs.YtdfgfeobaldmpaaW.PrintMore
attribute [local irreducible] Go.bits shl shr sd
theorem both_CountLinear (l : List Int) : ∃ r, Ev (fun k => spec_CountLinear.f k l) r ∧ Ev (fun k => impl_CountLinear.f k l) r := by
  unfold spec_CountLinear.f impl_CountLinear.f impl_CountOrders.f
  cases hg : goodB l with
  | false => exact ⟨(0, false), Ev.bind (hg ▸ poGood_ev l) (ev_as (Ev.now _) (fun k => by rw [if_neg (by decide)])), Ev.bind (a := (0, false)) (Ev.bind (hg ▸ IsPoset_ev l) (ev_as (Ev.now _) (fun k => by rw [if_neg (by decide)]))) (Ev.now _)⟩
  | true =>
    obtain ⟨P, hP⟩ := good_of hg
    have h1 := Nat.one_le_two_pow (n := P.length)
    have k1 : (wdown (wrow P) (2 ^ P.length - 1) (wstart P)).length = 2 ^ P.length := by rw [wdown_length _ (wrow_length P)]; exact wstart_length P
    have k2 : (wdown (wrow' P) (2 ^ P.length - 1) (wstart P)).length = 2 ^ P.length := by rw [wdown_length _ (wrow'_length P)]; exact wstart_length P
    refine ⟨((wdown (wrow P) (2 ^ P.length - 1) (wstart P)).getD 0 0, true), Ev.bind (hg ▸ poGood_ev l) ?_, Ev.bind (a := ((wdown (wrow P) (2 ^ P.length - 1) (wstart P)).getD 0 0, true)) (Ev.bind (hg ▸ IsPoset_ev l) ?_) (Ev.now _)⟩
    · refine ev_bind (liCounts_ev hP) ?_ (fun k => by rw [if_pos rfl])
      exact ev_as (Ev.now _) (fun k => by rw [if_pos (by omega)]; rfl)
    · refine ev_bind (ways_ev hP) ?_ (fun k => by rw [if_pos rfl])
      rw [counts_alike]
      exact ev_as (Ev.now _) (fun k => by rw [if_pos (by omega)]; rfl)
theorem tail_CountLinear (l : List Int) (h : l.length ≤ 1048576) : Ev (fun k => laws_FnExactCountLinear.j0 k false l l) true := by
  refine ev_step (f := fun k => (laws_toPoset.f k l).bind fun t => (laws_eqPoset.f k l t).bind fun u => if u = true then some true else some false) ?_ (fun k => by simp only [laws_FnExactCountLinear.j0]; rw [if_neg (by decide)])
  refine Ev.bind (toPoset_ev l (by omega)) ?_
  exact Ev.bind (eqPoset_ev l (by omega)) (Ev.now _)
theorem FnExactCountLinear (l : List Int) (hm : l.length ≤ 9223372036854775807) (_ : ∀ x ∈ l, (Lit.int .i64 x).wf = true) : ∃ k, laws_FnExactCountLinear.f k l = some true := by
  apply Ev.rounds
  unfold laws_FnExactCountLinear.f
  refine sz_bind l hm _ true true (fun h => ?_) (fun _ => rfl)
  obtain ⟨r, h1, h2⟩ := both_CountLinear l
  refine Ev.bind (toPoset_ev l (by omega)) ?_
  refine Ev.bind h1 ?_
  refine Ev.bind (toPoset_ev l (by omega)) ?_
  refine Ev.bind h2 ?_
  exact ev_as (tail_CountLinear l h) (fun k => by first | (rw [if_pos rfl, bne_self_eq_false]) | (rw [bne_self_eq_false, bne_self_eq_false, if_neg (by decide)]))
end Go.Proofs.Ytdfgfeobaldmpaa.B
