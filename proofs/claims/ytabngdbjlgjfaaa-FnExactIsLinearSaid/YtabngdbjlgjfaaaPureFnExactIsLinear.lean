/- The plain law of IsLinear: the two printed functions answer alike. -/
import Derived.Test.YtabngdbjlgjfaaaSli
import Derived.Test.YtabngdbjlgjfaaaL
import Derived.Test.YtabngdbjlgjfaaaB15
import Derived.Test.YtabngdbjlgjfaaaB16
namespace Go.Proofs.Ytabngdbjlgjfaaa.B
open Go.RowKit Go.Proofs.Ytabngdbjlgjfaaa.M Go.Proofs.YtabngdbjlgjfaaaW.PrintWords Go.Proofs.YtabngdbjlgjfaaaW.PrintLast Go.Proofs.YtabngdbjlgjfaaaW.PrintMore
theorem both_IsLinear (l o : List Int) (ho : o.length ≤ 1048576) : ∃ r, Ev (fun k => spec_IsLinear.f k l o) r ∧ Ev (fun k => impl_IsLinear.f k l o) r := by
  unfold spec_IsLinear.f impl_IsLinear.f impl_IsOrder.f
  cases hg : goodB l with
  | false => exact ⟨(false, false), Ev.bind (hg ▸ poGood_ev l) (ev_as (Ev.now _) (fun k => by rw [if_neg (by decide)])), Ev.bind (Ev.bind (hg ▸ IsPoset_ev l) (ev_as (Ev.now (false, false)) (fun k => by rw [if_neg (by decide)]))) (Ev.now _)⟩
  | true =>
    obtain ⟨P, hP⟩ := good_of hg
    refine ⟨(ordB P o, true), Ev.bind (hg ▸ poGood_ev l) ?_, Ev.bind (Ev.bind (hg ▸ IsPoset_ev l) (?_ : Ev _ (ordB P o, true))) (Ev.now _)⟩
    · exact ev_bind (liIs_ev hP o ho) (Ev.now _) (fun k => by rw [if_pos rfl])
    · exact ev_bind (isOrder_ev hP o ho) (Ev.now _) (fun k => by rw [if_pos rfl])
theorem tail_IsLinear (l o : List Int) (h : l.length ≤ 1048576) (ho : o.length ≤ 1048576) : Ev (fun k => laws_FnExactIsLinear.j0 k o o false l l) true := by
  refine ev_step (f := fun k => (laws_toPoset.f k l).bind fun t => (laws_eqPoset.f k l t).bind fun u => if u = true then (laws_toIntS.f k o).bind fun t => (laws_eqIntS.f k o t).bind fun u => if u = true then some true else some false else some false) ?_ (fun k => by simp only [laws_FnExactIsLinear.j0]; rw [if_neg (by decide)])
  refine Ev.bind (toPoset_ev l (by omega)) ?_
  refine Ev.bind (eqPoset_ev l (by omega)) ?_
  refine ev_bind (toIntS_ev o (by omega)) ?_ (fun k => by rw [if_pos rfl])
  exact Ev.bind (eqIntS_ev o (by omega)) (Ev.now _)
theorem FnExactIsLinear (l o : List Int) (hm : l.length ≤ 9223372036854775807) (_ : ∀ x ∈ l, (Lit.int .i64 x).wf = true) (_ : o.length ≤ 9223372036854775807) (_ : ∀ x ∈ o, (Lit.int .i64 x).wf = true) : ∃ k, laws_FnExactIsLinear.f k l o = some true := by
  apply Ev.rounds
  unfold laws_FnExactIsLinear.f
  by_cases ho : (o.length : Int) > 1048576
  · exact ev_as (Ev.now _) (fun k => by rw [if_pos ho])
  simp only [if_neg ho]
  have ho' : o.length ≤ 1048576 := by omega
  refine sz_bind l hm _ true true (fun h => ?_) (fun _ => rfl)
  obtain ⟨r, h1, h2⟩ := both_IsLinear l o ho'
  refine Ev.bind (toPoset_ev l (by omega)) ?_
  refine Ev.bind (toIntS_ev o (by omega)) ?_
  refine Ev.bind h1 ?_
  refine Ev.bind (toPoset_ev l (by omega)) ?_
  refine Ev.bind (toIntS_ev o (by omega)) ?_
  refine Ev.bind h2 ?_
  exact ev_as (tail_IsLinear l o h ho') (fun k => by rw [bne_self_eq_false, bne_self_eq_false, if_neg (by decide)])
end Go.Proofs.Ytabngdbjlgjfaaa.B
