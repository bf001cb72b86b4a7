/- The plain law of SizeOf: the two printed functions answer alike. -/
import Derived.Test.YtabngdbjlgjfaaaSsize
import Derived.Test.YtabngdbjlgjfaaaL
import Derived.Test.YtabngdbjlgjfaaaB17
namespace Go.Proofs.Ytabngdbjlgjfaaa.B
open Go.RowKit Go.Proofs.Ytabngdbjlgjfaaa.M Go.Proofs.YtabngdbjlgjfaaaW.PrintWords Go.Proofs.YtabngdbjlgjfaaaW.PrintLast Go.Proofs.YtabngdbjlgjfaaaW.PrintMore
attribute [local irreducible] Go.bits shl shr sd
theorem both_SizeOf (l : List Int) (a : Int) : ∃ r, Ev (fun k => spec_SizeOf.f k l a) r ∧ Ev (fun k => impl_SizeOf.f k l a) r := by
  unfold spec_SizeOf.f impl_SizeOf.f
  cases hg : goodB l with
  | false => exact ⟨(0, false), Ev.bind (hg ▸ poGood_ev l) (ev_as (Ev.now _) (fun k => by rw [if_neg (by decide)])), Ev.bind (show Ev _ false from ev_eq (isSet_ev l a) (by rw [hg]; rfl)) (ev_as (Ev.now _) (fun k => by rw [if_neg (by decide)]))⟩
  | true =>
    have hlen := goodB_length hg
    cases hs : setB l a with
    | false => exact ⟨(0, false), Ev.bind (hg ▸ poGood_ev l) (ev_as (Ev.now _) (fun k => by rw [if_pos rfl, poSet_is l (by omega), hs, Option.bind_some, if_neg (by decide)])), Ev.bind (show Ev _ false from ev_eq (isSet_ev l a) (by rw [hg, hs]; rfl)) (ev_as (Ev.now _) (fun k => by rw [if_neg (by decide)]))⟩
    | true =>
      obtain ⟨s, rfl, hs2⟩ := set_nat hs
      have h10 := lt1024 hs2 hlen.2
      refine ⟨(((pop s : Nat) : Int), true), Ev.bind (hg ▸ poGood_ev l) ?_, Ev.bind (show Ev _ true from ev_eq (isSet_ev l _) (by rw [hg, hs]; rfl)) ?_⟩
      · exact ev_bind (obSize_ev h10) (Ev.now _) (fun k => by rw [if_pos rfl, poSet_is l (by omega), hs, Option.bind_some, if_pos rfl])
      · exact ev_as (Ev.now _) (fun k => by rw [if_pos rfl, size_is h10, Option.bind_some])

theorem tail_SizeOf (l : List Int) (h : l.length ≤ 1048576) : Ev (fun k => laws_FnExactSizeOf.j0 k false l l) true := by
  refine ev_step (f := fun k => (laws_toPoset.f k l).bind fun t => (laws_eqPoset.f k l t).bind fun u => if u = true then some true else some false) ?_ (fun k => by simp only [laws_FnExactSizeOf.j0]; rw [if_neg (by decide)])
  refine Ev.bind (toPoset_ev l (by omega)) ?_
  exact Ev.bind (eqPoset_ev l (by omega)) (Ev.now _)
theorem FnExactSizeOf (l : List Int) (a : Int) (hm : l.length ≤ 9223372036854775807) (_ : ∀ x ∈ l, (Lit.int .i64 x).wf = true) (_ : (Lit.int .i64 a).wf = true) : ∃ k, laws_FnExactSizeOf.f k l a = some true := by
  apply Ev.rounds
  unfold laws_FnExactSizeOf.f
  refine sz_bind l hm _ true true (fun h => ?_) (fun _ => rfl)
  obtain ⟨r, h1, h2⟩ := both_SizeOf l a
  refine Ev.bind (toPoset_ev l (by omega)) ?_
  refine Ev.bind h1 ?_
  refine Ev.bind (toPoset_ev l (by omega)) ?_
  refine Ev.bind h2 ?_
  exact ev_as (tail_SizeOf l h) (fun k => by first | (rw [if_pos rfl, bne_self_eq_false]) | (rw [bne_self_eq_false, bne_self_eq_false, if_neg (by decide)]))
end Go.Proofs.Ytabngdbjlgjfaaa.B
