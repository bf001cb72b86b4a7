/- The plain law of OrbitSum: the two printed functions answer alike. -/
import Derived.Test.YtcijgnfidipmaaaSorb
import Derived.Test.YtcijgnfidipmaaaSsum
import Derived.Test.YtcijgnfidipmaaaSin
import Derived.Test.YtcijgnfidipmaaaL
import Derived.Test.YtcijgnfidipmaaaB36
namespace Go.Proofs.Ytcijgnfidipmaaa.B
open Go.RowKit Go.Proofs.Ytcijgnfidipmaaa.M Go.Proofs.YtcijgnfidipmaaaW.PrintWords Go.Proofs.YtcijgnfidipmaaaW.PrintLast Go.Proofs.YtcijgnfidipmaaaW.PrintMore
attribute [local irreducible] Go.bits shl shr sd
theorem both_OrbitSum (l : List Int) (a : Int) : ∃ r, Ev (fun k => spec_OrbitSum.f k l a) r ∧ Ev (fun k => impl_OrbitSum.f k l a) r := by
  unfold spec_OrbitSum.f impl_OrbitSum.f
  cases hg : inB l a with
  | false => exact ⟨(0, false), Ev.bind (hg ▸ tgIn_ev l a) (ev_as (Ev.now _) (fun k => by rw [if_neg (by decide)])), Ev.bind (hg ▸ isIdeal_ev l a) (ev_as (Ev.now _) (fun k => by rw [if_neg (by decide)]))⟩
  | true =>
    obtain ⟨P, s, hP, rfl, hs, hi⟩ := in_nat hg
    have hid : isId P s := ⟨hs, hi⟩
    have hlen := (robit_length hP hid).2
    have hmem := robit_mem hP hid
    refine ⟨(((popSum 0 (robit P s) : Nat) : Int), true), Ev.bind (hg ▸ tgIn_ev l _) ?_, Ev.bind (hg ▸ isIdeal_ev l _) ?_⟩
    · refine ev_bind (obOrbit_ev hP hid) ?_ (fun k => by rw [if_pos rfl])
      exact Ev.bind (obSum_ev l (robit P s) hlen (fun x hx => lt1024 (hmem x hx).1 hP.n10)) (Ev.now _)
    · refine ev_bind (orbit_ev hP hid) ?_ (fun k => by rw [if_pos rfl])
      exact Ev.bind (sum_ev (robit P s) hlen (fun x hx => lt1024 (hmem x hx).1 hP.n10)) (Ev.now _)
theorem tail_OrbitSum (l : List Int) (h : l.length ≤ 1048576) : Ev (fun k => laws_FnExactOrbitSum.j0 k false l l) true := by
  refine ev_step (f := fun k => (laws_toPoset.f k l).bind fun t => (laws_eqPoset.f k l t).bind fun u => if u = true then some true else some false) ?_ (fun k => by simp only [laws_FnExactOrbitSum.j0]; rw [if_neg (by decide)])
  refine Ev.bind (toPoset_ev l (by omega)) ?_
  exact Ev.bind (eqPoset_ev l (by omega)) (Ev.now _)
theorem FnExactOrbitSum (l : List Int) (a : Int) (hm : l.length ≤ 9223372036854775807) (_ : ∀ x ∈ l, (Lit.int .i64 x).wf = true) (_ : (Lit.int .i64 a).wf = true) : ∃ k, laws_FnExactOrbitSum.f k l a = some true := by
  apply Ev.rounds
  unfold laws_FnExactOrbitSum.f
  refine sz_bind l hm _ true true (fun h => ?_) (fun _ => rfl)
  obtain ⟨r, h1, h2⟩ := both_OrbitSum l a
  refine Ev.bind (toPoset_ev l (by omega)) ?_
  refine Ev.bind h1 ?_
  refine Ev.bind (toPoset_ev l (by omega)) ?_
  refine Ev.bind h2 ?_
  exact ev_as (tail_OrbitSum l h) (fun k => by first | (rw [if_pos rfl, bne_self_eq_false]) | (rw [bne_self_eq_false, bne_self_eq_false, if_neg (by decide)]))
end Go.Proofs.Ytcijgnfidipmaaa.B
