/- The plain law of OrbitOf: the two printed functions answer alike. -/
import Derived.Test.YtcijgnfidipmaaaSorb
import Derived.Test.YtcijgnfidipmaaaSin
import Derived.Test.YtcijgnfidipmaaaLm
import Derived.Test.YtcijgnfidipmaaaB34
import Derived.Test.YtcijgnfidipmaaaB35
namespace Go.Proofs.Ytcijgnfidipmaaa.B
open Go.RowKit Go.Proofs.Ytcijgnfidipmaaa.M Go.Proofs.YtcijgnfidipmaaaW.PrintWords Go.Proofs.YtcijgnfidipmaaaW.PrintLast Go.Proofs.YtcijgnfidipmaaaW.PrintMore
attribute [local irreducible] Go.bits shl shr sd
theorem both_OrbitOf (l : List Int) (a : Int) : ∃ w b, w.length ≤ 1024 ∧ Ev (fun k => spec_OrbitOf.f k l a) (w, b) ∧ Ev (fun k => impl_OrbitOf.f k l a) (w, b) := by
  unfold spec_OrbitOf.f impl_OrbitOf.f
  cases hg : inB l a with
  | false => exact ⟨[], false, by simp, Ev.bind (hg ▸ tgIn_ev l a) (ev_as (Ev.now _) (fun k => by rw [if_neg (by decide)])), Ev.bind (hg ▸ isIdeal_ev l a) (ev_as (Ev.now _) (fun k => by rw [if_neg (by decide)]))⟩
  | true =>
    obtain ⟨P, s, hP, rfl, hs, hi⟩ := in_nat hg
    have hid : isId P s := ⟨hs, hi⟩
    have hlen := (robit_length hP hid).2
    exact ⟨cast (robit P s), true, by unfold cast; rw [List.length_map]; exact hlen, Ev.bind (hg ▸ tgIn_ev l _) (ev_bind (obOrbit_ev hP hid) (Ev.now _) (fun k => by rw [if_pos rfl])), Ev.bind (hg ▸ isIdeal_ev l _) (ev_bind (orbit_ev hP hid) (Ev.now _) (fun k => by rw [if_pos rfl]))⟩
theorem tail_OrbitOf (l w : List Int) (a : Int) (b : Bool) (h : l.length ≤ 1048576) (hw : w.length ≤ 1048576) (h2 : Ev (fun k => impl_OrbitOf.f k l a) (w, b)) : Ev (fun k => laws_FnExactOrbitOf.j0 k a w b w b false l l) true := by
  have e2 : Ev (fun k => laws_FnExactOrbitOf.j2 k (marked w 1) (1 + (w.length : Int)) false) true := by
    refine ev_stepb (heldIntS_ev w 1 (by omega) (by omega) (by omega)) ?_ (fun k => by simp only [laws_FnExactOrbitOf.j2]; rw [if_neg (by decide)])
    exact ev_as (Ev.now _) (fun k => by rw [if_neg (by omega), if_pos rfl])
  have e1 : Ev (fun k => laws_FnExactOrbitOf.j1 k a w b w false l) true := by
    refine ev_stepb (markIntS_ev w 1 (by omega) (by omega) (by omega)) ?_ (fun k => by simp only [laws_FnExactOrbitOf.j1]; rw [if_neg (by decide)])
    refine ev_bind (heldIntS_ev w 1 (by omega) (by omega) (by omega)) ?_ (fun k => rfl)
    refine ev_bind (toPoset_ev l (by omega)) ?_ (fun k => by rw [if_neg (by omega), if_pos rfl])
    refine ev_bind h2 ?_ (fun k => rfl)
    refine ev_bind (eqIntS_ev w (by omega)) ?_ (fun k => rfl)
    exact ev_as e2 (fun k => by rw [if_pos rfl, bne_self_eq_false])
  refine ev_stepb (toPoset_ev l (by omega)) ?_ (fun k => by simp only [laws_FnExactOrbitOf.j0]; rw [if_neg (by decide)])
  refine ev_bind (eqPoset_ev l (by omega)) ?_ (fun k => rfl)
  refine ev_bind (markPoset_ev l 1 (by omega) (by omega) (by omega)) ?_ (fun k => by rw [if_pos rfl])
  refine ev_bind (eqIntS_ev w (by omega)) ?_ (fun k => by rw [if_neg (by omega)])
  exact ev_as e1 (fun k => by rw [if_pos rfl, bne_self_eq_false])
theorem FnExactOrbitOf (l : List Int) (a : Int) (hm : l.length ≤ 9223372036854775807) (_ : ∀ x ∈ l, (Lit.int .i64 x).wf = true) (_ : (Lit.int .i64 a).wf = true) : ∃ k, laws_FnExactOrbitOf.f k l a = some true := by
  apply Ev.rounds
  unfold laws_FnExactOrbitOf.f
  refine sz_bind l hm _ true true (fun h => ?_) (fun _ => rfl)
  obtain ⟨w, b, hw, h1, h2⟩ := both_OrbitOf l a
  refine Ev.bind (toPoset_ev l (by omega)) ?_
  refine Ev.bind h1 ?_
  refine Ev.bind (toPoset_ev l (by omega)) ?_
  refine Ev.bind h2 ?_
  refine Ev.bind (eqIntS_ev w (by omega)) ?_
  exact ev_as (tail_OrbitOf l w a b h (by omega) h2) (fun k => by rw [if_pos rfl, bne_self_eq_false])
end Go.Proofs.Ytcijgnfidipmaaa.B
