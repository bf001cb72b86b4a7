/- The plain law of ToggleAt: the two printed functions answer alike. -/
import Derived.Test.YtodbkoipebnheaaStel
import Derived.Test.YtodbkoipebnheaaStog
import Derived.Test.YtodbkoipebnheaaSwri
import Derived.Test.YtodbkoipebnheaaSin
import Derived.Test.YtodbkoipebnheaaL
import Derived.Test.YtodbkoipebnheaaB38
namespace Go.Proofs.Ytodbkoipebnheaa.B
open Go.RowKit Go.Proofs.Ytodbkoipebnheaa.M Go.Proofs.YtodbkoipebnheaaW.PrintWords Go.Proofs.YtodbkoipebnheaaW.PrintLast Go.Proofs.YtodbkoipebnheaaW.PrintMore
attribute [local irreducible] Go.bits shl shr sd
theorem both_ToggleAt (l : List Int) (a b : Int) : ∃ r, Ev (fun k => spec_ToggleAt.f k l a b) r ∧ Ev (fun k => impl_ToggleAt.f k l a b) r := by
  unfold spec_ToggleAt.f impl_ToggleAt.f impl_ToggleWord.f
  cases hg : inB l a with
  | false => exact ⟨(0, false), Ev.bind (hg ▸ tgIn_ev l a) (ev_as (Ev.now _) (fun k => by rw [if_neg (by decide)])), Ev.bind (a := (0, false)) (Ev.bind (hg ▸ isIdeal_ev l a) (ev_as (Ev.now _) (fun k => by rw [if_neg (by decide)]))) (Ev.now _)⟩
  | true =>
    obtain ⟨P, s, hP, rfl, hs, hi⟩ := in_nat hg
    have hel : wordB P 100 [b] = elB P b := by
      unfold wordB elB rangeB
      simp
    cases hw : elB P b with
    | false =>
      refine ⟨(0, false), Ev.bind (hg ▸ tgIn_ev l _) (ev_as (Ev.now _) (fun k => by rw [if_pos rfl, tgElement_is hP, hw, Option.bind_some, if_neg (by decide)])), Ev.bind (a := (0, false)) (Ev.bind (hg ▸ isIdeal_ev l _) (ev_bind (hw ▸ hel ▸ areElements_ev hP [b] 100 (by decide)) ?_ (fun k => by rw [if_pos rfl]))) (Ev.now _)⟩
      exact ev_as (Ev.now _) (fun k => by rw [if_neg (by decide)])
    | true =>
      obtain ⟨e, rfl, he⟩ := elB_nat hw
      have hr : rangeB ((P.length : Int) - 1) [(e : Int)] = true := by
        have h := hel.trans hw
        unfold wordB at h
        rw [Bool.and_eq_true] at h
        exact h.2
      refine ⟨(((tog P s e : Nat) : Int), true), Ev.bind (hg ▸ tgIn_ev l _) ?_, Ev.bind (a := (((tog P s e : Nat) : Int), true)) (Ev.bind (hg ▸ isIdeal_ev l _) (ev_bind (hw ▸ hel ▸ areElements_ev hP [(e : Int)] 100 (by decide)) ?_ (fun k => by rw [if_pos rfl]))) (Ev.now _)⟩
      · exact ev_bind (tgAt_ev hP hs he) (Ev.now _) (fun k => by rw [if_pos rfl, tgElement_is hP, hw, Option.bind_some, if_pos rfl])
      · exact ev_bind (toggles_ev hP [(e : Int)] (by simp) hr hs) (Ev.now _) (fun k => by rw [if_pos rfl])
theorem tail_ToggleAt (l : List Int) (h : l.length ≤ 1048576) : Ev (fun k => laws_FnExactToggleAt.j0 k false l l) true := by
  refine ev_step (f := fun k => (laws_toPoset.f k l).bind fun t => (laws_eqPoset.f k l t).bind fun u => if u = true then some true else some false) ?_ (fun k => by simp only [laws_FnExactToggleAt.j0]; rw [if_neg (by decide)])
  refine Ev.bind (toPoset_ev l (by omega)) ?_
  exact Ev.bind (eqPoset_ev l (by omega)) (Ev.now _)
theorem FnExactToggleAt (l : List Int) (a b : Int) (hm : l.length ≤ 9223372036854775807) (_ : ∀ x ∈ l, (Lit.int .i64 x).wf = true) (_ : (Lit.int .i64 a).wf = true) (_ : (Lit.int .i64 b).wf = true) : ∃ k, laws_FnExactToggleAt.f k l a b = some true := by
  apply Ev.rounds
  unfold laws_FnExactToggleAt.f
  refine sz_bind l hm _ true true (fun h => ?_) (fun _ => rfl)
  obtain ⟨r, h1, h2⟩ := both_ToggleAt l a b
  refine Ev.bind (toPoset_ev l (by omega)) ?_
  refine Ev.bind h1 ?_
  refine Ev.bind (toPoset_ev l (by omega)) ?_
  refine Ev.bind h2 ?_
  exact ev_as (tail_ToggleAt l h) (fun k => by first | (rw [if_pos rfl, bne_self_eq_false]) | (rw [bne_self_eq_false, bne_self_eq_false, if_neg (by decide)]))
end Go.Proofs.Ytodbkoipebnheaa.B
