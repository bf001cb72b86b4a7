/- The plain law of ToggleWord: the two printed functions answer alike. -/
import Derived.Test.YtodbkoipebnheaaSwrd
import Derived.Test.YtodbkoipebnheaaSwri
import Derived.Test.YtodbkoipebnheaaSin
import Derived.Test.YtodbkoipebnheaaL
import Derived.Test.YtodbkoipebnheaaB19
import Derived.Test.YtodbkoipebnheaaB39
import Derived.Test.YtodbkoipebnheaaB40
namespace Go.Proofs.Ytodbkoipebnheaa.B
open Go.RowKit Go.Proofs.Ytodbkoipebnheaa.M Go.Proofs.YtodbkoipebnheaaW.PrintWords Go.Proofs.YtodbkoipebnheaaW.PrintLast Go.Proofs.YtodbkoipebnheaaW.PrintMore
attribute [local irreducible] Go.bits shl shr sd
theorem both_ToggleWord (l : List Int) (a : Int) (o : List Int) : ∃ r, Ev (fun k => spec_ToggleWord.f k l a o) r ∧ Ev (fun k => impl_ToggleWord.f k l a o) r := by
  unfold spec_ToggleWord.f impl_ToggleWord.f
  cases hg : inB l a with
  | false => exact ⟨(0, false), Ev.bind (hg ▸ tgIn_ev l a) (ev_as (Ev.now _) (fun k => by rw [if_neg (by decide)])), Ev.bind (hg ▸ isIdeal_ev l a) (ev_as (Ev.now _) (fun k => by rw [if_neg (by decide)]))⟩
  | true =>
    obtain ⟨P, s, hP, rfl, hs, hi⟩ := in_nat hg
    cases hw : wordB P 100 o with
    | false =>
      refine ⟨(0, false), Ev.bind (hg ▸ tgIn_ev l _) (ev_bind (hw ▸ tgIsWord_ev hP o) ?_ (fun k => by rw [if_pos rfl])), Ev.bind (hg ▸ isIdeal_ev l _) (ev_bind (hw ▸ areElements_ev hP o 100 (by decide)) ?_ (fun k => by rw [if_pos rfl]))⟩
      · exact ev_as (Ev.now _) (fun k => by rw [if_neg (by decide)])
      · exact ev_as (Ev.now _) (fun k => by rw [if_neg (by decide)])
    | true =>
      have hw' := hw
      unfold wordB at hw'
      rw [Bool.and_eq_true, decide_eq_true_eq] at hw'
      refine ⟨(((togs P s o : Nat) : Int), true), Ev.bind (hg ▸ tgIn_ev l _) (ev_bind (hw ▸ tgIsWord_ev hP o) ?_ (fun k => by rw [if_pos rfl])), Ev.bind (hg ▸ isIdeal_ev l _) (ev_bind (hw ▸ areElements_ev hP o 100 (by decide)) ?_ (fun k => by rw [if_pos rfl]))⟩
      · exact ev_bind (tgWord_ev hP o (by omega) hw'.2 hs) (Ev.now _) (fun k => by rw [if_pos rfl])
      · exact ev_bind (toggles_ev hP o (by omega) hw'.2 hs) (Ev.now _) (fun k => by rw [if_pos rfl])
theorem tail_ToggleWord (l o : List Int) (h : l.length ≤ 1048576) (ho : o.length ≤ 1048576) : Ev (fun k => laws_FnExactToggleWord.j0 k o o false l l) true := by
  refine ev_step (f := fun k => (laws_toPoset.f k l).bind fun t => (laws_eqPoset.f k l t).bind fun u => if u = true then (laws_toIntS.f k o).bind fun t => (laws_eqIntS.f k o t).bind fun u => if u = true then some true else some false else some false) ?_ (fun k => by simp only [laws_FnExactToggleWord.j0]; rw [if_neg (by decide)])
  refine Ev.bind (toPoset_ev l (by omega)) ?_
  refine Ev.bind (eqPoset_ev l (by omega)) ?_
  refine ev_bind (toIntS_ev o (by omega)) ?_ (fun k => by rw [if_pos rfl])
  exact Ev.bind (eqIntS_ev o (by omega)) (Ev.now _)
theorem FnExactToggleWord (l : List Int) (a : Int) (o : List Int) (hm : l.length ≤ 9223372036854775807) (_ : ∀ x ∈ l, (Lit.int .i64 x).wf = true) (_ : (Lit.int .i64 a).wf = true) (_ : o.length ≤ 9223372036854775807) (_ : ∀ x ∈ o, (Lit.int .i64 x).wf = true) : ∃ k, laws_FnExactToggleWord.f k l a o = some true := by
  apply Ev.rounds
  unfold laws_FnExactToggleWord.f
  by_cases ho : (o.length : Int) > 1048576
  · exact ev_as (Ev.now _) (fun k => by rw [if_pos ho])
  simp only [if_neg ho]
  have ho' : o.length ≤ 1048576 := by omega
  refine sz_bind l hm _ true true (fun h => ?_) (fun _ => rfl)
  obtain ⟨r, h1, h2⟩ := both_ToggleWord l a o
  refine Ev.bind (toPoset_ev l (by omega)) ?_
  refine Ev.bind (toIntS_ev o (by omega)) ?_
  refine Ev.bind h1 ?_
  refine Ev.bind (toPoset_ev l (by omega)) ?_
  refine Ev.bind (toIntS_ev o (by omega)) ?_
  refine Ev.bind h2 ?_
  exact ev_as (tail_ToggleWord l o h ho') (fun k => by first | (rw [if_pos rfl, bne_self_eq_false]) | (rw [bne_self_eq_false, bne_self_eq_false, if_neg (by decide)]))
end Go.Proofs.Ytodbkoipebnheaa.B
