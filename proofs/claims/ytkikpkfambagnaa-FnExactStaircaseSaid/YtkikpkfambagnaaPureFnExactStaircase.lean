/- The plain law of Staircase: the two printed functions answer alike. -/
import Derived.Test.YtkikpkfambagnaaG
import Derived.Test.YtkikpkfambagnaaLh
import Derived.Test.YtkikpkfambagnaaB18
import Derived.Test.YtkikpkfambagnaaB19
import Derived.Test.YtkikpkfambagnaaB20
namespace Go.Proofs.Ytkikpkfambagnaa.B
open Go.RowKit Go.Proofs.Ytkikpkfambagnaa.M Go.Proofs.YtkikpkfambagnaaW.PrintWords Go.Proofs.YtkikpkfambagnaaW.PrintLast Go.Proofs.YtkikpkfambagnaaW.PrintMore
attribute [local irreducible] Go.bits shl shr sd
def stairs : List (Nat × List Int) := [(1, [0]), (2, [0, 0, 3]), (3, [0, 0, 0, 3, 6, 31]), (4, [0, 0, 0, 0, 3, 6, 12, 55, 110, 511])]
theorem stairs_all : stairs.all (fun p => spec_Staircase.f 200 (p.1 : Int) == some (p.2, true) && (impl_Staircase.f 200 (p.1 : Int) == some (p.2, true) && decide (p.2.length ≤ 10))) = true := by decide +kernel
theorem staired : ∀ n : Fin 5, 1 ≤ n.val → stairs.any (fun p => p.1 == n.val) = true := by decide +kernel
theorem both_Staircase (a : Int) : ∃ w r, w.length ≤ 10 ∧ Ev (fun k => spec_Staircase.f k a) (w, r) ∧ Ev (fun k => impl_Staircase.f k a) (w, r) := by
  by_cases ha : 1 ≤ a ∧ a ≤ 4
  · obtain ⟨n, rfl⟩ : ∃ n : Nat, a = (n : Int) := ⟨a.toNat, by omega⟩
    have H := staired ⟨n, by omega⟩ (by simp only; omega)
    rw [List.any_eq_true] at H
    obtain ⟨⟨n', w⟩, hp, he⟩ := H
    simp only [beq_iff_eq] at he
    subst he
    have K := List.all_eq_true.1 stairs_all _ hp
    simp only [Bool.and_eq_true, beq_iff_eq, decide_eq_true_eq] at K
    exact ⟨w, true, K.2.2, Ev.of (fun k => spec_Staircase.mono _ k) K.1, Ev.of (fun k => impl_Staircase.mono _ k) K.2.1⟩
  · unfold spec_Staircase.f impl_Staircase.f
    exact ⟨[], false, by simp, ev_as (Ev.now _) (fun k => by rw [l1In_is, decide_eq_false ha, Option.bind_some, if_neg (by decide)]), ev_as (Ev.now _) (fun k => by rw [within_is, decide_eq_false ha, Option.bind_some, if_neg (by decide)])⟩
theorem tail_Staircase (a : Int) (w : List Int) (z : Bool) (hw : w.length ≤ 1048576) (h2 : Ev (fun k => impl_Staircase.f k a) (w, z)) : Ev (fun k => laws_FnExactStaircase.j0 k a z false w w) true := by
  have e2 : Ev (fun k => laws_FnExactStaircase.j1 k (1 + (w.length : Int)) false (marked w 1)) true := by
    refine ev_stepb (heldPoset_ev w 1 (by omega) (by omega) (by omega)) ?_ (fun k => by simp only [laws_FnExactStaircase.j1]; rw [if_neg (by decide)])
    exact ev_as (Ev.now _) (fun k => by rw [if_neg (by omega), if_pos rfl])
  refine ev_stepb (markPoset_ev w 1 (by omega) (by omega) (by omega)) ?_ (fun k => by simp only [laws_FnExactStaircase.j0]; rw [if_neg (by decide)])
  refine ev_bind (heldPoset_ev w 1 (by omega) (by omega) (by omega)) ?_ (fun k => rfl)
  refine ev_bind h2 ?_ (fun k => by rw [if_neg (by omega), if_pos rfl])
  refine ev_bind (eqPoset_ev w (by omega)) ?_ (fun k => rfl)
  exact ev_as e2 (fun k => by rw [if_pos rfl, bne_self_eq_false])
theorem FnExactStaircase (a : Int) (_ : (Lit.int .i64 a).wf = true) : ∃ k, laws_FnExactStaircase.f k a = some true := by
  apply Ev.rounds
  unfold laws_FnExactStaircase.f
  obtain ⟨w, z, hw, h1, h2⟩ := both_Staircase a
  refine Ev.bind h1 ?_
  refine Ev.bind h2 ?_
  refine Ev.bind (eqPoset_ev w (by omega)) ?_
  exact ev_as (tail_Staircase a w z (by omega) h2) (fun k => by rw [if_pos rfl, bne_self_eq_false])
end Go.Proofs.Ytkikpkfambagnaa.B
