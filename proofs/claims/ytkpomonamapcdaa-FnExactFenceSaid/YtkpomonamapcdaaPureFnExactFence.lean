/- The plain law of Fence: the two printed functions answer alike. -/
import Derived.Test.YtkpomonamapcdaaG
import Derived.Test.YtkpomonamapcdaaLh
import Derived.Test.YtkpomonamapcdaaB18
import Derived.Test.YtkpomonamapcdaaB19
namespace Go.Proofs.Ytkpomonamapcdaa.B
open Go.RowKit Go.Proofs.Ytkpomonamapcdaa.M Go.Proofs.YtkpomonamapcdaaW.PrintWords Go.Proofs.YtkpomonamapcdaaW.PrintLast Go.Proofs.YtkpomonamapcdaaW.PrintMore
attribute [local irreducible] Go.bits shl shr sd
def fences : List (Nat × List Int) := [(1, [0]), (2, [0, 1]), (3, [0, 0, 3]), (4, [0, 0, 3, 2]), (5, [0, 0, 0, 3, 6]), (6, [0, 0, 0, 3, 6, 4]), (7, [0, 0, 0, 0, 3, 6, 12]), (8, [0, 0, 0, 0, 3, 6, 12, 8]), (9, [0, 0, 0, 0, 0, 3, 6, 12, 24]), (10, [0, 0, 0, 0, 0, 3, 6, 12, 24, 16])]
theorem fences_all : fences.all (fun p => spec_Fence.f 200 (p.1 : Int) == some (p.2, true) && (impl_Fence.f 200 (p.1 : Int) == some (p.2, true) && decide (p.2.length ≤ 10))) = true := by decide +kernel
theorem fenced : ∀ n : Fin 11, 1 ≤ n.val → fences.any (fun p => p.1 == n.val) = true := by decide +kernel
theorem both_Fence (a : Int) : ∃ w r, w.length ≤ 10 ∧ Ev (fun k => spec_Fence.f k a) (w, r) ∧ Ev (fun k => impl_Fence.f k a) (w, r) := by
  by_cases ha : 1 ≤ a ∧ a ≤ 10
  · obtain ⟨n, rfl⟩ : ∃ n : Nat, a = (n : Int) := ⟨a.toNat, by omega⟩
    have H := fenced ⟨n, by omega⟩ (by simp only; omega)
    rw [List.any_eq_true] at H
    obtain ⟨⟨n', w⟩, hp, he⟩ := H
    simp only [beq_iff_eq] at he
    subst he
    have K := List.all_eq_true.1 fences_all _ hp
    simp only [Bool.and_eq_true, beq_iff_eq, decide_eq_true_eq] at K
    exact ⟨w, true, K.2.2, Ev.of (fun k => spec_Fence.mono _ k) K.1, Ev.of (fun k => impl_Fence.mono _ k) K.2.1⟩
  · unfold spec_Fence.f impl_Fence.f
    exact ⟨[], false, by simp, ev_as (Ev.now _) (fun k => by rw [l1In_is, decide_eq_false ha, Option.bind_some, if_neg (by decide)]), ev_as (Ev.now _) (fun k => by rw [within_is, decide_eq_false ha, Option.bind_some, if_neg (by decide)])⟩
theorem tail_Fence (a : Int) (w : List Int) (z : Bool) (hw : w.length ≤ 1048576) (h2 : Ev (fun k => impl_Fence.f k a) (w, z)) : Ev (fun k => laws_FnExactFence.j0 k a z false w w) true := by
  have e2 : Ev (fun k => laws_FnExactFence.j1 k (1 + (w.length : Int)) false (marked w 1)) true := by
    refine ev_stepb (heldPoset_ev w 1 (by omega) (by omega) (by omega)) ?_ (fun k => by simp only [laws_FnExactFence.j1]; rw [if_neg (by decide)])
    exact ev_as (Ev.now _) (fun k => by rw [if_neg (by omega), if_pos rfl])
  refine ev_stepb (markPoset_ev w 1 (by omega) (by omega) (by omega)) ?_ (fun k => by simp only [laws_FnExactFence.j0]; rw [if_neg (by decide)])
  refine ev_bind (heldPoset_ev w 1 (by omega) (by omega) (by omega)) ?_ (fun k => rfl)
  refine ev_bind h2 ?_ (fun k => by rw [if_neg (by omega), if_pos rfl])
  refine ev_bind (eqPoset_ev w (by omega)) ?_ (fun k => rfl)
  exact ev_as e2 (fun k => by rw [if_pos rfl, bne_self_eq_false])
theorem FnExactFence (a : Int) (_ : (Lit.int .i64 a).wf = true) : ∃ k, laws_FnExactFence.f k a = some true := by
  apply Ev.rounds
  unfold laws_FnExactFence.f
  obtain ⟨w, z, hw, h1, h2⟩ := both_Fence a
  refine Ev.bind h1 ?_
  refine Ev.bind h2 ?_
  refine Ev.bind (eqPoset_ev w (by omega)) ?_
  exact ev_as (tail_Fence a w z (by omega) h2) (fun k => by rw [if_pos rfl, bne_self_eq_false])
end Go.Proofs.Ytkpomonamapcdaa.B
