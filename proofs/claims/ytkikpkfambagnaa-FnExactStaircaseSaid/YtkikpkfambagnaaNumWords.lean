/- Rows told apart by when they were made: their blocks' numbers lie below or above a bound. Ours; nothing here is trusted. -/
import Derived.Test.YtkikpkfambagnaaWWords
import Derived.Test.YtkikpkfambagnaaWApart
import Derived.Test.YtkikpkfambagnaaWKept
import Derived.Test.YtkikpkfambagnaaWMore
namespace Go.Proofs.YtkikpkfambagnaaW.PrintWords
open Go.RowKit
theorem num_of {w w1 : World} (_ : Below w.heap.size w w1) : ∃ N : Nat, N = w.heap.size := ⟨_, rfl⟩
theorem typed_no {w : World} {g t : Nat} {cs : Array Value} {l : List Nat} (hb : w.heap[g]? = some (.cells cs t (0, 0))) (hq : ∃ q, q ∈ l ∧ ∃ cells, w.heap[g]? = some (.cells cells q (0, 0))) (ht : ∀ q, q ∈ l → q ≠ t) : False := by
  obtain ⟨q, hq, cells, hc⟩ := hq
  rw [hb] at hc
  injection hc with hc
  injection hc with _ hc
  exact ht q hq hc.symm
namespace Kd
section
variable {α : Type} {d : Kd α} {e N M base : Nat} {w w1 W : World} {ok : Nat → Prop} {v : Value} {xs : List α}
theorem R_numE (hN : N = M) (h : d.R e w base (fun k => ok k ∧ k < M) v xs) : d.R e w base (fun k => ok k ∧ k < N) v xs := by subst hN; exact h
theorem S_numE (hN : N = M) (h : Kd.S d e w base (fun k => ok k ∧ k < M) v xs) : Kd.S d e w base (fun k => ok k ∧ k < N) v xs := by subst hN; exact h
theorem R_numN (hN : N = W.heap.size) (h : d.R e w1 W.heap.size ok v xs) : d.R e w1 W.heap.size (fun k => ok k ∧ N ≤ k) v xs := by
  subst hN
  exact R_mono (R_bound h) (fun k hk => ⟨hk.1, hk.2.1⟩)
theorem S_numN (hN : N = W.heap.size) (h : Kd.S d e w1 W.heap.size ok v xs) : Kd.S d e w1 W.heap.size (fun k => ok k ∧ N ≤ k) v xs := by
  subst hN
  exact S_mono (S_bound h) (fun k hk => ⟨hk.1, hk.2.1⟩)
end
end Kd
end Go.Proofs.YtkikpkfambagnaaW.PrintWords
