/- Sums of sizes: the reference's and the program's. -/
import Derived.Test.YtcijgnfidipmaaaSsize
import Derived.Test.YtcijgnfidipmaaaB13
namespace Go.Proofs.Ytcijgnfidipmaaa.B
open Go.RowKit Go.Proofs.Ytcijgnfidipmaaa.M Go.Proofs.YtcijgnfidipmaaaW.PrintWords Go.Proofs.YtcijgnfidipmaaaW.PrintLast Go.Proofs.YtcijgnfidipmaaaW.PrintMore
attribute [local irreducible] Go.bits shl shr sd
theorem pop_le (s : Nat) : pop s ≤ 10 := by unfold pop items; exact Nat.le_trans (List.length_filter_le _ _) (by simp)
def popSum (st : Nat) (o : List Nat) : Nat := o.foldl (fun st s => st + pop s) st
theorem obSum_ev (l : List Int) (o : List Nat) (ho : o.length ≤ 1024) (hs : ∀ s ∈ o, s < 1024) : Ev (fun k => spec_obSum.f k l (cast o) false) ((popSum 0 o : Nat) : Int) := by
  have H : ∀ (i : Nat) (st : Nat), i ≤ o.length → st ≤ 10 * i → Ev (fun k => spec_obSum.l0 k false (st : Int) (cast o) ((cast o).length : Int) (i : Int) l) ((popSum st (o.drop i) : Nat) : Int) := by
    refine ev_down (fun k (st : Nat) i => spec_obSum.l0 k false (st : Int) (cast o) ((cast o).length : Int) i l) (fun i st => ((popSum st (o.drop i) : Nat) : Int)) o.length (fun i st => st ≤ 10 * i) ?_ ?_
    · intro st _
      rw [List.drop_length]
      exact ev_step (Ev.now _) (fun k => by simp only [spec_obSum.l0]; rw [if_neg (by rw [cast_length]; omega)]; rfl)
    · intro i st hi hst ih
      obtain ⟨s, he⟩ : ∃ s, o.getD i 0 = s := ⟨_, rfl⟩
      have hm : s < 1024 := hs s (by rw [← he]; exact getD_memN hi)
      have hp := pop_le s
      have c1 : (i : Int) < ((cast o).length : Int) := by rw [cast_length]; omega
      have c2 : 0 ≤ (i : Int) := by omega
      have hw : wrap64 ((i : Int) + 1) = (i : Int) + 1 := wrap64_id (by omega) (by omega)
      have hw2 : wrap64 ((st : Int) + ((pop s : Nat) : Int)) = ((st + pop s : Nat) : Int) := by rw [wrap64_id (by omega) (by omega)]; omega
      have hr : rd (cast o) (i : Int) = (s : Int) := by rw [← he]; exact rd_cast _ _
      rw [drop_step o 0 hi, he]
      refine ev_stepb (obSize_ev hm) ?_ (fun k => by simp only [spec_obSum.l0]; rw [if_pos c1, if_pos c2, if_pos c1, if_neg (by decide), hr])
      exact ev_as (ih (st + pop s) (by omega)) (fun k => by rw [hw, hw2])
  unfold spec_obSum.f
  have := H 0 0 (by omega) (by omega)
  rwa [List.drop_zero] at this
theorem sum_ev (o : List Nat) (ho : o.length ≤ 1024) (hs : ∀ s ∈ o, s < 1024) : Ev (fun k => impl_sum_at_impl_size.f k (cast o)) ((popSum 0 o : Nat) : Int) := by
  have H : ∀ (i : Nat) (st : Nat), i ≤ o.length → st ≤ 10 * i → Ev (fun k => impl_sum_at_impl_size.l0 k (st : Int) (cast o) ((cast o).length : Int) (i : Int)) ((popSum st (o.drop i) : Nat) : Int) := by
    refine ev_down (fun k (st : Nat) i => impl_sum_at_impl_size.l0 k (st : Int) (cast o) ((cast o).length : Int) i) (fun i st => ((popSum st (o.drop i) : Nat) : Int)) o.length (fun i st => st ≤ 10 * i) ?_ ?_
    · intro st _
      rw [List.drop_length]
      exact ev_step (Ev.now _) (fun k => by simp only [impl_sum_at_impl_size.l0]; rw [if_neg (by rw [cast_length]; omega)]; rfl)
    · intro i st hi hst ih
      obtain ⟨s, he⟩ : ∃ s, o.getD i 0 = s := ⟨_, rfl⟩
      have hm : s < 1024 := hs s (by rw [← he]; exact getD_memN hi)
      have hp := pop_le s
      have c1 : (i : Int) < ((cast o).length : Int) := by rw [cast_length]; omega
      have c2 : 0 ≤ (i : Int) := by omega
      have hw : wrap64 ((i : Int) + 1) = (i : Int) + 1 := wrap64_id (by omega) (by omega)
      have hw2 : wrap64 ((st : Int) + ((pop s : Nat) : Int)) = ((st + pop s : Nat) : Int) := by rw [wrap64_id (by omega) (by omega)]; omega
      have hr : rd (cast o) (i : Int) = (s : Int) := by rw [← he]; exact rd_cast _ _
      rw [drop_step o 0 hi, he]
      exact ev_step (ih (st + pop s) (by omega)) (fun k => by simp only [impl_sum_at_impl_size.l0]; rw [if_pos c1, if_pos c2, if_pos c1, hr, size_is hm, Option.bind_some, hw, hw2])
  unfold impl_sum_at_impl_size.f
  have := H 0 0 (by omega) (by omega)
  rwa [List.drop_zero] at this
end Go.Proofs.Ytcijgnfidipmaaa.B
