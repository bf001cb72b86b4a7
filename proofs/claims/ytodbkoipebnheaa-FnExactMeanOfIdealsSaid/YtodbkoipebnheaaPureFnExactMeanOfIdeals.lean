/- The plain law of MeanOfIdeals: the two printed functions answer alike. -/
import Derived.Test.YtodbkoipebnheaaSids
import Derived.Test.YtodbkoipebnheaaSsize
import Derived.Test.YtodbkoipebnheaaSgcd
import Derived.Test.YtodbkoipebnheaaL
import Derived.Test.YtodbkoipebnheaaB34
import Derived.Test.YtodbkoipebnheaaB35
namespace Go.Proofs.Ytodbkoipebnheaa.B
open Go.RowKit Go.Proofs.Ytodbkoipebnheaa.M Go.Proofs.YtodbkoipebnheaaW.PrintWords Go.Proofs.YtodbkoipebnheaaW.PrintLast Go.Proofs.YtodbkoipebnheaaW.PrintMore
attribute [local irreducible] Go.bits shl shr sd
theorem pop_le (s : Nat) : pop s ≤ 10 := by unfold pop items; exact Nat.le_trans (List.length_filter_le _ _) (by simp)
def popSum (st : Nat) (o : List Nat) : Nat := o.foldl (fun st s => st + pop s) st
theorem obSum_ev (l : List Int) (o : List Nat) (ho : o.length ≤ 1024) (hs : ∀ s ∈ o, s < 1024) : Ev (fun k => spec_obSum.f k l (cast o) false) ((popSum 0 o : Nat) : Int) := by
  have H : ∀ (i : Nat) (st : Nat), i ≤ o.length → st ≤ 10 * i → Ev (fun k => spec_obSum.l0 k false (st : Int) (cast o) ((cast o).length : Int) (i : Int) l) ((popSum st (o.drop i) : Nat) : Int) := by
    refine ev_down (fun k (st : Nat) i => spec_obSum.l0 k false (st : Int) (cast o) ((cast o).length : Int) i l) (fun i st => ((popSum st (o.drop i) : Nat) : Int)) o.length (fun i st => st ≤ 10 * i) ?_ ?_
    · intro st _
      rw [List.drop_length]
      exact ev_step (Ev.now _) (fun k => by simp only [spec_obSum.l0]; rw [if_neg (by rw [cast_length]; omega)]; rfl)
    · intro i st hi hst ih
      obtain ⟨s, he⟩ : ∃ s, o.getD i 0 = s := ⟨_, rfl⟩
      have hm : s < 1024 := hs s (by rw [← he]; exact getD_memN hi)
      have hp := pop_le s
      have c1 : (i : Int) < ((cast o).length : Int) := by rw [cast_length]; omega
      have c2 : 0 ≤ (i : Int) := by omega
      have hw : wrap64 ((i : Int) + 1) = (i : Int) + 1 := wrap64_id (by omega) (by omega)
      have hw2 : wrap64 ((st : Int) + ((pop s : Nat) : Int)) = ((st + pop s : Nat) : Int) := by rw [wrap64_id (by omega) (by omega)]; omega
      have hr : rd (cast o) (i : Int) = (s : Int) := by rw [← he]; exact rd_cast _ _
      rw [drop_step o 0 hi, he]
      refine ev_stepb (obSize_ev hm) ?_ (fun k => by simp only [spec_obSum.l0]; rw [if_pos c1, if_pos c2, if_pos c1, if_neg (by decide), hr])
      exact ev_as (ih (st + pop s) (by omega)) (fun k => by rw [hw, hw2])
  unfold spec_obSum.f
  have := H 0 0 (by omega) (by omega)
  rwa [List.drop_zero] at this
theorem sum_ev (o : List Nat) (ho : o.length ≤ 1024) (hs : ∀ s ∈ o, s < 1024) : Ev (fun k => impl_sum_at_impl_size.f k (cast o)) ((popSum 0 o : Nat) : Int) := by
  have H : ∀ (i : Nat) (st : Nat), i ≤ o.length → st ≤ 10 * i → Ev (fun k => impl_sum_at_impl_size.l0 k (st : Int) (cast o) ((cast o).length : Int) (i : Int)) ((popSum st (o.drop i) : Nat) : Int) := by
    refine ev_down (fun k (st : Nat) i => impl_sum_at_impl_size.l0 k (st : Int) (cast o) ((cast o).length : Int) i) (fun i st => ((popSum st (o.drop i) : Nat) : Int)) o.length (fun i st => st ≤ 10 * i) ?_ ?_
    · intro st _
      rw [List.drop_length]
      exact ev_step (Ev.now _) (fun k => by simp only [impl_sum_at_impl_size.l0]; rw [if_neg (by rw [cast_length]; omega)]; rfl)
    · intro i st hi hst ih
      obtain ⟨s, he⟩ : ∃ s, o.getD i 0 = s := ⟨_, rfl⟩
      have hm : s < 1024 := hs s (by rw [← he]; exact getD_memN hi)
      have hp := pop_le s
      have c1 : (i : Int) < ((cast o).length : Int) := by rw [cast_length]; omega
      have c2 : 0 ≤ (i : Int) := by omega
      have hw : wrap64 ((i : Int) + 1) = (i : Int) + 1 := wrap64_id (by omega) (by omega)
      have hw2 : wrap64 ((st : Int) + ((pop s : Nat) : Int)) = ((st + pop s : Nat) : Int) := by rw [wrap64_id (by omega) (by omega)]; omega
      have hr : rd (cast o) (i : Int) = (s : Int) := by rw [← he]; exact rd_cast _ _
      rw [drop_step o 0 hi, he]
      exact ev_step (ih (st + pop s) (by omega)) (fun k => by simp only [impl_sum_at_impl_size.l0]; rw [if_pos c1, if_pos c2, if_pos c1, hr, size_is hm, Option.bind_some, hw, hw2])
  unfold impl_sum_at_impl_size.f
  have := H 0 0 (by omega) (by omega)
  rwa [List.drop_zero] at this
theorem ids_pos (P : List Nat) : 1 ≤ (ids P).length := by
  have h0 : 0 ∈ ids P := mem_ids.2 ⟨Nat.two_pow_pos _, by rw [idl_iff]; intro i _ h; rw [Nat.zero_testBit] at h; cases h⟩
  exact List.length_pos_of_mem h0
theorem both_MeanOfIdeals (l : List Int) : ∃ r, Ev (fun k => spec_MeanOfIdeals.f k l) r ∧ Ev (fun k => impl_MeanOfIdeals.f k l) r := by
  unfold spec_MeanOfIdeals.f impl_MeanOfIdeals.f
  cases hg : goodB l with
  | false => exact ⟨(0, 0, false), Ev.bind (hg ▸ poGood_ev l) (ev_as (Ev.now _) (fun k => by rw [if_neg (by decide)])), Ev.bind (hg ▸ IsPoset_ev l) (ev_as (Ev.now _) (fun k => by rw [if_neg (by decide)]))⟩
  | true =>
    obtain ⟨P, hP⟩ := good_of hg
    have hlen := ids_length hP.n10
    have hs : ∀ s ∈ ids P, s < 1024 := fun s hs => lt1024 (mem_ids.1 hs).1 hP.n10
    have h1 := ids_pos P
    have hg0 : 1 ≤ Nat.gcd (popSum 0 (ids P)) (ids P).length := Nat.gcd_pos_of_pos_right _ h1
    have hc : ((cast (ids P)).length : Int) = ((ids P).length : Int) := cast_length _
    refine ⟨(wrap64 (Int.tdiv ((popSum 0 (ids P) : Nat) : Int) ((Nat.gcd (popSum 0 (ids P)) (ids P).length : Nat) : Int)), wrap64 (((ids P).length : Int) / ((Nat.gcd (popSum 0 (ids P)) (ids P).length : Nat) : Int)), true), Ev.bind (hg ▸ poGood_ev l) ?_, Ev.bind (hg ▸ IsPoset_ev l) ?_⟩
    · refine ev_bind (poIdeals_ev hP) ?_ (fun k => by rw [if_pos rfl])
      refine ev_bind (obSum_ev l (ids P) hlen hs) ?_ (fun k => rfl)
      refine ev_bind (tgGcd_ev (ids P).length (popSum 0 (ids P))) ?_ (fun k => by rw [hc])
      exact ev_as (Ev.now _) (fun k => by rw [if_neg (by omega)])
    · refine ev_bind (ideals_ev hP) ?_ (fun k => by rw [if_pos rfl])
      refine ev_bind (sum_ev (ids P) hlen hs) ?_ (fun k => rfl)
      refine ev_bind (gcd_ev (ids P).length (popSum 0 (ids P))) ?_ (fun k => by rw [hc])
      exact ev_as (Ev.now _) (fun k => by rw [if_neg (by omega)])
theorem tail_MeanOfIdeals (l : List Int) (h : l.length ≤ 1048576) : Ev (fun k => laws_FnExactMeanOfIdeals.j0 k false l l) true := by
  refine ev_step (f := fun k => (laws_toPoset.f k l).bind fun t => (laws_eqPoset.f k l t).bind fun u => if u = true then some true else some false) ?_ (fun k => by simp only [laws_FnExactMeanOfIdeals.j0]; rw [if_neg (by decide)])
  refine Ev.bind (toPoset_ev l (by omega)) ?_
  exact Ev.bind (eqPoset_ev l (by omega)) (Ev.now _)
theorem FnExactMeanOfIdeals (l : List Int) (hm : l.length ≤ 9223372036854775807) (_ : ∀ x ∈ l, (Lit.int .i64 x).wf = true) : ∃ k, laws_FnExactMeanOfIdeals.f k l = some true := by
  apply Ev.rounds
  unfold laws_FnExactMeanOfIdeals.f
  refine sz_bind l hm _ true true (fun h => ?_) (fun _ => rfl)
  obtain ⟨r, h1, h2⟩ := both_MeanOfIdeals l
  refine Ev.bind (toPoset_ev l (by omega)) ?_
  refine Ev.bind h1 ?_
  refine Ev.bind (toPoset_ev l (by omega)) ?_
  refine Ev.bind h2 ?_
  exact ev_as (tail_MeanOfIdeals l h) (fun k => by rw [if_pos rfl, if_pos rfl, bne_self_eq_false])
end Go.Proofs.Ytodbkoipebnheaa.B
