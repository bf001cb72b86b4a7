/- Words of elements: what the program asks of one, and an ideal toggled at its elements. -/
import Derived.Test.YtodbkoipebnheaaMwrd
import Derived.Test.YtodbkoipebnheaaStoi
import Derived.Test.YtodbkoipebnheaaB11
import Derived.Test.YtodbkoipebnheaaB8
namespace Go.Proofs.Ytodbkoipebnheaa.B
open Go.RowKit Go.Proofs.Ytodbkoipebnheaa.M Go.Proofs.YtodbkoipebnheaaW.PrintWords Go.Proofs.YtodbkoipebnheaaW.PrintLast Go.Proofs.YtodbkoipebnheaaW.PrintMore
attribute [local irreducible] Go.bits shl shr sd
theorem areElements_ev {l : List Int} {P : List Nat} (hP : Good l P) (o : List Int) (m : Int) (hm : m ≤ 1048576) : Ev (fun k => impl_areElements.f k l o m) (wordB P m o) := by
  have hl := hP.length
  have hn := hP.n10
  have hn1 := hP.n1
  have hw : wrap64 ((l.length : Int) - 1) = (P.length : Int) - 1 := by rw [hl]; exact wrap64_id (by omega) (by omega)
  have hc : ∀ e, impl_areElements_1_c.f e l = some (!decide (0 ≤ e ∧ e ≤ (P.length : Int) - 1)) := by
    intro e
    unfold impl_areElements_1_c.f impl_Poset_n.f
    rw [Option.bind_some, hw, within_is, Option.bind_some]
  unfold impl_areElements.f wordB
  by_cases h : (o.length : Int) ≤ m
  · rw [decide_eq_true h, Bool.true_and]
    have H : ∀ (i : Nat) (_ : Unit), i ≤ o.length → True → Ev (fun k => slices_IndexFunc_int_int_at_impl_areElements_1.l0 k o (o.length : Int) (i : Int) l) (idx (fun e => !decide (0 ≤ e ∧ e ≤ (P.length : Int) - 1)) i (o.drop i)) := by
      refine ev_down (fun k (_ : Unit) i => slices_IndexFunc_int_int_at_impl_areElements_1.l0 k o (o.length : Int) i l) (fun i _ => idx (fun e => !decide (0 ≤ e ∧ e ≤ (P.length : Int) - 1)) i (o.drop i)) o.length (fun _ _ => True) ?_ ?_
      · intro _ _
        rw [List.drop_length]
        exact ev_step (Ev.now _) (fun k => by simp only [slices_IndexFunc_int_int_at_impl_areElements_1.l0]; rw [if_neg (by omega)]; rfl)
      · intro i _ hi _ ih
        have c1 : (i : Int) < (o.length : Int) := by omega
        have c2 : 0 ≤ (i : Int) := by omega
        have hw : wrap64 ((i : Int) + 1) = (i : Int) + 1 := wrap64_id (by omega) (by omega)
        have hci := hc (rd o (i : Int))
        rw [rd_nat] at hci
        rw [drop_step o 0 hi]
        unfold idx
        cases hb : (!decide (0 ≤ o.getD i 0 ∧ o.getD i 0 ≤ (P.length : Int) - 1)) with
        | true =>
          rw [if_pos rfl]
          exact ev_step (Ev.now _) (fun k => by simp only [slices_IndexFunc_int_int_at_impl_areElements_1.l0]; rw [if_pos c1, if_pos c2, if_pos c1, rd_nat, hci, hb, Option.bind_some, if_pos rfl])
        | false =>
          rw [if_neg (by decide)]
          exact ev_step (ih () trivial) (fun k => by simp only [slices_IndexFunc_int_int_at_impl_areElements_1.l0]; rw [if_pos c1, if_pos c2, if_pos c1, rd_nat, hci, hb, Option.bind_some, if_neg (by decide), hw])
    have hi : Ev (fun k => slices_IndexFunc_int_int_at_impl_areElements_1.f k o l) (idx (fun e => !decide (0 ≤ e ∧ e ≤ (P.length : Int) - 1)) 0 o) := by
      unfold slices_IndexFunc_int_int_at_impl_areElements_1.f
      have := H 0 () (by omega) trivial
      rwa [List.drop_zero] at this
    have hcf : Ev (fun k => slices_ContainsFunc_int_int_at_impl_areElements_1.f k o l) (o.any (fun e => !decide (0 ≤ e ∧ e ≤ (P.length : Int) - 1))) := by
      unfold slices_ContainsFunc_int_int_at_impl_areElements_1.f
      refine Ev.bind hi ?_
      rw [idx_any]
      exact Ev.now _
    refine ev_bind hcf ?_ (fun k => by rw [if_pos h])
    rw [range_any]
    exact Ev.now _
  · rw [decide_eq_false h, Bool.false_and]
    exact ev_as (Ev.now _) (fun k => by rw [if_neg h])
theorem toggles_ev {l : List Int} {P : List Nat} (hP : Good l P) (o : List Int) (ho : o.length ≤ 1048576) (hr : rangeB ((P.length : Int) - 1) o = true) {s : Nat} (hs : s < 2 ^ P.length) : Ev (fun k => impl_Poset_toggles.f k l (s : Int) o) ((togs P s o : Nat) : Int) := by
  have H : ∀ (i : Nat) (st : Nat), i ≤ o.length → st < 2 ^ P.length → Ev (fun k => impl_Poset_toggles.l0 k (st : Int) o (o.length : Int) (i : Int) l) ((togs P st (o.drop i) : Nat) : Int) := by
    refine ev_down (fun k (st : Nat) i => impl_Poset_toggles.l0 k (st : Int) o (o.length : Int) i l) (fun i st => ((togs P st (o.drop i) : Nat) : Int)) o.length (fun _ st => st < 2 ^ P.length) ?_ ?_
    · intro st _
      rw [List.drop_length]
      exact ev_step (Ev.now _) (fun k => by simp only [impl_Poset_toggles.l0]; rw [if_neg (by omega)]; rfl)
    · intro i st hi hst ih
      obtain ⟨e, he, hlt⟩ := range_at hr hi
      have c1 : (i : Int) < (o.length : Int) := by omega
      have c2 : 0 ≤ (i : Int) := by omega
      have hw : wrap64 ((i : Int) + 1) = (i : Int) + 1 := wrap64_id (by omega) (by omega)
      rw [drop_step o 0 hi, he]
      refine ev_stepb (toggle_ev hP hst hlt) ?_ (fun k => by simp only [impl_Poset_toggles.l0]; rw [if_pos c1, if_pos c2, if_pos c1, rd_nat, he])
      exact ev_as (ih _ (tog_lt hst hlt)) (fun k => by rw [hw]; rfl)
  unfold impl_Poset_toggles.f
  have := H 0 s (by omega) hs
  rwa [List.drop_zero] at this
end Go.Proofs.Ytodbkoipebnheaa.B
