/- What the laws' own helpers answer: copies, comparisons. -/
import Derived.Test.YtpfolfplebpeaaaM
import Derived.Test.YtpfolfplebpeaaaB1
import Derived.Test.YtpfolfplebpeaaaB4
namespace Go.Proofs.Ytpfolfplebpeaaa.B
open Go.RowKit Go.Proofs.Ytpfolfplebpeaaa.M Go.Proofs.YtpfolfplebpeaaaW.PrintWords Go.Proofs.YtpfolfplebpeaaaW.PrintLast Go.Proofs.YtpfolfplebpeaaaW.PrintMore
attribute [local irreducible] Go.bits shl shr sd
theorem toIntS_l0 (l : List Int) (hl : l.length ≤ 35184372088832) : ∀ (i : Nat) (st : List Int), i ≤ l.length → (st.length = l.length ∧ ∀ j, j < i → st.getD j 0 = l.getD j 0) → Ev (fun k => laws_toIntS.l0 k l st (i : Int)) l := by
  refine ev_down (fun k (st : List Int) i => laws_toIntS.l0 k l st i) (fun _ _ => l) l.length (fun i st => st.length = l.length ∧ ∀ j, j < i → st.getD j 0 = l.getD j 0) ?_ ?_
  · rintro st ⟨h1, h2⟩
    have : st = l := List.ext_getElem h1 (fun i hi hi' => by
      have := h2 i hi'
      simpa [List.getD_eq_getElem?_getD, List.getElem?_eq_getElem hi, List.getElem?_eq_getElem hi'] using this)
    subst this
    exact ev_step (Ev.now _) (fun k => by simp only [laws_toIntS.l0]; rw [if_neg (by omega)])
  · rintro i st hi ⟨h1, h2⟩ ih
    have c1 : (i : Int) < (l.length : Int) := by omega
    have c2 : 0 ≤ (i : Int) := by omega
    have c3 : (i : Int) < (st.length : Int) := by omega
    have hw : wrap64 ((i : Int) + 1) = (i : Int) + 1 := wrap64_id (by omega) (by omega)
    refine ev_step (ih (st.set i (rd l (i : Int))) ⟨by rw [List.length_set]; exact h1, fun j hj => ?_⟩) (fun k => by simp only [laws_toIntS.l0]; rw [if_pos c1, if_pos c2, if_pos c3, hw, Int.toNat_natCast])
    rw [rd_nat, List.getD_eq_getElem?_getD, List.getElem?_set]
    by_cases h : i = j
    · subst h
      rw [if_pos rfl, if_pos (by omega), Option.getD_some]
    · rw [if_neg h, ← List.getD_eq_getElem?_getD]
      exact h2 j (by omega)
theorem toIntS_ev (l : List Int) (hl : l.length ≤ 35184372088832) : Ev (fun k => laws_toIntS.f k l) l := by
  unfold laws_toIntS.f
  refine ev_as (toIntS_l0 l hl 0 (List.replicate ((l.length : Int)).toNat 0) (by omega) ⟨by simp, fun j h => absurd h (by omega)⟩) (fun k => ?_)
  rw [if_pos (by omega), if_pos (by omega)]
  rfl
theorem eqIntS_l0 (l : List Int) (hl : l.length ≤ 35184372088832) : ∀ (i : Nat) (_ : Unit), i ≤ l.length → True → Ev (fun k => laws_eqIntS.l0 k l l (i : Int)) true := by
  refine ev_down (fun k (_ : Unit) i => laws_eqIntS.l0 k l l i) (fun _ _ => true) l.length (fun _ _ => True) ?_ ?_
  · intro _ _
    exact ev_step (Ev.now _) (fun k => by simp only [laws_eqIntS.l0]; rw [if_neg (by omega)])
  · intro i _ hi _ ih
    have c1 : (i : Int) < (l.length : Int) := by omega
    have hw : wrap64 ((i : Int) + 1) = (i : Int) + 1 := wrap64_id (by omega) (by omega)
    exact ev_step (ih () trivial) (fun k => by simp only [laws_eqIntS.l0]; rw [if_pos c1, if_pos (by omega), if_pos c1, if_pos trivial, hw])
theorem eqIntS_ev (l : List Int) (hl : l.length ≤ 35184372088832) : Ev (fun k => laws_eqIntS.f k l l) true := by
  unfold laws_eqIntS.f
  exact ev_as (eqIntS_l0 l hl 0 () (by omega) trivial) (fun k => by rw [if_pos rfl]; rfl)
theorem eqPoset_ev (l : List Int) (hl : l.length ≤ 35184372088832) : Ev (fun k => laws_eqPoset.f k l l) true := by
  unfold laws_eqPoset.f
  exact Ev.bind (eqIntS_ev l hl) (Ev.now _)
end Go.Proofs.Ytpfolfplebpeaaa.B
