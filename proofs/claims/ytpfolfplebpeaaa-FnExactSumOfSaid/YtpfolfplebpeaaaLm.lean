/- Marks: what is written into a list that was handed back, and found there again. -/
import Derived.Test.YtpfolfplebpeaaaL0
import Derived.Test.YtpfolfplebpeaaaB4
namespace Go.Proofs.Ytpfolfplebpeaaa.B
open Go.RowKit Go.Proofs.Ytpfolfplebpeaaa.M Go.Proofs.YtpfolfplebpeaaaW.PrintWords Go.Proofs.YtpfolfplebpeaaaW.PrintLast Go.Proofs.YtpfolfplebpeaaaW.PrintMore
attribute [local irreducible] Go.bits shl shr sd
/-- The list with its places numbered from k on. -/
def marked (l : List Int) (k : Int) : List Int := (List.range l.length).map (fun j : Nat => k + (j : Int))
theorem markIntS_l0 (l : List Int) (k0 : Int) (hl : l.length ≤ 35184372088832) (h0 : 0 ≤ k0) (h1 : k0 ≤ 35184372088832) : ∀ (i : Nat) (st : List Int), i ≤ l.length → (st.length = l.length ∧ ∀ j, j < i → st.getD j 0 = k0 + (j : Int)) →
    Ev (fun k => laws_markIntS.l0 k st (k0 + (i : Int)) (i : Int)) (k0 + (l.length : Int), marked l k0) := by
  have H := ev_down (fun k (st : List Int) i => laws_markIntS.l0 k st (k0 + i) i) (fun _ _ => (k0 + (l.length : Int), marked l k0)) l.length (fun i st => st.length = l.length ∧ ∀ j, j < i → st.getD j 0 = k0 + (j : Int)) ?_ ?_
  · exact H
  · rintro st ⟨h2, h3⟩
    have : st = marked l k0 := by
      unfold marked
      apply List.ext_getElem
      · simpa using h2
      · intro i hi hi'
        have := h3 i (by omega)
        rw [List.getD_eq_getElem?_getD, List.getElem?_eq_getElem hi] at this
        simpa using this
    rw [this]
    exact ev_step (Ev.now _) (fun k => by simp only [laws_markIntS.l0]; rw [if_neg (by unfold marked; simp)])
  · rintro i st hi ⟨h2, h3⟩ ih
    have c1 : (i : Int) < (st.length : Int) := by omega
    have hw : wrap64 ((i : Int) + 1) = (i : Int) + 1 := wrap64_id (by omega) (by omega)
    have hw2 : wrap64 (k0 + (i : Int) + 1) = k0 + ((i : Int) + 1) := by rw [wrap64_id (by omega) (by omega)]; omega
    refine ev_step (ih (st.set i (k0 + (i : Int))) ⟨by rw [List.length_set]; exact h2, fun j hj => ?_⟩) (fun k => by simp only [laws_markIntS.l0]; rw [if_pos c1, if_pos (by omega), hw, hw2, Int.toNat_natCast])
    rw [List.getD_eq_getElem?_getD, List.getElem?_set]
    by_cases h : i = j
    · subst h
      rw [if_pos rfl, if_pos (by omega), Option.getD_some]
    · rw [if_neg h, ← List.getD_eq_getElem?_getD]
      exact h3 j (by omega)
theorem markIntS_ev (l : List Int) (k0 : Int) (hl : l.length ≤ 35184372088832) (h0 : 0 ≤ k0) (h1 : k0 ≤ 35184372088832) : Ev (fun k => laws_markIntS.f k l k0) (k0 + (l.length : Int), marked l k0) := by
  unfold laws_markIntS.f
  have := markIntS_l0 l k0 hl h0 h1 0 l (by omega) ⟨rfl, fun j h => absurd h (by omega)⟩
  simpa using this
theorem markPoset_ev (l : List Int) (k0 : Int) (hl : l.length ≤ 35184372088832) (h0 : 0 ≤ k0) (h1 : k0 ≤ 35184372088832) : Ev (fun k => laws_markPoset.f k l k0) (k0 + (l.length : Int), marked l k0) := by
  unfold laws_markPoset.f
  exact Ev.bind (markIntS_ev l k0 hl h0 h1) (Ev.now _)
theorem marked_length (l : List Int) (k : Int) : (marked l k).length = l.length := by unfold marked; simp
theorem marked_getD (l : List Int) (k : Int) {j : Nat} (h : j < l.length) : (marked l k).getD j 0 = k + (j : Int) := by
  unfold marked
  simp [List.getD_eq_getElem?_getD, h]
theorem heldIntS_ev (l : List Int) (k0 : Int) (hl : l.length ≤ 35184372088832) (h0 : 0 ≤ k0) (h1 : k0 ≤ 35184372088832) : Ev (fun k => laws_heldIntS.f k (marked l k0) k0) (k0 + (l.length : Int)) := by
  have H := ev_down (fun k (_ : Unit) i => laws_heldIntS.l0 k (marked l k0) (k0 + i) i) (fun _ _ => k0 + (l.length : Int)) l.length (fun _ _ => True) ?_ ?_ 0 () (by omega) trivial
  · unfold laws_heldIntS.f
    simpa using H
  · intro _ _
    exact ev_step (Ev.now _) (fun k => by simp only [laws_heldIntS.l0]; rw [if_neg (by rw [marked_length]; omega)])
  · intro i _ hi _ ih
    have c1 : (i : Int) < ((marked l k0).length : Int) := by rw [marked_length]; omega
    have hw : wrap64 ((i : Int) + 1) = (i : Int) + 1 := wrap64_id (by omega) (by omega)
    have hw2 : wrap64 (k0 + (i : Int) + 1) = k0 + ((i : Int) + 1) := by rw [wrap64_id (by omega) (by omega)]; omega
    exact ev_step (ih () trivial) (fun k => by simp only [laws_heldIntS.l0]; rw [if_pos c1, if_pos (by omega), rd_nat, marked_getD l k0 hi, if_pos rfl, hw, hw2])
end Go.Proofs.Ytpfolfplebpeaaa.B
