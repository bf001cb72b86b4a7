/- Is a set an ideal, as the reference asks. -/
import Derived.Test.YtcijgnfidipmaaaS
import Derived.Test.YtcijgnfidipmaaaB1
namespace Go.Proofs.Ytcijgnfidipmaaa.B
open Go.RowKit Go.Proofs.Ytcijgnfidipmaaa.M Go.Proofs.YtcijgnfidipmaaaW.PrintWords Go.Proofs.YtcijgnfidipmaaaW.PrintLast Go.Proofs.YtcijgnfidipmaaaW.PrintMore
attribute [local irreducible] Go.bits shl shr sd
theorem poIdeal_ev {l : List Int} {P : List Nat} (hP : Good l P) {s : Nat} (hs : s < 2 ^ P.length) : Ev (fun k => spec_poIdeal.f k l (s : Int)) (idl P s) := by
  have hn := hP.n10
  have hl := hP.length
  have H : ∀ (i : Nat) (_ : Unit), i ≤ P.length → True → Ev (fun k => spec_poIdeal.l0 k (s : Int) l (l.length : Int) (i : Int)) (allFrom (fun i => !s.testBit i || decide (sd (P.getD i 0) s = 0)) i P.length) := by
    refine ev_down (fun k (_ : Unit) i => spec_poIdeal.l0 k (s : Int) l (l.length : Int) i) (fun i _ => allFrom (fun i => !s.testBit i || decide (sd (P.getD i 0) s = 0)) i P.length) P.length (fun _ _ => True) ?_ ?_
    · intro _ _
      rw [allFrom_end]
      exact ev_step (Ev.now _) (fun k => by simp only [spec_poIdeal.l0]; rw [if_neg (by omega)])
    · intro i _ hi _ ih
      have c1 : (i : Int) < (l.length : Int) := by omega
      have c2 : 0 ≤ (i : Int) := by omega
      have hw : wrap64 ((i : Int) + 1) = (i : Int) + 1 := wrap64_id (by omega) (by omega)
      have hb := poIn_is (s := s) (e := i) (by omega)
      have ho := andNot_nat (hP.lt63 i) (p63 hs (by omega))
      have hr : rd l (i : Int) = ((P.getD i 0 : Nat) : Int) := by rw [hP.eq, rd_cast]
      rw [allFrom_step _ hi]
      cases hbit : s.testBit i with
      | true =>
        by_cases h0 : sd (P.getD i 0) s = 0
        · rw [decide_eq_true h0, Bool.or_true, Bool.true_and]
          exact ev_step (ih () trivial) (fun k => by simp only [spec_poIdeal.l0]; rw [if_pos c1, if_pos c2, if_pos c1, hb, hbit, Option.bind_some, if_pos rfl, hr, ho, if_pos (sd_zero_nat.2 h0), hw])
        · rw [decide_eq_false h0, Bool.not_true, Bool.or_false, Bool.false_and]
          exact ev_step (Ev.now _) (fun k => by simp only [spec_poIdeal.l0]; rw [if_pos c1, if_pos c2, if_pos c1, hb, hbit, Option.bind_some, if_pos rfl, hr, ho, if_neg (fun h => h0 (sd_zero_nat.1 h))])
      | false =>
        rw [Bool.not_false, Bool.true_or, Bool.true_and]
        exact ev_step (ih () trivial) (fun k => by simp only [spec_poIdeal.l0]; rw [if_pos c1, if_pos c2, if_pos c1, hb, hbit, Option.bind_some, if_neg (by decide), hw])
  unfold spec_poIdeal.f
  exact H 0 () (by omega) trivial
end Go.Proofs.Ytcijgnfidipmaaa.B
