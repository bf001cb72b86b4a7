/- The least ideal with a set, as the reference makes it. -/
import Derived.Test.YtcijgnfidipmaaaS
import Derived.Test.YtcijgnfidipmaaaB4
namespace Go.Proofs.Ytcijgnfidipmaaa.B
open Go.RowKit Go.Proofs.Ytcijgnfidipmaaa.M Go.Proofs.YtcijgnfidipmaaaW.PrintWords Go.Proofs.YtcijgnfidipmaaaW.PrintLast Go.Proofs.YtcijgnfidipmaaaW.PrintMore
attribute [local irreducible] Go.bits shl shr sd
theorem poDown_ev {l : List Int} {P : List Nat} (hP : Good l P) {s : Nat} (hs : s < 2 ^ P.length) : Ev (fun k => spec_poDown.f k l (s : Int)) ((dn P s : Nat) : Int) := by
  have hn := hP.n10
  have hl := hP.length
  have H : ∀ (i : Nat) (st : Nat), i ≤ P.length → st < 2 ^ P.length → Ev (fun k => spec_poDown.l0 k (s : Int) (st : Int) l (l.length : Int) (i : Int)) ((foldFrom (fun o i => if s.testBit i then o ||| P.getD i 0 else o) i P.length st : Nat) : Int) := by
    refine ev_down (fun k (st : Nat) i => spec_poDown.l0 k (s : Int) (st : Int) l (l.length : Int) i) (fun i st => ((foldFrom (fun o i => if s.testBit i then o ||| P.getD i 0 else o) i P.length st : Nat) : Int)) P.length (fun _ st => st < 2 ^ P.length) ?_ ?_
    · intro st _
      rw [foldFrom_end]
      exact ev_step (Ev.now _) (fun k => by simp only [spec_poDown.l0]; rw [if_neg (by omega)])
    · intro i st hi hst ih
      have c1 : (i : Int) < (l.length : Int) := by omega
      have c2 : 0 ≤ (i : Int) := by omega
      have hw : wrap64 ((i : Int) + 1) = (i : Int) + 1 := wrap64_id (by omega) (by omega)
      have hb := poIn_is (s := s) (e := i) (by omega)
      have ho := or_nat (p63 hst (by omega)) (hP.lt63 i)
      have hr : rd l (i : Int) = ((P.getD i 0 : Nat) : Int) := by rw [hP.eq, rd_cast]
      rw [foldFrom_step _ hi]
      cases hbit : s.testBit i with
      | true => exact ev_step (ih _ (Nat.or_lt_two_pow hst (hP.ltn i))) (fun k => by simp only [spec_poDown.l0]; rw [if_pos c1, if_pos c2, if_pos c1, hb, hbit, Option.bind_some, if_pos rfl, hr, ho, hw]; rfl)
      | false => exact ev_step (ih _ hst) (fun k => by simp only [spec_poDown.l0]; rw [if_pos c1, if_pos c2, if_pos c1, hb, hbit, Option.bind_some, if_neg (by decide), hw]; rfl)
  unfold spec_poDown.f
  exact H 0 s (by omega) hs
end Go.Proofs.Ytcijgnfidipmaaa.B
