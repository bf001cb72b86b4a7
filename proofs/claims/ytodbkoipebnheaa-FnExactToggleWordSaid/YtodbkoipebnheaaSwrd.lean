/- Words of elements: what the reference asks of one, and an ideal toggled at its elements. -/
import Derived.Test.YtodbkoipebnheaaSall
import Derived.Test.YtodbkoipebnheaaStog
import Derived.Test.YtodbkoipebnheaaB39
namespace Go.Proofs.Ytodbkoipebnheaa.B
open Go.RowKit Go.Proofs.Ytodbkoipebnheaa.M Go.Proofs.YtodbkoipebnheaaW.PrintWords Go.Proofs.YtodbkoipebnheaaW.PrintLast Go.Proofs.YtodbkoipebnheaaW.PrintMore
attribute [local irreducible] Go.bits shl shr sd
theorem tgIsWord_ev {l : List Int} {P : List Nat} (hP : Good l P) (o : List Int) : Ev (fun k => spec_tgIsWord.f k l o) (wordB P 100 o) := by
  have hl := hP.length
  have hn := hP.n10
  have hn1 := hP.n1
  have hw : wrap64 ((l.length : Int) - 1) = (P.length : Int) - 1 := by rw [hl]; exact wrap64_id (by omega) (by omega)
  unfold spec_tgIsWord.f wordB
  by_cases h : (o.length : Int) ≤ 100
  · rw [decide_eq_true h, Bool.true_and]
    refine ev_bind (l1All_ev o (by omega) ((P.length : Int) - 1)) (Ev.now _) (fun k => by rw [if_pos h, hw])
  · rw [decide_eq_false h, Bool.false_and]
    exact ev_as (Ev.now _) (fun k => by rw [if_neg h])
theorem tgWord_ev {l : List Int} {P : List Nat} (hP : Good l P) (o : List Int) (ho : o.length ≤ 1048576) (hr : rangeB ((P.length : Int) - 1) o = true) {s : Nat} (hs : s < 2 ^ P.length) : Ev (fun k => spec_tgWord.f k l (s : Int) o) ((togs P s o : Nat) : Int) := by
  have H : ∀ (i : Nat) (st : Nat), i ≤ o.length → st < 2 ^ P.length → Ev (fun k => spec_tgWord.l0 k (st : Int) o (o.length : Int) (i : Int) l) ((togs P st (o.drop i) : Nat) : Int) := by
    refine ev_down (fun k (st : Nat) i => spec_tgWord.l0 k (st : Int) o (o.length : Int) i l) (fun i st => ((togs P st (o.drop i) : Nat) : Int)) o.length (fun _ st => st < 2 ^ P.length) ?_ ?_
    · intro st _
      rw [List.drop_length]
      exact ev_step (Ev.now _) (fun k => by simp only [spec_tgWord.l0]; rw [if_neg (by omega)]; rfl)
    · intro i st hi hst ih
      obtain ⟨e, he, hlt⟩ := range_at hr hi
      have c1 : (i : Int) < (o.length : Int) := by omega
      have c2 : 0 ≤ (i : Int) := by omega
      have hw : wrap64 ((i : Int) + 1) = (i : Int) + 1 := wrap64_id (by omega) (by omega)
      rw [drop_step o 0 hi, he]
      refine ev_stepb (tgAt_ev hP hst hlt) ?_ (fun k => by simp only [spec_tgWord.l0]; rw [if_pos c1, if_pos c2, if_pos c1, rd_nat, he])
      exact ev_as (ih _ (tog_lt hst hlt)) (fun k => by rw [hw]; rfl)
  unfold spec_tgWord.f
  have := H 0 s (by omega) hs
  rwa [List.drop_zero] at this
end Go.Proofs.Ytodbkoipebnheaa.B
