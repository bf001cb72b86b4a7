/- Greatest common divisors, and means. -/
import Derived.Test.YtodbkoipebnheaaG
import Derived.Test.YtodbkoipebnheaaB34
namespace Go.Proofs.Ytodbkoipebnheaa.B
open Go.RowKit Go.Proofs.Ytodbkoipebnheaa.M Go.Proofs.YtodbkoipebnheaaW.PrintWords Go.Proofs.YtodbkoipebnheaaW.PrintLast Go.Proofs.YtodbkoipebnheaaW.PrintMore
attribute [local irreducible] Go.bits shl shr sd
theorem tmod_nat (a b : Nat) : Int.tmod (a : Int) (b : Int) = ((a % b : Nat) : Int) := by
  rw [Int.tmod_eq_emod_of_nonneg (Int.natCast_nonneg _), Int.natCast_emod]
theorem gcd_turn (a b : Nat) : Nat.gcd a b = Nat.gcd b (a % b) := by
  rw [Nat.gcd_comm a b, Nat.gcd_rec b a, Nat.gcd_comm]
theorem tgGcd_ev : ∀ (b a : Nat), Ev (fun k => spec_tgGcd.f k (a : Int) (b : Int)) ((Nat.gcd a b : Nat) : Int) := by
  intro b
  induction b using Nat.strongRecOn with
  | _ b ih =>
    intro a
    rcases Nat.eq_zero_or_pos b with rfl | hb
    · rw [Nat.gcd_zero_right]
      exact ev_step (Ev.now _) (fun k => by simp only [spec_tgGcd.f]; rw [if_pos (by rfl)])
    · rw [gcd_turn]
      refine ev_stepb (ih (a % b) (Nat.mod_lt _ hb) b) (Ev.now _) (fun k => by simp only [spec_tgGcd.f]; rw [if_neg (by omega), tmod_nat])
theorem gcd_ev : ∀ (b a : Nat), Ev (fun k => impl_gcd.f k (a : Int) (b : Int)) ((Nat.gcd a b : Nat) : Int) := by
  unfold impl_gcd.f
  intro b
  induction b using Nat.strongRecOn with
  | _ b ih =>
    intro a
    rcases Nat.eq_zero_or_pos b with rfl | hb
    · rw [Nat.gcd_zero_right]
      exact ev_step (Ev.now _) (fun k => by simp only [impl_gcd.l0]; rw [if_pos (by rfl)])
    · rw [gcd_turn]
      refine ev_step (ih (a % b) (Nat.mod_lt _ hb) b) (fun k => by simp only [impl_gcd.l0]; rw [if_neg (by omega), tmod_nat])
end Go.Proofs.Ytodbkoipebnheaa.B
