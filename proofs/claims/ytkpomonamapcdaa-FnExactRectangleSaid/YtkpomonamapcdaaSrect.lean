/- Rectangles: there are 27 with at most ten elements; the program's and the reference's are the same posets. -/
import Derived.Test.YtkpomonamapcdaaS
import Derived.Test.YtkpomonamapcdaaB14
import Derived.Test.YtkpomonamapcdaaB8
namespace Go.Proofs.Ytkpomonamapcdaa.B
open Go.RowKit Go.Proofs.Ytkpomonamapcdaa.M Go.Proofs.YtkpomonamapcdaaW.PrintWords Go.Proofs.YtkpomonamapcdaaW.PrintLast Go.Proofs.YtkpomonamapcdaaW.PrintMore
def sidesB (a b : Int) : Bool := decide (1 ≤ a ∧ a ≤ 10) && (decide (1 ≤ b ∧ b ≤ 10) && decide (a * b ≤ 10))
theorem mul_bounds {a b : Int} {m n : Int} (h1 : 0 ≤ a) (h2 : a ≤ m) (h3 : 0 ≤ b) (h4 : b ≤ n) : 0 ≤ a * b ∧ a * b ≤ m * n :=
  ⟨Int.mul_nonneg h1 h3, Int.mul_le_mul h2 h4 h3 (by omega)⟩
theorem poSides_is (a b : Int) : spec_poSides.f a b = some (sidesB a b) := by
  unfold spec_poSides.f sidesB
  rw [l1In_is, l1In_is]
  by_cases ha : 1 ≤ a ∧ a ≤ 10
  · rw [decide_eq_true ha, Option.bind_some, if_pos rfl]
    by_cases hb : 1 ≤ b ∧ b ≤ 10
    · rw [decide_eq_true hb, Option.bind_some, if_pos rfl]
      have hm := mul_bounds (a := a) (b := b) (m := 10) (n := 10) (by omega) ha.2 (by omega) hb.2
      rw [wrap64_id (by omega) (by omega)]
      rfl
    · rw [decide_eq_false hb, Option.bind_some, if_neg (by decide)]
      rfl
  · rw [decide_eq_false ha, Option.bind_some, if_neg (by decide)]
    rfl
theorem areSides_is (a b : Int) : impl_areSides.f a b 10 = some (sidesB a b) := by
  unfold impl_areSides.f sidesB
  rw [within_is, within_is]
  by_cases ha : 1 ≤ a ∧ a ≤ 10
  · rw [decide_eq_true ha, Option.bind_some, if_pos rfl]
    by_cases hb : 1 ≤ b ∧ b ≤ 10
    · rw [decide_eq_true hb, Option.bind_some, if_pos rfl]
      have hm := mul_bounds (a := a) (b := b) (m := 10) (n := 10) (by omega) ha.2 (by omega) hb.2
      rw [wrap64_id (by omega) (by omega)]
      rfl
    · rw [decide_eq_false hb, Option.bind_some, if_neg (by decide)]
      rfl
  · rw [decide_eq_false ha, Option.bind_some, if_neg (by decide)]
    rfl
theorem sides_nat {a b : Int} (h : sidesB a b = true) : ∃ m n : Nat, a = (m : Int) ∧ b = (n : Int) ∧ 1 ≤ m ∧ m ≤ 10 ∧ 1 ≤ n ∧ n ≤ 10 ∧ m * n ≤ 10 := by
  unfold sidesB at h
  rw [Bool.and_eq_true, Bool.and_eq_true, decide_eq_true_eq, decide_eq_true_eq, decide_eq_true_eq] at h
  obtain ⟨m, rfl⟩ : ∃ m : Nat, a = (m : Int) := ⟨a.toNat, by omega⟩
  obtain ⟨n, rfl⟩ : ∃ n : Nat, b = (n : Int) := ⟨b.toNat, by omega⟩
  refine ⟨m, n, rfl, rfl, by omega, by omega, by omega, by omega, ?_⟩
  have := h.2.2
  rw [← Int.natCast_mul] at this
  omega
def table : List (Nat × Nat × List Int) := [(1, 1, [0]), (1, 2, [0, 1]), (1, 3, [0, 1, 3]), (1, 4, [0, 1, 3, 7]), (1, 5, [0, 1, 3, 7, 15]), (1, 6, [0, 1, 3, 7, 15, 31]), (1, 7, [0, 1, 3, 7, 15, 31, 63]), (1, 8, [0, 1, 3, 7, 15, 31, 63, 127]), (1, 9, [0, 1, 3, 7, 15, 31, 63, 127, 255]), (1, 10, [0, 1, 3, 7, 15, 31, 63, 127, 255, 511]), (2, 1, [0, 1]), (2, 2, [0, 1, 1, 7]), (2, 3, [0, 1, 3, 1, 11, 31]), (2, 4, [0, 1, 3, 7, 1, 19, 55, 127]), (2, 5, [0, 1, 3, 7, 15, 1, 35, 103, 239, 511]), (3, 1, [0, 1, 3]), (3, 2, [0, 1, 1, 7, 5, 31]), (3, 3, [0, 1, 3, 1, 11, 31, 9, 91, 255]), (4, 1, [0, 1, 3, 7]), (4, 2, [0, 1, 1, 7, 5, 31, 21, 127]), (5, 1, [0, 1, 3, 7, 15]), (5, 2, [0, 1, 1, 7, 5, 31, 21, 127, 85, 511]), (6, 1, [0, 1, 3, 7, 15, 31]), (7, 1, [0, 1, 3, 7, 15, 31, 63]), (8, 1, [0, 1, 3, 7, 15, 31, 63, 127]), (9, 1, [0, 1, 3, 7, 15, 31, 63, 127, 255]), (10, 1, [0, 1, 3, 7, 15, 31, 63, 127, 255, 511])]
theorem rects : table.all (fun p => spec_poRectangle.f 200 (p.1 : Int) (p.2.1 : Int) == some p.2.2 && (impl_rectangle.f 200 (p.1 : Int) (p.2.1 : Int) == some p.2.2 && (goodB p.2.2 && p.2.2.length == p.1 * p.2.1))) = true := by decide +kernel
theorem tabled : ∀ m n : Fin 11, 1 ≤ m.val → 1 ≤ n.val → m.val * n.val ≤ 10 → table.any (fun p => p.1 == m.val && p.2.1 == n.val) = true := by decide +kernel
theorem rect_ev {m n : Nat} (h1 : 1 ≤ m) (h2 : m ≤ 10) (h3 : 1 ≤ n) (h4 : n ≤ 10) (h5 : m * n ≤ 10) : ∃ l P, Good l P ∧ P.length = m * n ∧ Ev (fun k => spec_poRectangle.f k (m : Int) (n : Int)) l ∧ Ev (fun k => impl_rectangle.f k (m : Int) (n : Int)) l := by
  have H := tabled ⟨m, by omega⟩ ⟨n, by omega⟩ h1 h3 h5
  rw [List.any_eq_true] at H
  obtain ⟨⟨m', n', l⟩, hp, he⟩ := H
  simp only [Bool.and_eq_true, beq_iff_eq] at he
  obtain ⟨rfl, rfl⟩ := he
  have K := List.all_eq_true.1 rects _ hp
  simp only [Bool.and_eq_true, beq_iff_eq] at K
  obtain ⟨k1, k2, k3, k4⟩ := K
  obtain ⟨P, hP⟩ := good_of k3
  exact ⟨l, P, hP, by have := hP.length; omega, Ev.of (fun k => spec_poRectangle.mono _ _ k) k1, Ev.of (fun k => impl_rectangle.mono _ _ k) k2⟩
end Go.Proofs.Ytkpomonamapcdaa.B
