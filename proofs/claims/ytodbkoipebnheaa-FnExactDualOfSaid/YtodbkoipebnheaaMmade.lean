/- Lists of sets made by marking one relation after the other, told by their bits. -/
import Derived.Test.YtodbkoipebnheaaG
namespace Go.Proofs.Ytodbkoipebnheaa.B
open Go.RowKit Go.Proofs.Ytodbkoipebnheaa.M Go.Proofs.YtodbkoipebnheaaW.PrintWords Go.Proofs.YtodbkoipebnheaaW.PrintLast Go.Proofs.YtodbkoipebnheaaW.PrintMore
attribute [local irreducible] Go.bits shl shr sd
def orAt (o : List Nat) (i j : Nat) : List Nat := o.set i (o.getD i 0 ||| 2 ^ j)
theorem orAt_length (o : List Nat) (i j : Nat) : (orAt o i j).length = o.length := by unfold orAt; simp
theorem orAt_bit {o : List Nat} {i : Nat} (hi : i < o.length) (j a b : Nat) : ((orAt o i j).getD a 0).testBit b = true ↔ (o.getD a 0).testBit b = true ∨ (a = i ∧ b = j) := by
  unfold orAt
  rw [List.getD_eq_getElem?_getD, List.getElem?_set]
  by_cases h : i = a
  · subst h
    rw [if_pos rfl, if_pos hi, Option.getD_some, Nat.testBit_or, Bool.or_eq_true, Nat.testBit_two_pow, decide_eq_true_eq]
    constructor
    · rintro (h | h)
      · exact .inl h
      · exact .inr ⟨rfl, h.symm⟩
    · rintro (h | ⟨_, h⟩)
      · exact .inl h
      · exact .inr h.symm
  · rw [if_neg h, ← List.getD_eq_getElem?_getD]
    constructor
    · exact .inl
    · rintro (h' | ⟨h', _⟩)
      · exact h'
      · exact absurd h'.symm h
theorem lists_eq {a b : List Nat} (h : a.length = b.length) (hb : ∀ i j, i < a.length → ((a.getD i 0).testBit j = true ↔ (b.getD i 0).testBit j = true)) : a = b := by
  apply List.ext_getElem h
  intro i h1 h2
  apply Nat.eq_of_testBit_eq
  intro j
  have := hb i j h1
  rw [List.getD_eq_getElem?_getD, List.getElem?_eq_getElem h1, Option.getD_some, List.getD_eq_getElem?_getD, List.getElem?_eq_getElem h2, Option.getD_some] at this
  rw [Bool.eq_iff_iff]
  exact this
/-- The list of n sets in which something tells what is less. -/
def madeRow (f : Nat → Nat → Bool) (o : List Nat) (i : Nat) : List Nat := foldFrom (fun o j => if f j i = true then orAt o i j else o) 0 i o
def made (f : Nat → Nat → Bool) (n : Nat) : List Nat := foldFrom (madeRow f) 0 n (List.replicate n 0)
theorem madeRow_bit (f : Nat → Nat → Bool) {o : List Nat} {n i : Nat} (hn : o.length = n) (hi : i < n) : (madeRow f o i).length = n ∧ ∀ a b, ((madeRow f o i).getD a 0).testBit b = true ↔ (o.getD a 0).testBit b = true ∨ (a = i ∧ b < i ∧ f b i = true) := by
  unfold madeRow
  refine foldFrom_inv (fun o j => if f j i = true then orAt o i j else o) (fun j o' => o'.length = n ∧ ∀ a b, (o'.getD a 0).testBit b = true ↔ (o.getD a 0).testBit b = true ∨ (a = i ∧ b < j ∧ f b i = true)) i ?_ 0 o (by omega) ⟨hn, fun a b => ⟨.inl, fun h => h.elim id (fun h => absurd h.2.1 (by omega))⟩⟩
  rintro j o' hj ⟨h1, h2⟩
  cases hf : f j i with
  | true =>
    simp only [if_true]
    refine ⟨by rw [orAt_length]; exact h1, fun a b => ?_⟩
    rw [orAt_bit (by omega), h2]
    constructor
    · rintro ((h | ⟨h3, h4, h5⟩) | ⟨h3, h4⟩)
      · exact .inl h
      · exact .inr ⟨h3, by omega, h5⟩
      · exact .inr ⟨h3, by omega, by rw [h4]; exact hf⟩
    · rintro (h | ⟨h3, h4, h5⟩)
      · exact .inl (.inl h)
      · rcases Nat.lt_or_ge b j with h6 | h6
        · exact .inl (.inr ⟨h3, h6, h5⟩)
        · exact .inr ⟨h3, by omega⟩
  | false =>
    simp only [Bool.false_eq_true, if_false]
    refine ⟨h1, fun a b => ?_⟩
    rw [h2]
    constructor
    · rintro (h | ⟨h3, h4, h5⟩)
      · exact .inl h
      · exact .inr ⟨h3, by omega, h5⟩
    · rintro (h | ⟨h3, h4, h5⟩)
      · exact .inl h
      · rcases Nat.lt_or_ge b j with h6 | h6
        · exact .inr ⟨h3, h6, h5⟩
        · rw [show b = j by omega, hf] at h5; cases h5
theorem made_bit (f : Nat → Nat → Bool) (n : Nat) : (made f n).length = n ∧ ∀ a b, ((made f n).getD a 0).testBit b = true ↔ a < n ∧ b < a ∧ f b a = true := by
  unfold made
  refine foldFrom_inv (madeRow f) (fun i o => o.length = n ∧ ∀ a b, (o.getD a 0).testBit b = true ↔ a < i ∧ b < a ∧ f b a = true) n ?_ 0 _ (by omega) ⟨by simp, fun a b => ?_⟩
  · rintro i o hi ⟨h1, h2⟩
    obtain ⟨h3, h4⟩ := madeRow_bit f h1 hi
    refine ⟨h3, fun a b => ?_⟩
    rw [h4, h2]
    constructor
    · rintro (⟨h5, h6, h7⟩ | ⟨rfl, h6, h7⟩)
      · exact ⟨by omega, h6, h7⟩
      · exact ⟨by omega, h6, h7⟩
    · rintro ⟨h5, h6, h7⟩
      rcases Nat.lt_or_ge a i with h8 | h8
      · exact .inl ⟨h8, h6, h7⟩
      · obtain rfl : a = i := by omega
        exact .inr ⟨rfl, h6, h7⟩
  · constructor
    · intro h
      rw [List.getD_eq_getElem?_getD, List.getElem?_replicate] at h
      split at h <;> simp at h
    · rintro ⟨h, _⟩; omega
/-- Entries stay below 1024. -/
def small (o : List Nat) : Prop := ∀ a, o.getD a 0 < 1024
theorem small_replicate (n : Nat) : small (List.replicate n 0) := by
  intro a
  rw [List.getD_eq_getElem?_getD, List.getElem?_replicate]
  split <;> simp
theorem small_orAt {o : List Nat} (h : small o) {i j : Nat} (hj : j < 10) : small (orAt o i j) := by
  intro a
  have h2 : 2 ^ j < 2 ^ 10 := Nat.pow_lt_pow_right (by decide) hj
  have h3 : o.getD i 0 ||| 2 ^ j < 2 ^ 10 := Nat.or_lt_two_pow (h i) h2
  unfold orAt
  rw [List.getD_eq_getElem?_getD, List.getElem?_set]
  split
  · split
    · exact h3
    · simp
  · rw [← List.getD_eq_getElem?_getD]; exact h a
theorem cast_orAt {o : List Nat} {i j : Nat} (h : small o) (hj : j < 10) : (cast o).set i (Go.bits .or .i64 (rd (cast o) (i : Int)) (shl .i64 1 (j : Int))) = cast (orAt o i j) := by
  have h2 : 2 ^ j < 2 ^ 10 := Nat.pow_lt_pow_right (by decide) hj
  have h3 := h i
  rw [show rd (cast o) (i : Int) = ((o.getD i 0 : Nat) : Int) from rd_cast o i, shl_one (by omega), or_nat (by omega) (by omega)]
  unfold cast orAt
  rw [List.map_set]
end Go.Proofs.Ytodbkoipebnheaa.B
