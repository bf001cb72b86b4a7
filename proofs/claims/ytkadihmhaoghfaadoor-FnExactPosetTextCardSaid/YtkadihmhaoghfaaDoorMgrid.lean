/- Lists of pairs, gathered row by row. -/
import Derived.Test.YtkadihmhaoghfaaDoorMcom
namespace Go.Proofs.YtkadihmhaoghfaaDoor.B
open Go.RowKit Go.Proofs.YtkadihmhaoghfaaDoor.M Go.Proofs.YtkadihmhaoghfaaDoorW.PrintWords Go.Proofs.YtkadihmhaoghfaaDoorW.PrintLast Go.Proofs.YtkadihmhaoghfaaDoorW.PrintMore
attribute [local irreducible] Go.bits shl shr sd
def gcell (f : Nat → Nat → Bool) (j i : Nat) : List (List Int) := if f j i = true then [[(j : Int), (i : Int)]] else []
def grow (f : Nat → Nat → Bool) (n j i : Nat) : List (List Int) := (List.range' i (n - i)).flatMap (gcell f j)
def grid (f : Nat → Nat → Bool) (n j : Nat) : List (List Int) := (List.range' j (n - j)).flatMap (fun j => grow f n j 0)
theorem grow_end (f : Nat → Nat → Bool) (n j : Nat) : grow f n j n = [] := by unfold grow; simp
theorem grow_step (f : Nat → Nat → Bool) {n j i : Nat} (h : i < n) : grow f n j i = gcell f j i ++ grow f n j (i + 1) := by
  unfold grow
  obtain ⟨d, hd⟩ : ∃ d, n - i = d + 1 := ⟨n - i - 1, by omega⟩
  rw [hd, show n - (i + 1) = d by omega, List.range'_succ, List.flatMap_cons]
theorem grid_end (f : Nat → Nat → Bool) (n : Nat) : grid f n n = [] := by unfold grid; simp
theorem grid_step (f : Nat → Nat → Bool) {n j : Nat} (h : j < n) : grid f n j = grow f n j 0 ++ grid f n (j + 1) := by
  unfold grid
  obtain ⟨d, hd⟩ : ∃ d, n - j = d + 1 := ⟨n - j - 1, by omega⟩
  rw [hd, show n - (j + 1) = d by omega, List.range'_succ, List.flatMap_cons]
theorem mem_grid {f : Nat → Nat → Bool} {n : Nat} {c : List Int} (h : c ∈ grid f n 0) : ∃ j i : Nat, c = [(j : Int), (i : Int)] ∧ j < n ∧ i < n ∧ f j i = true := by
  unfold grid at h
  rw [List.mem_flatMap] at h
  obtain ⟨j, hj, h⟩ := h
  unfold grow at h
  rw [List.mem_flatMap] at h
  obtain ⟨i, hi, h⟩ := h
  rw [List.mem_range'_1] at hj hi
  unfold gcell at h
  split at h
  · rename_i hc
    rw [List.mem_singleton] at h
    exact ⟨j, i, h, by omega, by omega, hc⟩
  · cases h
theorem grid_length (f : Nat → Nat → Bool) {n : Nat} (hn : n ≤ 10) : (grid f n 0).length ≤ 100 := by
  have hc : ∀ j i, (gcell f j i).length ≤ 1 := by intro j i; unfold gcell; split <;> simp
  have hr : ∀ j (l : List Nat), (l.flatMap (gcell f j)).length ≤ l.length := by
    intro j l
    induction l with
    | nil => simp
    | cons x xs ih => rw [List.flatMap_cons, List.length_append, List.length_cons]; have := hc j x; omega
  have hw : ∀ (l : List Nat), (l.flatMap (fun j => grow f n j 0)).length ≤ 10 * l.length := by
    intro l
    induction l with
    | nil => simp
    | cons x xs ih =>
      rw [List.flatMap_cons, List.length_append, List.length_cons]
      have := hr x (List.range' 0 (n - 0))
      rw [List.length_range'] at this
      unfold grow at ih ⊢
      omega
  have := hw (List.range' 0 (n - 0))
  rw [List.length_range'] at this
  unfold grid
  omega
def covF (P : List Nat) (j i : Nat) : Bool := (cov P i).testBit j
theorem cov_from {l : List Int} {P : List Nat} (hP : Good l P) {i j : Nat} (hi : i < P.length) : (cov P i).testBit j = ((P.getD i 0).testBit j && allFrom (fun k => !((P.getD i 0).testBit k && (P.getD k 0).testBit j)) (j + 1) i) := by
  rw [Bool.eq_iff_iff, cov_bit, Bool.and_eq_true, allFrom_iff]
  constructor
  · rintro ⟨h1, h2⟩
    refine ⟨h1, fun k hk hki => ?_⟩
    cases hb : (P.getD i 0).testBit k with
    | false => rfl
    | true => rw [h2 k (by omega) hb]; rfl
  · rintro ⟨h1, h2⟩
    refine ⟨h1, fun k hk hb => ?_⟩
    cases hkj : (P.getD k 0).testBit j with
    | false => rfl
    | true =>
      have a := (below_lt hP hkj).1
      have b := (below_lt hP hb).1
      have := h2 k (by omega) b
      rw [hb, hkj] at this
      cases this
/-- What the heights of a pair tell. -/
def rankAt (hs c : List Int) : Bool := decide (rd hs (rd c 1) = wrap64 (rd hs (rd c 0) + 1))
def idxL (p : List Int → Bool) : Nat → List (List Int) → Int
  | _, [] => -1
  | i, e :: es => if p e = true then (i : Int) else idxL p (i + 1) es
theorem idxL_any (p : List Int → Bool) : ∀ (o : List (List Int)) (i : Nat), decide (idxL p i o ≥ 0) = o.any p := by
  intro o
  induction o with
  | nil => intro i; rfl
  | cons e es ih =>
    intro i
    unfold idxL
    rw [List.any_cons]
    cases h : p e with
    | true => rw [if_pos rfl, Bool.true_or]; exact decide_eq_true (by omega)
    | false => rw [if_neg (by decide), Bool.false_or]; exact ih _
end Go.Proofs.YtkadihmhaoghfaaDoor.B
