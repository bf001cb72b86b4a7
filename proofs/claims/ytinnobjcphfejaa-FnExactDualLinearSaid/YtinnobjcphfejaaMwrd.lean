/- Words of elements, plain. -/
import Derived.Test.YtinnobjcphfejaaG
import Derived.Test.YtinnobjcphfejaaMrow
namespace Go.Proofs.Ytinnobjcphfejaa.B
open Go.RowKit Go.Proofs.Ytinnobjcphfejaa.M Go.Proofs.YtinnobjcphfejaaW.PrintWords Go.Proofs.YtinnobjcphfejaaW.PrintLast Go.Proofs.YtinnobjcphfejaaW.PrintMore
attribute [local irreducible] Go.bits shl shr sd
theorem getD_mem {o : List Int} {i : Nat} (h : i < o.length) : o.getD i 0 ∈ o := by
  rw [List.getD_eq_getElem?_getD, List.getElem?_eq_getElem h, Option.getD_some]; exact List.getElem_mem h
def rangeB (n : Int) (o : List Int) : Bool := o.all (fun e => decide (0 ≤ e ∧ e ≤ n))
def wordB (P : List Nat) (m : Int) (o : List Int) : Bool := decide ((o.length : Int) ≤ m) && rangeB ((P.length : Int) - 1) o
/-- A set toggled at the elements of a word. -/
def togs (P : List Nat) (s : Nat) (o : List Int) : Nat := o.foldl (fun s e => tog P s e.toNat) s
theorem range_at {n : Nat} {o : List Int} (hr : rangeB ((n : Int) - 1) o = true) {i : Nat} (hi : i < o.length) : ∃ e : Nat, o.getD i 0 = (e : Int) ∧ e < n := by
  unfold rangeB at hr
  rw [List.all_eq_true] at hr
  have := hr _ (getD_mem hi)
  rw [decide_eq_true_eq] at this
  exact ⟨(o.getD i 0).toNat, by omega, by omega⟩
theorem range_mem {n : Nat} {o : List Int} (hr : rangeB ((n : Int) - 1) o = true) {e : Int} (he : e ∈ o) : e.toNat < n := by
  unfold rangeB at hr
  rw [List.all_eq_true] at hr
  have := hr _ he
  rw [decide_eq_true_eq] at this
  omega
theorem togs_ok {P : List Nat} : ∀ (o : List Int) (s : Nat), (∀ e ∈ o, e.toNat < P.length) → s < 2 ^ P.length → togs P s o < 2 ^ P.length ∧ (idl P s = true → idl P (togs P s o) = true) := by
  intro o
  induction o with
  | nil => intro s _ hs; exact ⟨hs, fun h => h⟩
  | cons e es ih =>
    intro s h hs
    have h1 := ih (tog P s e.toNat) (fun x hx => h x (List.mem_cons_of_mem _ hx)) (tog_lt hs (h e (List.mem_cons_self ..)))
    exact ⟨h1.1, fun hi => h1.2 (tog_idl hi)⟩
/-- The first place where something holds, or -1. -/
def idx (p : Int → Bool) : Nat → List Int → Int
  | _, [] => -1
  | i, e :: es => if p e = true then (i : Int) else idx p (i + 1) es
theorem idx_any (p : Int → Bool) : ∀ (o : List Int) (i : Nat), decide (idx p i o ≥ 0) = o.any p := by
  intro o
  induction o with
  | nil => intro i; rfl
  | cons e es ih =>
    intro i
    unfold idx
    rw [List.any_cons]
    cases h : p e with
    | true => rw [if_pos rfl, Bool.true_or]; exact decide_eq_true (by omega)
    | false => rw [if_neg (by decide), Bool.false_or]; exact ih _
theorem range_any (n : Int) (o : List Int) : (!o.any (fun e => !decide (0 ≤ e ∧ e ≤ n))) = rangeB n o := by
  unfold rangeB
  rw [List.all_eq_not_any_not]
end Go.Proofs.Ytinnobjcphfejaa.B
