/- The program's pairs of a poset: covers. -/
import Derived.Test.YtkadihmhaoghfaaDoorMgrid
import Derived.Test.YtkadihmhaoghfaaDoorScov
import Derived.Test.YtkadihmhaoghfaaDoorB3
namespace Go.Proofs.YtkadihmhaoghfaaDoor.B
open Go.RowKit Go.Proofs.YtkadihmhaoghfaaDoor.M Go.Proofs.YtkadihmhaoghfaaDoorW.PrintWords Go.Proofs.YtkadihmhaoghfaaDoorW.PrintLast Go.Proofs.YtkadihmhaoghfaaDoorW.PrintMore
attribute [local irreducible] Go.bits shl shr sd
theorem covers_l1 {l : List Int} {P : List Nat} (hP : Good l P) {j : Nat} (hj : j < P.length) (fin : List (List Int) → List (List Int)) (hnext : ∀ w : List (List Int), w.length ≤ 10 * (j + 1) → Ev (fun k => impl_Poset_covers.l0 k w (l.length : Int) ((j : Int) + 1) l) (fin w)) :
    ∀ (i : Nat) (w : List (List Int)), i ≤ P.length → w.length ≤ 10 * j + i → Ev (fun k => impl_Poset_covers.l1 k w (j : Int) (l.length : Int) (j : Int) (l.length : Int) (i : Int) l) (fin (w ++ grow (covF P) P.length j i)) := by
  have hn := hP.n10
  have hl := hP.length
  refine ev_down (fun k (w : List (List Int)) i => impl_Poset_covers.l1 k w (j : Int) (l.length : Int) (j : Int) (l.length : Int) i l) (fun i w => fin (w ++ grow (covF P) P.length j i)) P.length (fun i w => w.length ≤ 10 * j + i) ?_ ?_
  · intro w hw
    rw [grow_end, List.append_nil]
    have hw2 : wrap64 ((j : Int) + 1) = (j : Int) + 1 := wrap64_id (by omega) (by omega)
    exact ev_step (hnext w (by omega)) (fun k => by simp only [impl_Poset_covers.l1]; rw [if_neg (by omega), hw2])
  · intro i w hi hw ih
    have c1 : (i : Int) < (l.length : Int) := by omega
    have c2 : w.length < 5864062014805 := by omega
    have hw2 : wrap64 ((i : Int) + 1) = (i : Int) + 1 := wrap64_id (by omega) (by omega)
    have hh := has_is (s := cov P i) (e := j) (p63 (tp_lt (hP.ltn i)) (by omega)) (by omega)
    rw [grow_step _ hi]
    unfold gcell
    refine ev_stepb (covered_ev hP hi) ?_ (fun k => by simp only [impl_Poset_covers.l1]; rw [if_pos c1])
    have hh' : impl_has.f ((cov P i : Nat) : Int) (j : Int) = some (covF P j i) := hh
    cases hc : covF P j i with
    | true =>
      rw [if_pos rfl]
      have := ih (w ++ [[(j : Int), (i : Int)]]) (by rw [List.length_append, List.length_singleton]; omega)
      rw [List.append_assoc] at this
      exact ev_as this (fun k => by rw [hh', hc, Option.bind_some, if_pos rfl, if_pos c2, hw2])
    | false =>
      rw [if_neg (by decide), List.nil_append]
      exact ev_as (ih w (by omega)) (fun k => by rw [hh', hc, Option.bind_some, if_neg (by decide), hw2])
theorem covers_ev {l : List Int} {P : List Nat} (hP : Good l P) : Ev (fun k => impl_Poset_covers.f k l) (grid (covF P) P.length 0) := by
  have hn := hP.n10
  have hl := hP.length
  have H : ∀ (j : Nat) (w : List (List Int)), j ≤ P.length → w.length ≤ 10 * j → Ev (fun k => impl_Poset_covers.l0 k w (l.length : Int) (j : Int) l) (w ++ grid (covF P) P.length j) := by
    refine ev_down (fun k (w : List (List Int)) j => impl_Poset_covers.l0 k w (l.length : Int) j l) (fun j w => w ++ grid (covF P) P.length j) P.length (fun j w => w.length ≤ 10 * j) ?_ ?_
    · intro w _
      rw [grid_end, List.append_nil]
      exact ev_step (Ev.now _) (fun k => by simp only [impl_Poset_covers.l0]; rw [if_neg (by omega)])
    · intro j w hj hw ih
      have c1 : (j : Int) < (l.length : Int) := by omega
      rw [grid_step _ hj, ← List.append_assoc]
      have := covers_l1 hP hj (fun w => w ++ grid (covF P) P.length (j + 1)) (fun w hw => ih w (by omega)) 0 w (by omega) (by omega)
      exact ev_step this (fun k => by simp only [impl_Poset_covers.l0, impl_Poset_n.f]; rw [if_pos c1, Option.bind_some]; rfl)
  unfold impl_Poset_covers.f impl_Poset_n.f
  simp only [Option.bind_some]
  have := H 0 [] (by omega) (by simp)
  rwa [List.nil_append] at this
end Go.Proofs.YtkadihmhaoghfaaDoor.B
