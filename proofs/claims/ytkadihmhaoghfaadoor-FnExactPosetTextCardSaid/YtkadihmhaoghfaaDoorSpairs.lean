/- The reference's pairs of a poset: covers. -/
import Derived.Test.YtkadihmhaoghfaaDoorMgrid
import Derived.Test.YtkadihmhaoghfaaDoorSpin
import Derived.Test.YtkadihmhaoghfaaDoorB1
namespace Go.Proofs.YtkadihmhaoghfaaDoor.B
open Go.RowKit Go.Proofs.YtkadihmhaoghfaaDoor.M Go.Proofs.YtkadihmhaoghfaaDoorW.PrintWords Go.Proofs.YtkadihmhaoghfaaDoorW.PrintLast Go.Proofs.YtkadihmhaoghfaaDoorW.PrintMore
attribute [local irreducible] Go.bits shl shr sd
theorem poCovers_ev {l : List Int} {P : List Nat} (hP : Good l P) {i j : Nat} (hi : i < P.length) (hj : j < P.length) : Ev (fun k => spec_poCovers.f k l (j : Int) (i : Int)) (covF P j i) := by
  have hn := hP.n10
  have hl := hP.length
  have hr : ∀ x : Nat, rd l (x : Int) = ((P.getD x 0 : Nat) : Int) := fun x => by rw [hP.eq]; exact rd_cast P x
  have hb := poIn_is (s := P.getD i 0) (e := j) (by omega)
  unfold spec_poCovers.f covF
  rw [cov_from hP hi]
  cases hbit : (P.getD i 0).testBit j with
  | false => rw [Bool.false_and]; exact ev_as (Ev.now _) (fun k => by rw [if_pos (by omega), if_pos (by omega), hr, hb, hbit, Option.bind_some, if_neg (by decide)])
  | true =>
    rw [Bool.true_and]
    have hji := (below_lt hP hbit).1
    have H : ∀ (x : Nat) (_ : Unit), x ≤ i → True → Ev (fun k => spec_poCovers.l0 k (j : Int) (i : Int) (x : Int) l) (allFrom (fun k => !((P.getD i 0).testBit k && (P.getD k 0).testBit j)) x i) := by
      refine ev_down (fun k (_ : Unit) x => spec_poCovers.l0 k (j : Int) (i : Int) x l) (fun x _ => allFrom (fun k => !((P.getD i 0).testBit k && (P.getD k 0).testBit j)) x i) i (fun _ _ => True) ?_ ?_
      · intro _ _
        rw [allFrom_end]
        exact ev_step (Ev.now _) (fun k => by simp only [spec_poCovers.l0]; rw [if_neg (by omega)])
      · intro x _ hx _ ih
        have c1 : (x : Int) < (i : Int) := by omega
        have c2 : 0 ≤ (i : Int) := by omega
        have c3 : (i : Int) < (l.length : Int) := by omega
        have c4 : 0 ≤ (x : Int) := by omega
        have c5 : (x : Int) < (l.length : Int) := by omega
        have hw : wrap64 ((x : Int) + 1) = (x : Int) + 1 := wrap64_id (by omega) (by omega)
        have h1 := poIn_is (s := P.getD i 0) (e := x) (by omega)
        have h2 := poIn_is (s := P.getD x 0) (e := j) (by omega)
        rw [allFrom_step _ hx]
        cases b1 : (P.getD i 0).testBit x with
        | false =>
          rw [Bool.false_and, Bool.not_false, Bool.true_and]
          exact ev_step (ih () trivial) (fun k => by simp only [spec_poCovers.l0]; rw [if_pos c1, if_pos c2, if_pos c3, hr, h1, b1, Option.bind_some, if_neg (by decide), hw])
        | true =>
          cases b2 : (P.getD x 0).testBit j with
          | false =>
            rw [Bool.true_and, Bool.not_false, Bool.true_and]
            exact ev_step (ih () trivial) (fun k => by simp only [spec_poCovers.l0]; rw [if_pos c1, if_pos c2, if_pos c3, hr, h1, b1, Option.bind_some, if_pos rfl, if_pos c4, if_pos c5, hr, h2, b2, Option.bind_some, if_neg (by decide), hw])
          | true =>
            rw [Bool.true_and, Bool.not_true, Bool.false_and]
            exact ev_step (Ev.now _) (fun k => by simp only [spec_poCovers.l0]; rw [if_pos c1, if_pos c2, if_pos c3, hr, h1, b1, Option.bind_some, if_pos rfl, if_pos c4, if_pos c5, hr, h2, b2, Option.bind_some, if_pos rfl])
    have hw : wrap64 ((j : Int) + 1) = ((j + 1 : Nat) : Int) := by rw [wrap64_id (by omega) (by omega)]; omega
    exact ev_as (H (j + 1) () (by omega) trivial) (fun k => by rw [if_pos (by omega), if_pos (by omega), hr, hb, hbit, Option.bind_some, if_pos rfl, hw])
theorem poPairs_l1 {l : List Int} {P : List Nat} (hP : Good l P) {j : Nat} (hj : j < P.length) (fin : List (List Int) → List (List Int)) (hnext : ∀ w : List (List Int), w.length ≤ 10 * (j + 1) → Ev (fun k => spec_poPairs.l0 k w (l.length : Int) ((j : Int) + 1) l) (fin w)) :
    ∀ (i : Nat) (w : List (List Int)), i ≤ P.length → w.length ≤ 10 * j + i → Ev (fun k => spec_poPairs.l1 k w (j : Int) (l.length : Int) (j : Int) (l.length : Int) (i : Int) l) (fin (w ++ grow (covF P) P.length j i)) := by
  have hn := hP.n10
  have hl := hP.length
  refine ev_down (fun k (w : List (List Int)) i => spec_poPairs.l1 k w (j : Int) (l.length : Int) (j : Int) (l.length : Int) i l) (fun i w => fin (w ++ grow (covF P) P.length j i)) P.length (fun i w => w.length ≤ 10 * j + i) ?_ ?_
  · intro w hw
    rw [grow_end, List.append_nil]
    have hw2 : wrap64 ((j : Int) + 1) = (j : Int) + 1 := wrap64_id (by omega) (by omega)
    exact ev_step (hnext w (by omega)) (fun k => by simp only [spec_poPairs.l1]; rw [if_neg (by omega), hw2])
  · intro i w hi hw ih
    have c1 : (i : Int) < (l.length : Int) := by omega
    have c2 : w.length < 5864062014805 := by omega
    have hw2 : wrap64 ((i : Int) + 1) = (i : Int) + 1 := wrap64_id (by omega) (by omega)
    rw [grow_step _ hi]
    unfold gcell
    refine ev_stepb (poCovers_ev hP hi hj) ?_ (fun k => by simp only [spec_poPairs.l1]; rw [if_pos c1])
    cases hc : covF P j i with
    | true =>
      rw [if_pos rfl]
      have := ih (w ++ [[(j : Int), (i : Int)]]) (by rw [List.length_append, List.length_singleton]; omega)
      rw [List.append_assoc] at this
      exact ev_as this (fun k => by rw [if_pos rfl, if_pos c2, hw2])
    | false =>
      rw [if_neg (by decide), List.nil_append]
      exact ev_as (ih w (by omega)) (fun k => by rw [if_neg (by decide), hw2])
theorem poPairs_ev {l : List Int} {P : List Nat} (hP : Good l P) : Ev (fun k => spec_poPairs.f k l) (grid (covF P) P.length 0) := by
  have hn := hP.n10
  have hl := hP.length
  have H : ∀ (j : Nat) (w : List (List Int)), j ≤ P.length → w.length ≤ 10 * j → Ev (fun k => spec_poPairs.l0 k w (l.length : Int) (j : Int) l) (w ++ grid (covF P) P.length j) := by
    refine ev_down (fun k (w : List (List Int)) j => spec_poPairs.l0 k w (l.length : Int) j l) (fun j w => w ++ grid (covF P) P.length j) P.length (fun j w => w.length ≤ 10 * j) ?_ ?_
    · intro w _
      rw [grid_end, List.append_nil]
      exact ev_step (Ev.now _) (fun k => by simp only [spec_poPairs.l0]; rw [if_neg (by omega)])
    · intro j w hj hw ih
      have c1 : (j : Int) < (l.length : Int) := by omega
      rw [grid_step _ hj, ← List.append_assoc]
      have := poPairs_l1 hP hj (fun w => w ++ grid (covF P) P.length (j + 1)) (fun w hw => ih w (by omega)) 0 w (by omega) (by omega)
      exact ev_step this (fun k => by simp only [spec_poPairs.l0]; rw [if_pos c1]; rfl)
  unfold spec_poPairs.f
  have := H 0 [] (by omega) (by simp)
  rwa [List.nil_append] at this
end Go.Proofs.YtkadihmhaoghfaaDoor.B
