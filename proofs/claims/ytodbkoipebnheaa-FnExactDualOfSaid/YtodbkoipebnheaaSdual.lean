/- The dual: the reference's and the program's. -/
import Derived.Test.YtodbkoipebnheaaMmade
import Derived.Test.YtodbkoipebnheaaMrow
import Derived.Test.YtodbkoipebnheaaS
import Derived.Test.YtodbkoipebnheaaB25
import Derived.Test.YtodbkoipebnheaaB26
namespace Go.Proofs.Ytodbkoipebnheaa.B
open Go.RowKit Go.Proofs.Ytodbkoipebnheaa.M Go.Proofs.YtodbkoipebnheaaW.PrintWords Go.Proofs.YtodbkoipebnheaaW.PrintLast Go.Proofs.YtodbkoipebnheaaW.PrintMore
attribute [local irreducible] Go.bits shl shr sd
def sdRow (P : List Nat) (o : List Nat) (i : Nat) : List Nat := foldFrom (fun o j => if (P.getD i 0).testBit j = true then orAt o (P.length - 1 - j) (P.length - 1 - i) else o) 0 i o
def sdual (P : List Nat) : List Nat := foldFrom (sdRow P) 0 P.length (List.replicate P.length 0)
def dualF (P : List Nat) (b a : Nat) : Bool := (P.getD (P.length - 1 - b) 0).testBit (P.length - 1 - a)
theorem sdRow_bit (P : List Nat) {o : List Nat} {i : Nat} (hn : o.length = P.length) (hi : i < P.length) : (sdRow P o i).length = P.length ∧ ∀ a b, ((sdRow P o i).getD a 0).testBit b = true ↔ (o.getD a 0).testBit b = true ∨ ∃ j, j < i ∧ (P.getD i 0).testBit j = true ∧ a = P.length - 1 - j ∧ b = P.length - 1 - i := by
  unfold sdRow
  refine foldFrom_inv (fun o j => if (P.getD i 0).testBit j = true then orAt o (P.length - 1 - j) (P.length - 1 - i) else o) (fun j o' => o'.length = P.length ∧ ∀ a b, (o'.getD a 0).testBit b = true ↔ (o.getD a 0).testBit b = true ∨ ∃ j', j' < j ∧ (P.getD i 0).testBit j' = true ∧ a = P.length - 1 - j' ∧ b = P.length - 1 - i) i ?_ 0 o (by omega) ⟨hn, fun a b => ⟨.inl, fun h => h.elim id (fun ⟨_, h, _⟩ => absurd h (by omega))⟩⟩
  rintro j o' hj ⟨h1, h2⟩
  cases hf : (P.getD i 0).testBit j with
  | true =>
    simp only [if_true]
    refine ⟨by rw [orAt_length]; exact h1, fun a b => ?_⟩
    rw [orAt_bit (by omega), h2]
    constructor
    · rintro ((h | ⟨j', h3, h4, h5⟩) | ⟨h3, h4⟩)
      · exact .inl h
      · exact .inr ⟨j', by omega, h4, h5⟩
      · exact .inr ⟨j, by omega, hf, h3, h4⟩
    · rintro (h | ⟨j', h3, h4, h5⟩)
      · exact .inl (.inl h)
      · rcases Nat.lt_or_ge j' j with h6 | h6
        · exact .inl (.inr ⟨j', h6, h4, h5⟩)
        · obtain rfl : j' = j := by omega
          exact .inr h5
  | false =>
    simp only [Bool.false_eq_true, if_false]
    refine ⟨h1, fun a b => ?_⟩
    rw [h2]
    constructor
    · rintro (h | ⟨j', h3, h4, h5⟩)
      · exact .inl h
      · exact .inr ⟨j', by omega, h4, h5⟩
    · rintro (h | ⟨j', h3, h4, h5⟩)
      · exact .inl h
      · rcases Nat.lt_or_ge j' j with h6 | h6
        · exact .inr ⟨j', h6, h4, h5⟩
        · rw [show j' = j by omega, hf] at h4; cases h4
theorem sdual_bit (P : List Nat) : (sdual P).length = P.length ∧ ∀ a b, ((sdual P).getD a 0).testBit b = true ↔ ∃ i j, i < P.length ∧ j < i ∧ (P.getD i 0).testBit j = true ∧ a = P.length - 1 - j ∧ b = P.length - 1 - i := by
  unfold sdual
  refine foldFrom_inv (sdRow P) (fun i o => o.length = P.length ∧ ∀ a b, (o.getD a 0).testBit b = true ↔ ∃ i' j, i' < i ∧ j < i' ∧ (P.getD i' 0).testBit j = true ∧ a = P.length - 1 - j ∧ b = P.length - 1 - i') P.length ?_ 0 _ (by omega) ⟨by simp, fun a b => ?_⟩
  · rintro i o hi ⟨h1, h2⟩
    obtain ⟨h3, h4⟩ := sdRow_bit P h1 hi
    refine ⟨h3, fun a b => ?_⟩
    rw [h4, h2]
    constructor
    · rintro (⟨i', j, h5, h6⟩ | ⟨j, h6⟩)
      · exact ⟨i', j, by omega, h6⟩
      · exact ⟨i, j, by omega, h6⟩
    · rintro ⟨i', j, h5, h6⟩
      rcases Nat.lt_or_ge i' i with h8 | h8
      · exact .inl ⟨i', j, h8, h6⟩
      · obtain rfl : i' = i := by omega
        exact .inr ⟨j, h6⟩
  · constructor
    · intro h
      rw [List.getD_eq_getElem?_getD, List.getElem?_replicate] at h
      split at h <;> simp at h
    · rintro ⟨i', _, h, _⟩; omega
theorem sdual_made (P : List Nat) : sdual P = made (dualF P) P.length := by
  obtain ⟨h1, h2⟩ := sdual_bit P
  obtain ⟨h3, h4⟩ := made_bit (dualF P) P.length
  refine lists_eq (by rw [h1, h3]) (fun a b ha => ?_)
  rw [h2, h4]
  unfold dualF
  constructor
  · rintro ⟨i, j, h5, h6, h7, rfl, rfl⟩
    refine ⟨by omega, by omega, ?_⟩
    rw [show P.length - 1 - (P.length - 1 - i) = i by omega, show P.length - 1 - (P.length - 1 - j) = j by omega]
    exact h7
  · rintro ⟨h5, h6, h7⟩
    exact ⟨P.length - 1 - b, P.length - 1 - a, by omega, by omega, h7, by omega, by omega⟩
theorem poDual_l1 {l : List Int} {P : List Nat} (hP : Good l P) {i : Nat} (hi : i < P.length) (fin : List Nat → List Int) (hnext : ∀ o, o.length = P.length ∧ small o → Ev (fun k => spec_poDual.l0 k (l.length : Int) l (l.length : Int) ((i : Int) + 1) (cast o)) (fin o)) :
    ∀ (j : Nat) (o : List Nat), j ≤ i → (o.length = P.length ∧ small o) → Ev (fun k => spec_poDual.l1 k (l.length : Int) (i : Int) ((P.getD i 0 : Nat) : Int) (j : Int) l (l.length : Int) (i : Int) (cast o)) (fin (foldFrom (fun o j => if (P.getD i 0).testBit j = true then orAt o (P.length - 1 - j) (P.length - 1 - i) else o) j i o)) := by
  have hn := hP.n10
  have hl := hP.length
  refine ev_down (fun k (o : List Nat) j => spec_poDual.l1 k (l.length : Int) (i : Int) ((P.getD i 0 : Nat) : Int) j l (l.length : Int) (i : Int) (cast o)) (fun j o => fin (foldFrom (fun o j => if (P.getD i 0).testBit j = true then orAt o (P.length - 1 - j) (P.length - 1 - i) else o) j i o)) i (fun _ o => o.length = P.length ∧ small o) ?_ ?_
  · intro o ho
    rw [foldFrom_end]
    have hw : wrap64 ((i : Int) + 1) = (i : Int) + 1 := wrap64_id (by omega) (by omega)
    exact ev_step (hnext o ho) (fun k => by simp only [spec_poDual.l1]; rw [if_neg (by omega), hw])
  · intro j o hj ho ih
    have c1 : (j : Int) < (i : Int) := by omega
    have hw : wrap64 ((j : Int) + 1) = (j : Int) + 1 := wrap64_id (by omega) (by omega)
    have hb := poIn_is (s := P.getD i 0) (e := j) (by omega)
    have ha : wrap64 (wrap64 ((l.length : Int) - 1) - (j : Int)) = ((P.length - 1 - j : Nat) : Int) := by rw [hl, wrap64_id (x := (P.length : Int) - 1) (by omega) (by omega), wrap64_id (by omega) (by omega)]; omega
    have hc : wrap64 (wrap64 ((l.length : Int) - 1) - (i : Int)) = ((P.length - 1 - i : Nat) : Int) := by rw [hl, wrap64_id (x := (P.length : Int) - 1) (by omega) (by omega), wrap64_id (by omega) (by omega)]; omega
    have c2 : 0 ≤ ((P.length - 1 - j : Nat) : Int) := by omega
    have c3 : ((P.length - 1 - j : Nat) : Int) < ((cast o).length : Int) := by rw [cast_length, ho.1]; omega
    have c4 : 0 ≤ ((P.length - 1 - i : Nat) : Int) := by omega
    rw [foldFrom_step _ hj]
    cases hbit : (P.getD i 0).testBit j with
    | true => exact ev_step (ih (orAt o (P.length - 1 - j) (P.length - 1 - i)) ⟨by rw [orAt_length]; exact ho.1, small_orAt ho.2 (by omega)⟩) (fun k => by simp only [spec_poDual.l1]; rw [if_pos c1, hb, hbit, Option.bind_some, if_pos rfl, ha, hc, if_pos c2, if_pos c3, if_pos c4, Int.toNat_natCast, cast_orAt ho.2 (by omega), hw])
    | false => exact ev_step (ih o ho) (fun k => by simp only [spec_poDual.l1]; rw [if_pos c1, hb, hbit, Option.bind_some, if_neg (by decide), hw])
theorem sdRow_small {P o : List Nat} {i : Nat} (hn : P.length ≤ 10) (hi : i < P.length) (h : small o) : small (sdRow P o i) := by
  unfold sdRow
  refine foldFrom_inv (fun o j => if (P.getD i 0).testBit j = true then orAt o (P.length - 1 - j) (P.length - 1 - i) else o) (fun _ o => small o) i (fun j o' _ h' => ?_) 0 o (by omega) h
  show small (if (P.getD i 0).testBit j = true then orAt o' (P.length - 1 - j) (P.length - 1 - i) else o')
  split
  · exact small_orAt h' (by omega)
  · exact h'
theorem poDual_ev {l : List Int} {P : List Nat} (hP : Good l P) : Ev (fun k => spec_poDual.f k l) (cast (made (dualF P) P.length)) := by
  have hn := hP.n10
  have hl := hP.length
  have H : ∀ (i : Nat) (o : List Nat), i ≤ P.length → (o.length = P.length ∧ small o) → Ev (fun k => spec_poDual.l0 k (l.length : Int) l (l.length : Int) (i : Int) (cast o)) (cast (foldFrom (sdRow P) i P.length o)) := by
    refine ev_down (fun k (o : List Nat) i => spec_poDual.l0 k (l.length : Int) l (l.length : Int) i (cast o)) (fun i o => cast (foldFrom (sdRow P) i P.length o)) P.length (fun _ o => o.length = P.length ∧ small o) ?_ ?_
    · intro o _
      rw [foldFrom_end]
      exact ev_step (Ev.now _) (fun k => by simp only [spec_poDual.l0]; rw [if_neg (by omega)])
    · intro i o hi ho ih
      have c1 : (i : Int) < (l.length : Int) := by omega
      have c2 : 0 ≤ (i : Int) := by omega
      have hr : rd l (i : Int) = ((P.getD i 0 : Nat) : Int) := by rw [hP.eq, rd_cast]
      rw [foldFrom_step _ hi]
      have := poDual_l1 hP hi (fun o => cast (foldFrom (sdRow P) (i + 1) P.length o)) (fun o ho => ih o ho) 0 o (by omega) ho
      exact ev_step this (fun k => by simp only [spec_poDual.l0]; rw [if_pos c1, if_pos c2, if_pos c1, hr]; rfl)
  unfold spec_poDual.f
  rw [← sdual_made]
  refine ev_as (H 0 (List.replicate P.length 0) (by omega) ⟨by simp, small_replicate _⟩) (fun k => ?_)
  rw [if_pos (by omega), if_pos (by omega), hl, Int.toNat_natCast]
  unfold cast
  rw [List.map_replicate]
  rfl
theorem madeRow_small {f : Nat → Nat → Bool} {o : List Nat} {i : Nat} (hi : i < 10) (h : small o) : small (madeRow f o i) := by
  unfold madeRow
  refine foldFrom_inv (fun o j => if f j i = true then orAt o i j else o) (fun _ o => small o) i (fun j o' _ h' => ?_) 0 o (by omega) h
  show small (if f j i = true then orAt o' i j else o')
  split
  · exact small_orAt h' (by omega)
  · exact h'
theorem made_l1 {l : List Int} {P : List Nat} (hP : Good l P) {i : Nat} (hi : i < P.length) (fin : List Nat → List Int) (hnext : ∀ o, o.length = P.length ∧ small o → Ev (fun k => impl_made_at_impl_Poset_dual_1.l0 k (P.length : Int) ((i : Int) + 1) l (P.length : Int) (cast o)) (fin o)) :
    ∀ (j : Nat) (o : List Nat), j ≤ i → (o.length = P.length ∧ small o) → Ev (fun k => impl_made_at_impl_Poset_dual_1.l1 k (i : Int) (P.length : Int) (i : Int) (i : Int) (j : Int) l (P.length : Int) (cast o)) (fin (foldFrom (fun o j => if dualF P j i = true then orAt o i j else o) j i o)) := by
  have hn := hP.n10
  have hl := hP.length
  refine ev_down (fun k (o : List Nat) j => impl_made_at_impl_Poset_dual_1.l1 k (i : Int) (P.length : Int) (i : Int) (i : Int) j l (P.length : Int) (cast o)) (fun j o => fin (foldFrom (fun o j => if dualF P j i = true then orAt o i j else o) j i o)) i (fun _ o => o.length = P.length ∧ small o) ?_ ?_
  · intro o ho
    rw [foldFrom_end]
    have hw : wrap64 ((i : Int) + 1) = (i : Int) + 1 := wrap64_id (by omega) (by omega)
    exact ev_step (hnext o ho) (fun k => by simp only [impl_made_at_impl_Poset_dual_1.l1]; rw [if_neg (by omega), hw])
  · intro j o hj ho ih
    have c1 : (j : Int) < (i : Int) := by omega
    have hw : wrap64 ((j : Int) + 1) = (j : Int) + 1 := wrap64_id (by omega) (by omega)
    have ha : wrap64 (wrap64 ((P.length : Int) - 1) - (j : Int)) = ((P.length - 1 - j : Nat) : Int) := by rw [wrap64_id (x := (P.length : Int) - 1) (by omega) (by omega), wrap64_id (by omega) (by omega)]; omega
    have hc : wrap64 (wrap64 ((P.length : Int) - 1) - (i : Int)) = ((P.length - 1 - i : Nat) : Int) := by rw [wrap64_id (x := (P.length : Int) - 1) (by omega) (by omega), wrap64_id (by omega) (by omega)]; omega
    have hr : rd l ((P.length - 1 - j : Nat) : Int) = ((P.getD (P.length - 1 - j) 0 : Nat) : Int) := by rw [hP.eq, rd_cast]
    have hh := has_is (s := P.getD (P.length - 1 - j) 0) (e := P.length - 1 - i) (hP.lt63 _) (by omega)
    have hcl : impl_Poset_dual_1_c.f (j : Int) (i : Int) l (P.length : Int) = some (dualF P j i) := by
      unfold impl_Poset_dual_1_c.f dualF
      rw [ha, hc, if_pos (by omega), if_pos (by omega), hr, hh, Option.bind_some]
    have c2 : 0 ≤ (i : Int) := by omega
    have c3 : (i : Int) < ((cast o).length : Int) := by rw [cast_length, ho.1]; omega
    have c4 : 0 ≤ (j : Int) := by omega
    rw [foldFrom_step _ hj]
    cases hbit : dualF P j i with
    | true => exact ev_step (ih (orAt o i j) ⟨by rw [orAt_length]; exact ho.1, small_orAt ho.2 (by omega)⟩) (fun k => by simp only [impl_made_at_impl_Poset_dual_1.l1]; rw [if_pos c1, hcl, hbit, Option.bind_some, if_pos rfl, if_pos c2, if_pos c3, if_pos c4, Int.toNat_natCast, cast_orAt ho.2 (by omega), hw])
    | false => exact ev_step (ih o ho) (fun k => by simp only [impl_made_at_impl_Poset_dual_1.l1]; rw [if_pos c1, hcl, hbit, Option.bind_some, if_neg (by decide), hw])
theorem dual_ev {l : List Int} {P : List Nat} (hP : Good l P) : Ev (fun k => impl_Poset_dual.f k l) (cast (made (dualF P) P.length)) := by
  have hn := hP.n10
  have hl := hP.length
  have H : ∀ (i : Nat) (o : List Nat), i ≤ P.length → (o.length = P.length ∧ small o) → Ev (fun k => impl_made_at_impl_Poset_dual_1.l0 k (P.length : Int) (i : Int) l (P.length : Int) (cast o)) (cast (foldFrom (madeRow (dualF P)) i P.length o)) := by
    refine ev_down (fun k (o : List Nat) i => impl_made_at_impl_Poset_dual_1.l0 k (P.length : Int) i l (P.length : Int) (cast o)) (fun i o => cast (foldFrom (madeRow (dualF P)) i P.length o)) P.length (fun _ o => o.length = P.length ∧ small o) ?_ ?_
    · intro o _
      rw [foldFrom_end]
      exact ev_step (Ev.now _) (fun k => by simp only [impl_made_at_impl_Poset_dual_1.l0]; rw [if_neg (by omega)])
    · intro i o hi ho ih
      have c1 : (i : Int) < (P.length : Int) := by omega
      rw [foldFrom_step _ hi]
      have := made_l1 hP hi (fun o => cast (foldFrom (madeRow (dualF P)) (i + 1) P.length o)) (fun o ho => ih o ho) 0 o (by omega) ho
      exact ev_step this (fun k => by simp only [impl_made_at_impl_Poset_dual_1.l0]; rw [if_pos c1]; rfl)
  unfold impl_Poset_dual.f impl_Poset_n.f impl_made_at_impl_Poset_dual_1.f made
  simp only [Option.bind_some, hl]
  refine Ev.bind ?_ (Ev.now _)
  refine ev_as (H 0 (List.replicate P.length 0) (by omega) ⟨by simp, small_replicate _⟩) (fun k => ?_)
  rw [if_pos (by omega), if_pos (by omega), Int.toNat_natCast]
  unfold cast
  rw [List.map_replicate]
  rfl
end Go.Proofs.Ytodbkoipebnheaa.B
