/- The heights of a good poset: both sides. -/
import Derived.Test.YtodbkoipebnheaaS
import Derived.Test.YtodbkoipebnheaaB30
import Derived.Test.YtodbkoipebnheaaB31
namespace Go.Proofs.Ytodbkoipebnheaa.B
open Go.RowKit Go.Proofs.Ytodbkoipebnheaa.M Go.Proofs.YtodbkoipebnheaaW.PrintWords Go.Proofs.YtodbkoipebnheaaW.PrintLast Go.Proofs.YtodbkoipebnheaaW.PrintMore
attribute [local irreducible] Go.bits shl shr sd
/-- The height of i, where j is below. -/
def hstep (i : Nat) (st : List Int) (j : Nat) : List Int := st.set i (mx (rd st (i : Int)) (wrap64 (rd st (j : Int) + 1)))
def hrow (P : List Nat) (st : List Int) (i : Nat) : List Int := foldFrom (fun o j => if (P.getD i 0).testBit j then hstep i o j else o) 0 i st
def heights (P : List Nat) : List Int := foldFrom (hrow P) 0 P.length (List.replicate P.length 0)
theorem hstep_length (i j : Nat) (st : List Int) : (hstep i st j).length = st.length := by unfold hstep; simp
theorem hrow_length (P : List Nat) (i : Nat) (st : List Int) : (hrow P st i).length = st.length := by
  unfold hrow
  refine foldFrom_inv (fun o j => if (P.getD i 0).testBit j then hstep i o j else o) (fun _ o => o.length = st.length) i (fun j o _ h => ?_) 0 st (by omega) rfl
  show (if (P.getD i 0).testBit j then hstep i o j else o).length = st.length
  split
  · rw [hstep_length]; exact h
  · exact h
theorem heights_length (P : List Nat) : (heights P).length = P.length := by
  unfold heights
  exact foldFrom_inv (hrow P) (fun _ o => o.length = P.length) P.length (fun i o _ h => by rw [hrow_length]; exact h) 0 _ (by omega) (by simp)
theorem most_is (a b : Int) : spec_l1Most.f a b = some (mx a b) := by
  unfold spec_l1Most.f mx
  by_cases h : a < b
  · rw [if_neg (by omega), if_pos h]
  · rw [if_neg h]
    by_cases h2 : a > b
    · rw [if_pos h2]
    · rw [if_neg h2]; congr 1; omega
theorem poHeights_l1 {l : List Int} {P : List Nat} (hP : Good l P) {i : Nat} (hi : i < P.length) (fin : List Int → List Int) (hnext : ∀ st, st.length = P.length → Ev (fun k => spec_poHeights.l0 k st l (l.length : Int) ((i : Int) + 1)) (fin st)) :
    ∀ (j : Nat) (st : List Int), j ≤ i → st.length = P.length → Ev (fun k => spec_poHeights.l1 k st (i : Int) ((P.getD i 0 : Nat) : Int) (j : Int) l (l.length : Int) (i : Int)) (fin (foldFrom (fun o j => if (P.getD i 0).testBit j then hstep i o j else o) j i st)) := by
  have hn := hP.n10
  have hl := hP.length
  refine ev_down (fun k (st : List Int) j => spec_poHeights.l1 k st (i : Int) ((P.getD i 0 : Nat) : Int) j l (l.length : Int) (i : Int)) (fun j st => fin (foldFrom (fun o j => if (P.getD i 0).testBit j then hstep i o j else o) j i st)) i (fun _ st => st.length = P.length) ?_ ?_
  · intro st hst
    rw [foldFrom_end]
    exact ev_step (hnext st hst) (fun k => by simp only [spec_poHeights.l1]; rw [if_neg (by omega), wrap64_id (by omega) (by omega)])
  · intro j st hj hst ih
    have c1 : (j : Int) < (i : Int) := by omega
    have c2 : 0 ≤ (i : Int) := by omega
    have c3 : (i : Int) < (st.length : Int) := by omega
    have c4 : 0 ≤ (j : Int) := by omega
    have c5 : (j : Int) < (st.length : Int) := by omega
    have hw : wrap64 ((j : Int) + 1) = (j : Int) + 1 := wrap64_id (by omega) (by omega)
    have hb := poIn_is (s := P.getD i 0) (e := j) (by omega)
    rw [foldFrom_step _ hj]
    cases hbit : (P.getD i 0).testBit j with
    | true =>
      rw [if_pos rfl]
      exact ev_step (ih _ (by rw [hstep_length]; exact hst)) (fun k => by simp only [spec_poHeights.l1]; rw [if_pos c1, hb, hbit, Option.bind_some, if_pos rfl, if_pos c2, if_pos c3, if_pos c4, if_pos c5, most_is, Option.bind_some, hw, Int.toNat_natCast]; rfl)
    | false =>
      rw [if_neg (by decide)]
      exact ev_step (ih _ hst) (fun k => by simp only [spec_poHeights.l1]; rw [if_pos c1, hb, hbit, Option.bind_some, if_neg (by decide), hw])
theorem poHeights_ev {l : List Int} {P : List Nat} (hP : Good l P) : Ev (fun k => spec_poHeights.f k l) (heights P) := by
  have hn := hP.n10
  have hl := hP.length
  have H : ∀ (i : Nat) (st : List Int), i ≤ P.length → st.length = P.length → Ev (fun k => spec_poHeights.l0 k st l (l.length : Int) (i : Int)) (foldFrom (hrow P) i P.length st) := by
    refine ev_down (fun k (st : List Int) i => spec_poHeights.l0 k st l (l.length : Int) i) (fun i st => foldFrom (hrow P) i P.length st) P.length (fun _ st => st.length = P.length) ?_ ?_
    · intro st _
      rw [foldFrom_end]
      exact ev_step (Ev.now _) (fun k => by simp only [spec_poHeights.l0]; rw [if_neg (by omega)])
    · intro i st hi hst ih
      have c1 : (i : Int) < (l.length : Int) := by omega
      have c2 : 0 ≤ (i : Int) := by omega
      have hr : rd l (i : Int) = ((P.getD i 0 : Nat) : Int) := by rw [hP.eq, rd_cast]
      rw [foldFrom_step _ hi]
      exact ev_step (poHeights_l1 hP hi _ ih 0 st (by omega) hst) (fun k => by simp only [spec_poHeights.l0]; rw [if_pos c1, if_pos c2, if_pos c1, hr]; rfl)
  unfold spec_poHeights.f heights
  refine ev_as (H 0 (List.replicate P.length 0) (by omega) (by simp)) (fun k => ?_)
  rw [if_pos (by omega), if_pos (by omega), hl, Int.toNat_natCast]
  rfl
theorem heights_l1 {l : List Int} {P : List Nat} (hP : Good l P) {i : Nat} (hi : i < P.length) (fin : List Int → List Int) (hnext : ∀ st, st.length = P.length → Ev (fun k => impl_Poset_heights.l0 k st l (l.length : Int) ((i : Int) + 1)) (fin st)) :
    ∀ (e : Nat) (st : List Int), e ≤ (items (P.getD i 0)).length → st.length = P.length → Ev (fun k => impl_Poset_heights.l1 k st (i : Int) l (l.length : Int) (i : Int) (cast (items (P.getD i 0))) ((cast (items (P.getD i 0))).length : Int) (e : Int)) (fin (((items (P.getD i 0)).drop e).foldl (hstep i) st)) := by
  have hn := hP.n10
  have hl := hP.length
  have hlen : (items (P.getD i 0)).length ≤ 10 := by unfold items; exact Nat.le_trans (List.length_filter_le _ _) (by simp)
  refine ev_down (fun k (st : List Int) e => impl_Poset_heights.l1 k st (i : Int) l (l.length : Int) (i : Int) (cast (items (P.getD i 0))) ((cast (items (P.getD i 0))).length : Int) e) (fun e st => fin (((items (P.getD i 0)).drop e).foldl (hstep i) st)) (items (P.getD i 0)).length (fun _ st => st.length = P.length) ?_ ?_
  · intro st hst
    rw [List.drop_length, List.foldl_nil]
    exact ev_step (hnext st hst) (fun k => by simp only [impl_Poset_heights.l1]; rw [if_neg (by rw [cast_length]; omega), wrap64_id (by omega) (by omega)])
  · intro e st he hst ih
    obtain ⟨j, hj⟩ : ∃ j, (items (P.getD i 0)).getD e 0 = j := ⟨_, rfl⟩
    have hmem : j ∈ items (P.getD i 0) := by rw [← hj]; exact getD_memN he
    have hjn : j < i := bit_lt (hP.lt i hi) (mem_items.1 hmem).2
    have c1 : (e : Int) < ((cast (items (P.getD i 0))).length : Int) := by rw [cast_length]; omega
    have c2 : 0 ≤ (e : Int) := by omega
    have c3 : 0 ≤ (i : Int) := by omega
    have c4 : (i : Int) < (st.length : Int) := by omega
    have c5 : 0 ≤ (j : Int) := by omega
    have c6 : (j : Int) < (st.length : Int) := by omega
    have hw : wrap64 ((e : Int) + 1) = (e : Int) + 1 := wrap64_id (by omega) (by omega)
    rw [drop_step (items (P.getD i 0)) 0 he, hj, List.foldl_cons]
    exact ev_step (ih _ (by rw [hstep_length]; exact hst)) (fun k => by simp only [impl_Poset_heights.l1]; rw [if_pos c1, if_pos c2, if_pos c1, if_pos c3, if_pos c4, rd_cast, hj, if_pos c5, if_pos c6, hw, Int.toNat_natCast]; rfl)
theorem heights_ev {l : List Int} {P : List Nat} (hP : Good l P) : Ev (fun k => impl_Poset_heights.f k l) (heights P) := by
  have hn := hP.n10
  have hl := hP.length
  have H : ∀ (i : Nat) (st : List Int), i ≤ P.length → st.length = P.length → Ev (fun k => impl_Poset_heights.l0 k st l (l.length : Int) (i : Int)) (foldFrom (hrow P) i P.length st) := by
    refine ev_down (fun k (st : List Int) i => impl_Poset_heights.l0 k st l (l.length : Int) i) (fun i st => foldFrom (hrow P) i P.length st) P.length (fun _ st => st.length = P.length) ?_ ?_
    · intro st _
      rw [foldFrom_end]
      exact ev_step (Ev.now _) (fun k => by simp only [impl_Poset_heights.l0]; rw [if_neg (by omega)])
    · intro i st hi hst ih
      have c1 : (i : Int) < (l.length : Int) := by omega
      have c2 : 0 ≤ (i : Int) := by omega
      have hr : rd l (i : Int) = ((P.getD i 0 : Nat) : Int) := by rw [hP.eq, rd_cast]
      rw [foldFrom_step _ hi]
      have h1 := heights_l1 hP hi _ ih 0 st (by omega) hst
      rw [List.drop_zero, fold_items _ (hP.lt i hi) (by omega)] at h1
      exact ev_stepb (F := fun k t => impl_Poset_heights.l1 k st (i : Int) l (l.length : Int) (i : Int) t (t.length : Int) 0) (items_ev (hP.lt63 i)) h1 (fun k => by simp only [impl_Poset_heights.l0]; rw [if_pos c1, if_pos c2, if_pos c1, hr])
  unfold impl_Poset_heights.f impl_Poset_n.f heights
  refine ev_as (H 0 (List.replicate P.length 0) (by omega) (by simp)) (fun k => ?_)
  rw [Option.bind_some, if_pos (by omega), if_pos (by omega), hl, Int.toNat_natCast]
  rfl
end Go.Proofs.Ytodbkoipebnheaa.B
