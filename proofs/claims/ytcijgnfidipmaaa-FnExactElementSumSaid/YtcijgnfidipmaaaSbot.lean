/- What of a set has nothing of it below: the program's and the reference's. -/
import Derived.Test.YtcijgnfidipmaaaS
import Derived.Test.YtcijgnfidipmaaaB4
namespace Go.Proofs.Ytcijgnfidipmaaa.B
open Go.RowKit Go.Proofs.Ytcijgnfidipmaaa.M Go.Proofs.YtcijgnfidipmaaaW.PrintWords Go.Proofs.YtcijgnfidipmaaaW.PrintLast Go.Proofs.YtcijgnfidipmaaaW.PrintMore
attribute [local irreducible] Go.bits shl shr sd
theorem nat_zero {x : Nat} : ((x : Nat) : Int) = 0 ↔ x = 0 := by omega
theorem bottom_l0 {l : List Int} {P : List Nat} (hP : Good l P) {s : Nat} (hs : s < 2 ^ P.length) : ∀ (e : Nat) (st : Nat), e ≤ (items s).length → st < 2 ^ P.length →
    Ev (fun k => impl_Poset_bottom.l0 k (s : Int) (st : Int) (cast (items s)) ((cast (items s)).length : Int) (e : Int) l) ((((items s).drop e).foldl (fun o i => if P.getD i 0 &&& s = 0 then o ||| 2 ^ i else o) st : Nat) : Int) := by
  have hn := hP.n10
  have hlen : (items s).length ≤ 10 := by unfold items; exact Nat.le_trans (List.length_filter_le _ _) (by simp)
  refine ev_down (fun k (st : Nat) e => impl_Poset_bottom.l0 k (s : Int) (st : Int) (cast (items s)) ((cast (items s)).length : Int) e l) (fun e st => ((((items s).drop e).foldl (fun o i => if P.getD i 0 &&& s = 0 then o ||| 2 ^ i else o) st : Nat) : Int)) (items s).length (fun _ st => st < 2 ^ P.length) ?_ ?_
  · intro st _
    rw [List.drop_length, List.foldl_nil]
    exact ev_step (Ev.now _) (fun k => by simp only [impl_Poset_bottom.l0]; rw [if_neg (by rw [cast_length]; omega)])
  · intro e st he hst ih
    obtain ⟨j, hj⟩ : ∃ j, (items s).getD e 0 = j := ⟨_, rfl⟩
    have hmem : j ∈ items s := by rw [← hj, List.getD_eq_getElem?_getD, List.getElem?_eq_getElem he, Option.getD_some]; exact List.getElem_mem he
    have hjn : j < P.length := bit_lt hs (mem_items.1 hmem).2
    have hl := hP.length
    have c1 : (e : Int) < ((cast (items s)).length : Int) := by rw [cast_length]; omega
    have c2 : 0 ≤ (e : Int) := by omega
    have c4 : 0 ≤ (j : Int) := by omega
    have c5 : (j : Int) < (l.length : Int) := by omega
    have hw : wrap64 ((e : Int) + 1) = (e : Int) + 1 := wrap64_id (by omega) (by omega)
    have h2 : 2 ^ j < 2 ^ P.length := Nat.pow_lt_pow_right (by decide) hjn
    have hr : rd l (j : Int) = ((P.getD j 0 : Nat) : Int) := by rw [hP.eq, rd_cast]
    have ha := and_nat (hP.lt63 j) (p63 hs (by omega))
    have ho := or_nat (p63 hst (by omega)) (p63 h2 (by omega))
    have hsh := shl_one (i := j) (by omega)
    rw [drop_step (items s) 0 he, hj, List.foldl_cons]
    by_cases h0 : P.getD j 0 &&& s = 0
    · rw [if_pos h0]
      refine ev_step (ih (st ||| 2 ^ j) (Nat.or_lt_two_pow hst h2)) (fun k => ?_)
      simp only [impl_Poset_bottom.l0]
      rw [if_pos c1, if_pos c2, if_pos c1, rd_cast, hj, if_pos c4, if_pos c5, hr, ha, if_pos (nat_zero.2 h0), hsh, ho, hw]
    · rw [if_neg h0]
      refine ev_step (ih st hst) (fun k => ?_)
      simp only [impl_Poset_bottom.l0]
      rw [if_pos c1, if_pos c2, if_pos c1, rd_cast, hj, if_pos c4, if_pos c5, hr, ha, if_neg (fun h => h0 (nat_zero.1 h)), hw]
theorem bottom_ev {l : List Int} {P : List Nat} (hP : Good l P) {s : Nat} (hs : s < 2 ^ P.length) : Ev (fun k => impl_Poset_bottom.f k l (s : Int)) ((bm P s : Nat) : Int) := by
  have hn := hP.n10
  unfold impl_Poset_bottom.f
  refine Ev.bind (items_ev (p63 hs (by omega))) ?_
  have := bottom_l0 hP hs 0 0 (by omega) (Nat.two_pow_pos _)
  rw [List.drop_zero, fold_items _ hs (by omega)] at this
  exact this
theorem poBottom_ev {l : List Int} {P : List Nat} (hP : Good l P) {s : Nat} (hs : s < 2 ^ P.length) : Ev (fun k => spec_poBottom.f k l (s : Int)) ((bm P s : Nat) : Int) := by
  have hn := hP.n10
  have hl := hP.length
  have H : ∀ (i : Nat) (st : Nat), i ≤ P.length → st < 2 ^ P.length → Ev (fun k => spec_poBottom.l0 k (s : Int) (st : Int) l (l.length : Int) (i : Int)) ((foldFrom (fun o i => if s.testBit i then (if P.getD i 0 &&& s = 0 then o ||| 2 ^ i else o) else o) i P.length st : Nat) : Int) := by
    refine ev_down (fun k (st : Nat) i => spec_poBottom.l0 k (s : Int) (st : Int) l (l.length : Int) i) (fun i st => ((foldFrom (fun o i => if s.testBit i then (if P.getD i 0 &&& s = 0 then o ||| 2 ^ i else o) else o) i P.length st : Nat) : Int)) P.length (fun _ st => st < 2 ^ P.length) ?_ ?_
    · intro st _
      rw [foldFrom_end]
      exact ev_step (Ev.now _) (fun k => by simp only [spec_poBottom.l0]; rw [if_neg (by omega)])
    · intro i st hi hst ih
      have c1 : (i : Int) < (l.length : Int) := by omega
      have c2 : 0 ≤ (i : Int) := by omega
      have hw : wrap64 ((i : Int) + 1) = (i : Int) + 1 := wrap64_id (by omega) (by omega)
      have hb := poIn_is (s := s) (e := i) (by omega)
      have h2 : 2 ^ i < 2 ^ P.length := Nat.pow_lt_pow_right (by decide) hi
      have ha := and_nat (hP.lt63 i) (p63 hs (by omega))
      have ho := or_nat (p63 hst (by omega)) (p63 h2 (by omega))
      have hsh := shl_one (i := i) (by omega)
      have hr : rd l (i : Int) = ((P.getD i 0 : Nat) : Int) := by rw [hP.eq, rd_cast]
      rw [foldFrom_step _ hi]
      cases hbit : s.testBit i with
      | true =>
        by_cases h0 : P.getD i 0 &&& s = 0
        · rw [if_pos rfl, if_pos h0]
          exact ev_step (ih _ (Nat.or_lt_two_pow hst h2)) (fun k => by simp only [spec_poBottom.l0]; rw [if_pos c1, if_pos c2, if_pos c1, hb, hbit, Option.bind_some, if_pos rfl, hr, ha, if_pos (nat_zero.2 h0), hsh, ho, hw])
        · rw [if_pos rfl, if_neg h0]
          exact ev_step (ih _ hst) (fun k => by simp only [spec_poBottom.l0]; rw [if_pos c1, if_pos c2, if_pos c1, hb, hbit, Option.bind_some, if_pos rfl, hr, ha, if_neg (fun h => h0 (nat_zero.1 h)), hw])
      | false => exact ev_step (ih _ hst) (fun k => by simp only [spec_poBottom.l0]; rw [if_pos c1, if_pos c2, if_pos c1, hb, hbit, Option.bind_some, if_neg (by decide), hw]; rfl)
  unfold spec_poBottom.f
  exact H 0 0 (by omega) (Nat.two_pow_pos _)
end Go.Proofs.Ytcijgnfidipmaaa.B
