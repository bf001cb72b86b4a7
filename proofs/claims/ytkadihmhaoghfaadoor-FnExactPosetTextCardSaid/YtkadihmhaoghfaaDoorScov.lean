/- What an element covers, as the program makes it. -/
import Derived.Test.YtkadihmhaoghfaaDoorMcom
import Derived.Test.YtkadihmhaoghfaaDoorG
import Derived.Test.YtkadihmhaoghfaaDoorB3
namespace Go.Proofs.YtkadihmhaoghfaaDoor.B
open Go.RowKit Go.Proofs.YtkadihmhaoghfaaDoor.M Go.Proofs.YtkadihmhaoghfaaDoorW.PrintWords Go.Proofs.YtkadihmhaoghfaaDoorW.PrintLast Go.Proofs.YtkadihmhaoghfaaDoorW.PrintMore
attribute [local irreducible] Go.bits shl shr sd
theorem cov_l0 {l : List Int} {P : List Nat} (hP : Good l P) {s : Nat} (hs : s < 2 ^ P.length) : ∀ (e : Nat) (st : Nat), e ≤ (items s).length → st < 2 ^ P.length →
    Ev (fun k => impl_Poset_covered.l0 k (st : Int) (cast (items s)) ((cast (items s)).length : Int) (e : Int) l) ((((items s).drop e).foldl (fun o i => sd o (P.getD i 0)) st : Nat) : Int) := by
  have hn := hP.n10
  have hlen : (items s).length ≤ 10 := by unfold items; exact Nat.le_trans (List.length_filter_le _ _) (by simp)
  refine ev_down (fun k (st : Nat) e => impl_Poset_covered.l0 k (st : Int) (cast (items s)) ((cast (items s)).length : Int) e l) (fun e st => ((((items s).drop e).foldl (fun o i => sd o (P.getD i 0)) st : Nat) : Int)) (items s).length (fun _ st => st < 2 ^ P.length) ?_ ?_
  · intro st _
    rw [List.drop_length, List.foldl_nil]
    exact ev_step (Ev.now _) (fun k => by simp only [impl_Poset_covered.l0]; rw [if_neg (by rw [cast_length]; omega)])
  · intro e st he hst ih
    obtain ⟨j, hj⟩ : ∃ j, (items s).getD e 0 = j := ⟨_, rfl⟩
    have hmem : j ∈ items s := by rw [← hj]; exact getD_memN he
    have hjn : j < P.length := bit_lt hs (mem_items.1 hmem).2
    have hl := hP.length
    have c1 : (e : Int) < ((cast (items s)).length : Int) := by rw [cast_length]; omega
    have c2 : 0 ≤ (e : Int) := by omega
    have c4 : 0 ≤ (j : Int) := by omega
    have c5 : (j : Int) < (l.length : Int) := by omega
    have hw : wrap64 ((e : Int) + 1) = (e : Int) + 1 := wrap64_id (by omega) (by omega)
    have ho := andNot_nat (p63 hst (by omega)) (hP.lt63 j)
    rw [drop_step (items s) 0 he, hj, List.foldl_cons]
    refine ev_step (ih (sd st (P.getD j 0)) (sd_lt hst)) (fun k => ?_)
    simp only [impl_Poset_covered.l0]
    rw [if_pos c1, if_pos c2, if_pos c1, rd_cast, hj, if_pos c4, if_pos c5, hw]
    conv => lhs; rw [hP.eq, rd_cast]
    rw [ho, ← hP.eq]
theorem covered_ev {l : List Int} {P : List Nat} (hP : Good l P) {i : Nat} (hi : i < P.length) : Ev (fun k => impl_Poset_covered.f k l (i : Int)) ((cov P i : Nat) : Int) := by
  have hn := hP.n10
  have hl := hP.length
  have hr : rd l (i : Int) = ((P.getD i 0 : Nat) : Int) := by rw [hP.eq, rd_cast]
  unfold impl_Poset_covered.f
  refine ev_bind (items_ev (hP.lt63 i)) ?_ (fun k => by rw [if_pos (by omega), if_pos (by omega), hr])
  have := cov_l0 hP (hP.ltn i) 0 (P.getD i 0) (by omega) (hP.ltn i)
  rw [List.drop_zero, fold_items _ (hP.ltn i) (by omega)] at this
  exact this
end Go.Proofs.YtkadihmhaoghfaaDoor.B
