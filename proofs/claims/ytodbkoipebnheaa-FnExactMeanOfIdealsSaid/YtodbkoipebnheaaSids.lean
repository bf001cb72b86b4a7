/- All ideals: the reference's and the program's. -/
import Derived.Test.YtodbkoipebnheaaSsets
import Derived.Test.YtodbkoipebnheaaSidl
import Derived.Test.YtodbkoipebnheaaSclose
import Derived.Test.YtodbkoipebnheaaB10
import Derived.Test.YtodbkoipebnheaaB7
namespace Go.Proofs.Ytodbkoipebnheaa.B
open Go.RowKit Go.Proofs.Ytodbkoipebnheaa.M Go.Proofs.YtodbkoipebnheaaW.PrintWords Go.Proofs.YtodbkoipebnheaaW.PrintLast Go.Proofs.YtodbkoipebnheaaW.PrintMore
attribute [local irreducible] Go.bits shl shr sd
def ids (P : List Nat) : List Nat := setsF (idl P) 0 (2 ^ P.length)
theorem mem_ids {P : List Nat} {s : Nat} : s ∈ ids P ↔ s < 2 ^ P.length ∧ idl P s = true := mem_setsF _ _ _
theorem ids_length {P : List Nat} (h : P.length ≤ 10) : (ids P).length ≤ 1024 := Nat.le_trans (setsF_length _ _) (pow1024 h)
theorem poIdeals_ev {l : List Int} {P : List Nat} (hP : Good l P) : Ev (fun k => spec_poIdeals.f k l) (cast (ids P)) := by
  have hn := hP.n10
  have h2 := pow1024 hn
  have hl := hP.length
  have hs1 : shl .i64 1 (l.length : Int) = ((2 ^ P.length : Nat) : Int) := by rw [hl]; exact shl_one (by omega)
  unfold spec_poIdeals.f ids
  refine sets_ev (fun k st i => spec_poIdeals.l0 k st i l) (idl P) (2 ^ P.length) id ?_ ?_ ?_
  · intro st _
    exact ev_step (Ev.now _) (fun k => by simp only [spec_poIdeals.l0]; rw [hs1, if_neg (by omega)]; rfl)
  · intro i st r hi hst hf ih
    have hw : wrap64 ((i : Int) + 1) = (i : Int) + 1 := wrap64_id (by omega) (by omega)
    have c1 : (i : Int) < ((2 ^ P.length : Nat) : Int) := by omega
    have c2 : st.length < 17592186044416 := by omega
    refine ev_stepb (poIdeal_ev hP hi) ?_ (fun k => by simp only [spec_poIdeals.l0]; rw [hs1, if_pos c1])
    exact ev_as ih (fun k => by rw [hf, if_pos rfl, if_pos c2, hw])
  · intro i st r hi hst hf ih
    have hw : wrap64 ((i : Int) + 1) = (i : Int) + 1 := wrap64_id (by omega) (by omega)
    have c1 : (i : Int) < ((2 ^ P.length : Nat) : Int) := by omega
    refine ev_stepb (poIdeal_ev hP hi) ?_ (fun k => by simp only [spec_poIdeals.l0]; rw [hs1, if_pos c1])
    exact ev_as ih (fun k => by rw [hf, if_neg (by decide), hw])
theorem isId_ev {l : List Int} {P : List Nat} (hP : Good l P) {s : Nat} (hs : s < 2 ^ P.length) : Ev (fun k => impl_Poset_ideals_1_c.f k (s : Int) l) (idl P s) := by
  unfold impl_Poset_ideals_1_c.f
  refine Ev.bind (close_ev hP hs) ?_
  refine ev_eq (Ev.now _) ?_
  rw [idl_dn, Bool.eq_iff_iff, beq_iff_eq, decide_eq_true_eq]
  omega
theorem ideals_ev {l : List Int} {P : List Nat} (hP : Good l P) : Ev (fun k => impl_Poset_ideals.f k l) (cast (ids P)) := by
  have hn := hP.n10
  have h2 := pow1024 hn
  have hp := Nat.one_le_two_pow (n := P.length)
  have hl := hP.length
  have hl' : l.length = P.length := by omega
  have hs1 : wrap64 (((2 ^ P.length - 1 : Nat) : Int) + 1) = ((2 ^ P.length : Nat) : Int) := by rw [wrap64_id (by omega) (by omega)]; omega
  unfold impl_Poset_ideals.f impl_Poset_sets_at_impl_Poset_ideals_1.f ids
  rw [all_is l (by omega)]
  simp only [Option.bind_some, hl', hs1]
  refine Ev.bind ?_ (Ev.now _)
  refine sets_ev (fun k st i => impl_Poset_sets_at_impl_Poset_ideals_1.l0 k st ((2 ^ P.length : Nat) : Int) i l) (idl P) (2 ^ P.length) id ?_ ?_ ?_
  · intro st _
    exact ev_step (Ev.now _) (fun k => by simp only [impl_Poset_sets_at_impl_Poset_ideals_1.l0]; rw [if_neg (by omega)]; rfl)
  · intro i st r hi hst hf ih
    have hw : wrap64 ((i : Int) + 1) = (i : Int) + 1 := wrap64_id (by omega) (by omega)
    have c1 : (i : Int) < ((2 ^ P.length : Nat) : Int) := by omega
    have c2 : st.length < 17592186044416 := by omega
    refine ev_stepb (isId_ev hP hi) ?_ (fun k => by simp only [impl_Poset_sets_at_impl_Poset_ideals_1.l0]; rw [if_pos c1])
    exact ev_as ih (fun k => by rw [hf, if_pos rfl, if_pos c2, hw])
  · intro i st r hi hst hf ih
    have hw : wrap64 ((i : Int) + 1) = (i : Int) + 1 := wrap64_id (by omega) (by omega)
    have c1 : (i : Int) < ((2 ^ P.length : Nat) : Int) := by omega
    refine ev_stepb (isId_ev hP hi) ?_ (fun k => by simp only [impl_Poset_sets_at_impl_Poset_ideals_1.l0]; rw [if_pos c1])
    exact ev_as ih (fun k => by rw [hf, if_neg (by decide), hw])
end Go.Proofs.Ytodbkoipebnheaa.B
