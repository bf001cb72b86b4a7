/- All antichains: the reference's and the program's. -/
import Derived.Test.YtodbkoipebnheaaSsets
import Derived.Test.YtodbkoipebnheaaStop
import Derived.Test.YtodbkoipebnheaaB20
namespace Go.Proofs.Ytodbkoipebnheaa.B
open Go.RowKit Go.Proofs.Ytodbkoipebnheaa.M Go.Proofs.YtodbkoipebnheaaW.PrintWords Go.Proofs.YtodbkoipebnheaaW.PrintLast Go.Proofs.YtodbkoipebnheaaW.PrintMore
attribute [local irreducible] Go.bits shl shr sd
def antB (P : List Nat) (s : Nat) : Bool := decide (tp P s = s)
def antis (P : List Nat) : List Nat := setsF (antB P) 0 (2 ^ P.length)
theorem antis_length {P : List Nat} (h : P.length ≤ 10) : (antis P).length ≤ 1024 := Nat.le_trans (setsF_length _ _) (pow1024 h)
theorem specAntis_ev {l : List Int} {P : List Nat} (hP : Good l P) : Ev (fun k => spec_AntichainsOf.l0 k [] 0 l) (cast (antis P), true) := by
  have hn := hP.n10
  have h2 := pow1024 hn
  have hl := hP.length
  have hs1 : shl .i64 1 (l.length : Int) = ((2 ^ P.length : Nat) : Int) := by rw [hl]; exact shl_one (by omega)
  unfold antis
  refine sets_ev (fun k st i => spec_AntichainsOf.l0 k st i l) (antB P) (2 ^ P.length) (fun l => (l, true)) ?_ ?_ ?_
  · intro st _
    exact ev_step (Ev.now _) (fun k => by simp only [spec_AntichainsOf.l0]; rw [hs1, if_neg (by omega)])
  · intro i st r hi hst hf ih
    have hw : wrap64 ((i : Int) + 1) = (i : Int) + 1 := wrap64_id (by omega) (by omega)
    have c1 : (i : Int) < ((2 ^ P.length : Nat) : Int) := by omega
    have c2 : st.length < 17592186044416 := by omega
    unfold antB at hf
    rw [decide_eq_true_eq] at hf
    have c3 : ((tp P i : Nat) : Int) = (i : Int) := by omega
    refine ev_stepb (poTop_ev hP hi) ?_ (fun k => by simp only [spec_AntichainsOf.l0]; rw [hs1, if_pos c1])
    exact ev_as ih (fun k => by rw [if_pos c3, if_pos c2, hw])
  · intro i st r hi hst hf ih
    have hw : wrap64 ((i : Int) + 1) = (i : Int) + 1 := wrap64_id (by omega) (by omega)
    have c1 : (i : Int) < ((2 ^ P.length : Nat) : Int) := by omega
    unfold antB at hf
    rw [decide_eq_false_iff_not] at hf
    have c3 : ¬ ((tp P i : Nat) : Int) = (i : Int) := by omega
    refine ev_stepb (poTop_ev hP hi) ?_ (fun k => by simp only [spec_AntichainsOf.l0]; rw [hs1, if_pos c1])
    exact ev_as ih (fun k => by rw [if_neg c3, hw])
theorem isAnt_ev {l : List Int} {P : List Nat} (hP : Good l P) {s : Nat} (hs : s < 2 ^ P.length) : Ev (fun k => impl_AntichainsOf_1_c.f k (s : Int) l) (antB P s) := by
  unfold impl_AntichainsOf_1_c.f antB
  refine Ev.bind (top_ev hP hs) ?_
  refine ev_eq (Ev.now _) ?_
  rw [Bool.eq_iff_iff, beq_iff_eq, decide_eq_true_eq]
  omega
theorem implAntis_ev {l : List Int} {P : List Nat} (hP : Good l P) : Ev (fun k => impl_Poset_sets_at_impl_AntichainsOf_1.f k l l) (cast (antis P)) := by
  have hn := hP.n10
  have h2 := pow1024 hn
  have hp := Nat.one_le_two_pow (n := P.length)
  have hl := hP.length
  have hl' : l.length = P.length := by omega
  have hs1 : wrap64 (((2 ^ P.length - 1 : Nat) : Int) + 1) = ((2 ^ P.length : Nat) : Int) := by rw [wrap64_id (by omega) (by omega)]; omega
  unfold impl_Poset_sets_at_impl_AntichainsOf_1.f antis
  rw [all_is l (by omega)]
  simp only [Option.bind_some, hl', hs1]
  refine sets_ev (fun k st i => impl_Poset_sets_at_impl_AntichainsOf_1.l0 k st ((2 ^ P.length : Nat) : Int) i l) (antB P) (2 ^ P.length) id ?_ ?_ ?_
  · intro st _
    exact ev_step (Ev.now _) (fun k => by simp only [impl_Poset_sets_at_impl_AntichainsOf_1.l0]; rw [if_neg (by omega)]; rfl)
  · intro i st r hi hst hf ih
    have hw : wrap64 ((i : Int) + 1) = (i : Int) + 1 := wrap64_id (by omega) (by omega)
    have c1 : (i : Int) < ((2 ^ P.length : Nat) : Int) := by omega
    have c2 : st.length < 17592186044416 := by omega
    refine ev_stepb (isAnt_ev hP hi) ?_ (fun k => by simp only [impl_Poset_sets_at_impl_AntichainsOf_1.l0]; rw [if_pos c1])
    exact ev_as ih (fun k => by rw [hf, if_pos rfl, if_pos c2, hw])
  · intro i st r hi hst hf ih
    have hw : wrap64 ((i : Int) + 1) = (i : Int) + 1 := wrap64_id (by omega) (by omega)
    have c1 : (i : Int) < ((2 ^ P.length : Nat) : Int) := by omega
    refine ev_stepb (isAnt_ev hP hi) ?_ (fun k => by simp only [impl_Poset_sets_at_impl_AntichainsOf_1.l0]; rw [if_pos c1])
    exact ev_as ih (fun k => by rw [hf, if_neg (by decide), hw])
end Go.Proofs.Ytodbkoipebnheaa.B
