/- So many rowmotions, as the program does them. -/
import Derived.Test.YtdfgfeobaldmpaaSrow
import Derived.Test.YtdfgfeobaldmpaaSback
import Derived.Test.YtdfgfeobaldmpaaSin
import Derived.Test.YtdfgfeobaldmpaaB4
namespace Go.Proofs.Ytdfgfeobaldmpaa.B
open Go.RowKit Go.Proofs.Ytdfgfeobaldmpaa.M Go.Proofs.YtdfgfeobaldmpaaW.PrintWords Go.Proofs.YtdfgfeobaldmpaaW.PrintLast Go.Proofs.YtdfgfeobaldmpaaW.PrintMore
attribute [local irreducible] Go.bits shl shr sd
/-- The program's rowmotions forth. -/
theorem rows_l1 {l : List Int} {P : List Nat} (hP : Good l P) (n : Nat) (hn : n ≤ 1000) : ∀ (i : Nat) (st : Nat), i ≤ n → (st < 2 ^ P.length ∧ idl P st = true) → Ev (fun k => impl_Poset_rows.l1 k (st : Int) (n : Int) (i : Int) l) ((foldFrom (fun o _ => bk P o) i n st : Nat) : Int) := by
  refine ev_down (fun k (st : Nat) i => impl_Poset_rows.l1 k (st : Int) (n : Int) i l) (fun i st => ((foldFrom (fun o _ => bk P o) i n st : Nat) : Int)) n (fun _ st => st < 2 ^ P.length ∧ idl P st = true) ?_ ?_
  · intro st _
    rw [foldFrom_end]
    exact ev_step (Ev.now _) (fun k => by simp only [impl_Poset_rows.l1]; rw [if_neg (by omega)])
  · intro i st hi hst ih
    have c1 : (i : Int) < (n : Int) := by omega
    have hw : wrap64 ((i : Int) + 1) = (i : Int) + 1 := wrap64_id (by omega) (by omega)
    rw [foldFrom_step _ hi]
    exact ev_stepb (F := fun k t => impl_Poset_rows.l1 k t (n : Int) ((i : Int) + 1) l) (back_ev hP hst.1 hst.2) (ih _ ⟨bk_lt P st, bk_idl hP st⟩) (fun k => by simp only [impl_Poset_rows.l1]; rw [if_pos c1, hw])
theorem rows_l0 {l : List Int} {P : List Nat} (hP : Good l P) (a : Int) (n : Nat) (hn : n ≤ 1000) (fin : Nat → Int) (hfin : ∀ st, st < 2 ^ P.length → idl P st = true → Ev (fun k => impl_Poset_rows.l1 k (st : Int) (mx (wrap64 (-a)) 0) 0 l) (fin st)) : ∀ (i : Nat) (st : Nat), i ≤ n → (st < 2 ^ P.length ∧ idl P st = true) → Ev (fun k => impl_Poset_rows.l0 k (st : Int) a (n : Int) (i : Int) l) (fin (foldFrom (fun o _ => rw_ P o) i n st)) := by
  refine ev_down (fun k (st : Nat) i => impl_Poset_rows.l0 k (st : Int) a (n : Int) i l) (fun i st => fin (foldFrom (fun o _ => rw_ P o) i n st)) n (fun _ st => st < 2 ^ P.length ∧ idl P st = true) ?_ ?_
  · intro st hst
    rw [foldFrom_end]
    exact ev_step (hfin st hst.1 hst.2) (fun k => by simp only [impl_Poset_rows.l0]; rw [if_neg (by omega)])
  · intro i st hi hst ih
    have c1 : (i : Int) < (n : Int) := by omega
    have hw : wrap64 ((i : Int) + 1) = (i : Int) + 1 := wrap64_id (by omega) (by omega)
    rw [foldFrom_step _ hi]
    exact ev_stepb (F := fun k t => impl_Poset_rows.l0 k t a (n : Int) ((i : Int) + 1) l) (row_ev hP hst.1) (ih _ ⟨rw_lt hP st, rw_idl hP st⟩) (fun k => by simp only [impl_Poset_rows.l0]; rw [if_pos c1, hw])
/-- So many rowmotions, forth or back. -/
def rowsB (P : List Nat) (s : Nat) (a : Int) : Nat := if 0 ≤ a then foldFrom (fun o _ => rw_ P o) 0 a.toNat s else foldFrom (fun o _ => bk P o) 0 (-a).toNat s
theorem rows_ev {l : List Int} {P : List Nat} (hP : Good l P) {s : Nat} (hs : s < 2 ^ P.length) (hi : idl P s = true) {a : Int} (ha : -1000 ≤ a ∧ a ≤ 1000) : Ev (fun k => impl_Poset_rows.f k l (s : Int) a) ((rowsB P s a : Nat) : Int) := by
  have hw : wrap64 (-a) = -a := wrap64_id (by omega) (by omega)
  unfold impl_Poset_rows.f rowsB
  by_cases h : 0 ≤ a
  · rw [if_pos h]
    have hm : mx a 0 = ((a.toNat : Nat) : Int) := by unfold mx; split <;> omega
    rw [hm]
    refine rows_l0 hP a a.toNat (by omega) (fun st => (st : Int)) (fun st _ _ => ?_) 0 s (by omega) ⟨hs, hi⟩
    have hm2 : mx (wrap64 (-a)) 0 = 0 := by rw [hw]; unfold mx; split <;> omega
    exact ev_step (Ev.now _) (fun k => by simp only [impl_Poset_rows.l1]; rw [hm2, if_neg (by decide)])
  · rw [if_neg h]
    have hm : mx a 0 = ((0 : Nat) : Int) := by unfold mx; split <;> omega
    rw [hm]
    have hm2 : mx (wrap64 (-a)) 0 = (((-a).toNat : Nat) : Int) := by rw [hw]; unfold mx; split <;> omega
    have := rows_l0 hP a 0 (by omega) (fun st => ((foldFrom (fun o _ => bk P o) 0 (-a).toNat st : Nat) : Int)) (fun st h1 h2 => by
      rw [hm2]
      exact rows_l1 hP (-a).toNat (by omega) 0 st (by omega) ⟨h1, h2⟩) 0 s (by omega) ⟨hs, hi⟩
    rwa [foldFrom_end] at this
theorem implTimes_ev (l : List Int) (a b : Int) : Ev (fun k => impl_RowmotionTimes.f k l a b) (if inB l a = true then (if -1000 ≤ b ∧ b ≤ 1000 then (((rowsB (l.map Int.toNat) a.toNat b : Nat) : Int), true) else (0, false)) else (0, false)) := by
  unfold impl_RowmotionTimes.f
  refine Ev.bind (isIdeal_ev l a) ?_
  cases hg : inB l a with
  | false => exact ev_as (Ev.now _) (fun k => by rw [if_neg (by decide)]; rfl)
  | true =>
    obtain ⟨P, s, hP, rfl, hs, hi⟩ := in_nat hg
    by_cases hb : -1000 ≤ b ∧ b ≤ 1000
    · rw [if_pos rfl, if_pos hb, hP.nat, Int.toNat_natCast]
      exact ev_bind (rows_ev hP hs hi hb) (Ev.now _) (fun k => by rw [if_pos rfl, within_is, decide_eq_true hb, Option.bind_some, if_pos rfl])
    · rw [if_pos rfl, if_neg hb]
      exact ev_as (Ev.now _) (fun k => by rw [if_pos rfl, within_is, decide_eq_false hb, Option.bind_some, if_neg (by decide)])
end Go.Proofs.Ytdfgfeobaldmpaa.B
