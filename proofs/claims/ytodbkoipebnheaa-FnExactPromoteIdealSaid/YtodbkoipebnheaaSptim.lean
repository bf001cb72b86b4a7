/- Promotion, so many times: the reference's and the program's. -/
import Derived.Test.YtodbkoipebnheaaSprom
import Derived.Test.YtodbkoipebnheaaSin
import Derived.Test.YtodbkoipebnheaaSwri
import Derived.Test.YtodbkoipebnheaaB16
import Derived.Test.YtodbkoipebnheaaB17
import Derived.Test.YtodbkoipebnheaaB18
namespace Go.Proofs.Ytodbkoipebnheaa.B
open Go.RowKit Go.Proofs.Ytodbkoipebnheaa.M Go.Proofs.YtodbkoipebnheaaW.PrintWords Go.Proofs.YtodbkoipebnheaaW.PrintLast Go.Proofs.YtodbkoipebnheaaW.PrintMore
attribute [local irreducible] Go.bits shl shr sd
theorem word_range {P : List Nat} {m n : Nat} (hlen : P.length = m * n) : rangeB ((P.length : Int) - 1) (pword m n 0) = true := by
  unfold rangeB
  rw [List.all_eq_true]
  intro e he
  have := pword_range e he
  rw [decide_eq_true_eq, hlen]
  omega
theorem proms_l0 {l : List Int} {P : List Nat} (hP : Good l P) (w : List Int) (hw : w.length ≤ 1048576) (hr : rangeB ((P.length : Int) - 1) w = true) (c : Nat) (hc : c ≤ 1000) : ∀ (i : Nat) (s : Nat), i ≤ c → s < 2 ^ P.length → Ev (fun k => impl_PromoteTimes.l0 k (s : Int) w (c : Int) (i : Int) l) (((foldFrom (fun o _ => togs P o w) i c s : Nat) : Int), true) := by
  refine ev_down (fun k (s : Nat) i => impl_PromoteTimes.l0 k (s : Int) w (c : Int) i l) (fun i s => (((foldFrom (fun o _ => togs P o w) i c s : Nat) : Int), true)) c (fun _ s => s < 2 ^ P.length) ?_ ?_
  · intro s _
    rw [foldFrom_end]
    exact ev_step (Ev.now _) (fun k => by simp only [impl_PromoteTimes.l0]; rw [if_neg (by omega)])
  · intro i s hi hs ih
    have c1 : (i : Int) < (c : Int) := by omega
    have hw2 : wrap64 ((i : Int) + 1) = (i : Int) + 1 := wrap64_id (by omega) (by omega)
    rw [foldFrom_step _ hi]
    refine ev_stepb (toggles_ev hP w hw hr hs) ?_ (fun k => by simp only [impl_PromoteTimes.l0]; rw [if_pos c1])
    exact ev_as (ih _ (togs_ok w s (fun e he => range_mem hr he) hs).1) (fun k => by rw [hw2])
/-- What both answer. -/
def promB (P : List Nat) (w : List Int) (s c : Nat) : Nat := foldFrom (fun o _ => togs P o w) 0 c s
/-- The guards, and what is found behind them. -/
theorem tgRectangle_ev (a b s : Int) : (sidesB a b = false ∧ Ev (fun k => spec_tgRectangle.f k a b s) false ∧ (∀ c, Ev (fun k => impl_PromoteTimes.f k a b s c) (0, false))) ∨
    ∃ (m n : Nat) (l : List Int) (P : List Nat), a = (m : Int) ∧ b = (n : Int) ∧ 1 ≤ m ∧ m ≤ 10 ∧ 1 ≤ n ∧ n ≤ 10 ∧ m * n ≤ 10 ∧ Good l P ∧ P.length = m * n ∧ Ev (fun k => spec_poRectangle.f k a b) l ∧ Ev (fun k => impl_Rectangle.f k a b) (l, true) ∧ Ev (fun k => spec_tgRectangle.f k a b s) (inB l s) := by
  cases hs : sidesB a b with
  | false =>
    refine .inl ⟨rfl, ?_, fun c => ?_⟩
    · unfold spec_tgRectangle.f
      exact ev_as (Ev.now _) (fun k => by rw [poSides_is, hs, Option.bind_some, if_neg (by decide)])
    · unfold impl_PromoteTimes.f
      refine Ev.bind (a := (([] : List Int), false)) ?_ ?_
      · unfold impl_Rectangle.f
        exact ev_as (Ev.now _) (fun k => by rw [areSides_is, hs, Option.bind_some, if_neg (by decide)])
      · exact ev_as (ev_step (g := fun k => impl_PromoteTimes.j0 k a b s c true []) (Ev.now _) (fun k => by simp only [impl_PromoteTimes.j0]; rw [if_pos trivial])) (fun k => by rw [if_neg (by decide)])
  | true =>
    obtain ⟨m, n, rfl, rfl, h1, h2, h3, h4, h5⟩ := sides_nat hs
    obtain ⟨l, P, hP, hlen, e1, e2⟩ := rect_ev h1 h2 h3 h4 h5
    refine .inr ⟨m, n, l, P, rfl, rfl, h1, h2, h3, h4, h5, hP, hlen, e1, ?_, ?_⟩
    · unfold impl_Rectangle.f
      exact ev_bind e2 (Ev.now _) (fun k => by rw [areSides_is, hs, Option.bind_some, if_pos rfl])
    · unfold spec_tgRectangle.f
      refine ev_bind e1 ?_ (fun k => by rw [poSides_is, hs, Option.bind_some, if_pos rfl])
      exact Ev.bind (tgIn_ev l s) (Ev.now _)
theorem implProm_ev {m n : Nat} {l : List Int} {P : List Nat} (h1 : 1 ≤ m) (h2 : m ≤ 10) (h3 : 1 ≤ n) (h4 : n ≤ 10) (h5 : m * n ≤ 10) (hP : Good l P) (hlen : P.length = m * n) (hR : Ev (fun k => impl_Rectangle.f k (m : Int) (n : Int)) (l, true)) (s c : Int) :
    Ev (fun k => impl_PromoteTimes.f k (m : Int) (n : Int) s c) (if (inB l s && decide (0 ≤ c ∧ c ≤ 1000)) = true then (((promB P (pword m n 0) s.toNat c.toNat : Nat) : Int), true) else (0, false)) := by
  have no : Ev (fun k => impl_PromoteTimes.j0 k (m : Int) (n : Int) s c true l) (0, false) := ev_step (Ev.now _) (fun k => by simp only [impl_PromoteTimes.j0]; rw [if_pos trivial])
  unfold impl_PromoteTimes.f
  refine Ev.bind hR ?_
  refine ev_bind (isIdeal_ev l s) ?_ (fun k => by rw [if_pos rfl])
  cases hg : inB l s with
  | false => rw [Bool.false_and, if_neg (by decide)]; exact ev_as no (fun k => by rw [if_neg (by decide)])
  | true =>
    by_cases hc : 0 ≤ c ∧ c ≤ 1000
    · rw [decide_eq_true hc, Bool.true_and, if_pos rfl]
      obtain ⟨P', x, hP', rfl, hs, hi⟩ := in_nat hg
      have hPP : P' = P := by rw [← hP'.nat, hP.nat]
      subst hPP
      obtain ⟨y, rfl⟩ : ∃ y : Nat, c = (y : Int) := ⟨c.toNat, by omega⟩
      refine ev_as (f := fun k => impl_PromoteTimes.j0 k (m : Int) (n : Int) (x : Int) (y : Int) false l) ?_ (fun k => by rw [if_pos rfl, within_is, decide_eq_true hc, Option.bind_some]; rfl)
      refine ev_stepb (promotion_ev h1 h2 h3 h4 h5) ?_ (fun k => by simp only [impl_PromoteTimes.j0]; rw [if_neg (by decide)])
      exact proms_l0 hP (pword m n 0) (pword_length h2 h4) (word_range hlen) y (by omega) 0 x (by omega) hs
    · rw [decide_eq_false hc, Bool.and_false, if_neg (by decide)]
      exact ev_as no (fun k => by rw [if_pos rfl, within_is, decide_eq_false hc, Option.bind_some]; rfl)
end Go.Proofs.Ytodbkoipebnheaa.B
