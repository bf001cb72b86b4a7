/- The plain law of PromoteTimes: the two printed functions answer alike. -/
import Derived.Test.YtodbkoipebnheaaSptim
import Derived.Test.YtodbkoipebnheaaB18
import Derived.Test.YtodbkoipebnheaaB37
namespace Go.Proofs.Ytodbkoipebnheaa.B
open Go.RowKit Go.Proofs.Ytodbkoipebnheaa.M Go.Proofs.YtodbkoipebnheaaW.PrintWords Go.Proofs.YtodbkoipebnheaaW.PrintLast Go.Proofs.YtodbkoipebnheaaW.PrintMore
attribute [local irreducible] Go.bits shl shr sd
theorem spec_proms {m n : Nat} {l : List Int} {P : List Nat} (h1 : 1 ≤ m) (h2 : m ≤ 10) (h3 : 1 ≤ n) (h4 : n ≤ 10) (h5 : m * n ≤ 10) (hP : Good l P) (hlen : P.length = m * n) (hR : Ev (fun k => spec_poRectangle.f k (m : Int) (n : Int)) l) (c : Nat) :
    ∀ (d : Nat) (s : Nat), d ≤ c → c ≤ 1000 → s < 2 ^ P.length → Ev (fun k => spec_PromoteTimes.l0 k (m : Int) (n : Int) (s : Int) (d : Int)) (((foldFrom (fun o _ => togs P o (pword m n 0)) (c - d) c s : Nat) : Int), true) := by
  intro d
  induction d with
  | zero =>
    intro s _ _ _
    rw [Nat.sub_zero, foldFrom_end]
    exact ev_step (Ev.now _) (fun k => by simp only [spec_PromoteTimes.l0]; rw [if_neg (by omega)])
  | succ d ih =>
    intro s hd hc hs
    have hw : wrap64 (((d + 1 : Nat) : Int) - 1) = (d : Int) := by rw [wrap64_id (by omega) (by omega)]; omega
    rw [foldFrom_step _ (show c - (d + 1) < c by omega), show c - (d + 1) + 1 = c - d by omega]
    refine ev_stepb (tgPromote_ev h1 h2 h3 h4 h5 hP hlen hR hs) ?_ (fun k => by simp only [spec_PromoteTimes.l0]; rw [if_pos (by omega)])
    exact ev_as (ih _ (by omega) hc (togs_ok _ s (fun e he => range_mem (word_range hlen) he) hs).1) (fun k => by rw [hw])
theorem both_PromoteTimes (a b s c : Int) : ∃ r, Ev (fun k => spec_PromoteTimes.f k a b s c) r ∧ Ev (fun k => impl_PromoteTimes.f k a b s c) r := by
  have no : Ev (fun k => spec_PromoteTimes.j0 k a b s c true) (0, false) := ev_step (Ev.now _) (fun k => by simp only [spec_PromoteTimes.j0]; rw [if_pos trivial])
  unfold spec_PromoteTimes.f
  rcases tgRectangle_ev a b s with ⟨_, h1, h2⟩ | ⟨m, n, l, P, rfl, rfl, h1, h2, h3, h4, h5, hP, hlen, e1, e2, e3⟩
  · exact ⟨(0, false), Ev.bind h1 (ev_as no (fun k => by rw [if_neg (by decide)])), h2 c⟩
  · refine ⟨_, ?_, implProm_ev h1 h2 h3 h4 h5 hP hlen e2 s c⟩
    refine Ev.bind e3 ?_
    cases hg : inB l s with
    | false => rw [Bool.false_and, if_neg (by decide)]; exact ev_as no (fun k => by rw [if_neg (by decide)])
    | true =>
      by_cases hc : 0 ≤ c ∧ c ≤ 1000
      · rw [decide_eq_true hc, Bool.true_and, if_pos rfl]
        obtain ⟨P', x, hP', rfl, hs, hi⟩ := in_nat hg
        have hPP : P' = P := by rw [← hP'.nat, hP.nat]
        subst hPP
        obtain ⟨y, rfl⟩ : ∃ y : Nat, c = (y : Int) := ⟨c.toNat, by omega⟩
        refine ev_as (f := fun k => spec_PromoteTimes.j0 k (m : Int) (n : Int) (x : Int) (y : Int) false) ?_ (fun k => by rw [if_pos rfl, l1In_is, decide_eq_true hc, Option.bind_some]; rfl)
        refine ev_step ?_ (fun k => by simp only [spec_PromoteTimes.j0]; rw [if_neg (by decide)])
        have := spec_proms h1 h2 h3 h4 h5 hP hlen e1 y y x (by omega) (by omega) hs
        rw [Nat.sub_self] at this
        exact this
      · rw [decide_eq_false hc, Bool.and_false, if_neg (by decide)]
        exact ev_as no (fun k => by rw [if_pos rfl, l1In_is, decide_eq_false hc, Option.bind_some]; rfl)
theorem FnExactPromoteTimes (a b s c : Int) (_ : (Lit.int .i64 a).wf = true) (_ : (Lit.int .i64 b).wf = true) (_ : (Lit.int .i64 s).wf = true) (_ : (Lit.int .i64 c).wf = true) : ∃ k, laws_FnExactPromoteTimes.f k a b s c = some true := by
  apply Ev.rounds
  unfold laws_FnExactPromoteTimes.f
  obtain ⟨r, h1, h2⟩ := both_PromoteTimes a b s c
  refine Ev.bind h1 ?_
  refine Ev.bind h2 ?_
  exact ev_as (Ev.now _) (fun k => by rw [if_pos rfl, bne_self_eq_false, if_neg (by decide)])
end Go.Proofs.Ytodbkoipebnheaa.B
