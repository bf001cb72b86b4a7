/- Is a list a linear extension, as the reference asks. -/
import Derived.Test.YtinnobjcphfejaaSord
import Derived.Test.YtinnobjcphfejaaB15
namespace Go.Proofs.Ytinnobjcphfejaa.B
open Go.RowKit Go.Proofs.Ytinnobjcphfejaa.M Go.Proofs.YtinnobjcphfejaaW.PrintWords Go.Proofs.YtinnobjcphfejaaW.PrintLast Go.Proofs.YtinnobjcphfejaaW.PrintMore
attribute [local irreducible] Go.bits shl shr sd
theorem liIs_l0 {l : List Int} {P : List Nat} (hP : Good l P) (o : List Int) (ho : o.length ≤ 1048576) (hr : rangeB ((P.length : Int) - 1) o = true) : ∀ (i : Nat) (st : Nat), i ≤ o.length → st < 2 ^ P.length →
    Ev (fun k => spec_liIs.l0 k (st : Int) o (o.length : Int) (i : Int) l) (ordRun P st (o.drop i)).isSome := by
  have hn := hP.n10
  have hl := hP.length
  refine ev_down (fun k (st : Nat) i => spec_liIs.l0 k (st : Int) o (o.length : Int) i l) (fun i st => (ordRun P st (o.drop i)).isSome) o.length (fun _ st => st < 2 ^ P.length) ?_ ?_
  · intro st _
    rw [List.drop_length]
    exact ev_step (Ev.now _) (fun k => by simp only [spec_liIs.l0, ordRun]; rw [if_neg (by omega)]; rfl)
  · intro i st hi hst ih
    obtain ⟨e, he⟩ : ∃ e, o.getD i 0 = e := ⟨_, rfl⟩
    have hre : 0 ≤ e ∧ e ≤ (P.length : Int) - 1 := by
      unfold rangeB at hr
      rw [List.all_eq_true] at hr
      have := hr _ (getD_mem hi)
      rw [he] at this
      simpa using this
    obtain ⟨j, rfl⟩ : ∃ j : Nat, e = (j : Int) := ⟨e.toNat, by omega⟩
    have hjn : j < P.length := by omega
    have c1 : (i : Int) < (o.length : Int) := by omega
    have c2 : 0 ≤ (i : Int) := by omega
    have c4 : 0 ≤ (j : Int) := by omega
    have c5 : (j : Int) < (l.length : Int) := by omega
    have hw : wrap64 ((i : Int) + 1) = (i : Int) + 1 := wrap64_id (by omega) (by omega)
    have hh := poIn_is (s := st) (e := j) (by omega)
    have ha := andNot_nat (hP.lt63 j) (p63 hst (by omega))
    have h2 : 2 ^ j < 2 ^ P.length := Nat.pow_lt_pow_right (by decide) hjn
    have hor := or_nat (p63 hst (by omega)) (p63 h2 (by omega))
    have hsh := shl_one (i := j) (by omega)
    have hrd : rd l (j : Int) = ((P.getD j 0 : Nat) : Int) := by rw [hP.eq, rd_cast]
    rw [drop_step o 0 hi, he]
    simp only [ordRun]
    cases hb : st.testBit j with
    | true =>
      have hok : ordOk P st (j : Int) = false := by unfold ordOk; rw [Int.toNat_natCast, hb]; simp
      rw [hok, if_neg (by decide)]
      exact ev_step (Ev.now _) (fun k => by simp only [spec_liIs.l0]; rw [if_pos c1, if_pos c2, if_pos c1, rd_nat, he, hh, hb, Option.bind_some, if_pos rfl]; rfl)
    | false =>
      by_cases h0 : sd (P.getD j 0) st = 0
      · have hok : ordOk P st (j : Int) = true := by unfold ordOk; rw [Int.toNat_natCast, hb, decide_eq_true hre, decide_eq_true h0]; rfl
        rw [hok, if_pos rfl, Int.toNat_natCast]
        exact ev_step (ih _ (Nat.or_lt_two_pow hst h2)) (fun k => by simp only [spec_liIs.l0]; rw [if_pos c1, if_pos c2, if_pos c1, rd_nat, he, hh, hb, Option.bind_some, if_neg (by decide), if_pos c4, if_pos c5, hrd, ha, if_pos (sd_zero_nat.2 h0), hsh, hor, hw])
      · have hok : ordOk P st (j : Int) = false := by unfold ordOk; rw [Int.toNat_natCast, decide_eq_false h0]; simp
        rw [hok, if_neg (by decide)]
        exact ev_step (Ev.now _) (fun k => by simp only [spec_liIs.l0]; rw [if_pos c1, if_pos c2, if_pos c1, rd_nat, he, hh, hb, Option.bind_some, if_neg (by decide), if_pos c4, if_pos c5, hrd, ha, if_neg (fun h => h0 (sd_zero_nat.1 h))]; rfl)
theorem liIs_ev {l : List Int} {P : List Nat} (hP : Good l P) (o : List Int) (ho : o.length ≤ 1048576) : Ev (fun k => spec_liIs.f k l o) (ordB P o) := by
  have hl := hP.length
  have hn := hP.n10
  unfold spec_liIs.f
  rw [ordB_run]
  by_cases h : o.length = P.length
  · rw [decide_eq_true h, Bool.true_and]
    have hw2 : wrap64 ((o.length : Int) - 1) = (P.length : Int) - 1 := by rw [h]; exact wrap64_id (by omega) (by omega)
    refine ev_bind (F := fun k t => spec_liIs.j0 k o (!t) l) (l1All_ev o ho ((P.length : Int) - 1)) ?_ (fun k => by rw [if_pos (by omega), hw2])
    cases hr : rangeB ((P.length : Int) - 1) o with
    | true =>
      refine ev_step (liIs_l0 hP o ho hr 0 0 (by omega) (Nat.two_pow_pos _)) (fun k => ?_)
      simp only [spec_liIs.j0]
      rw [if_neg (by decide)]
      rfl
    | false =>
      have : (ordRun P 0 o).isSome = false := by
        cases h2 : (ordRun P 0 o).isSome with
        | false => rfl
        | true => rw [ordRun_range o 0 h2] at hr; cases hr
      rw [this]
      exact ev_step (Ev.now _) (fun k => by simp only [spec_liIs.j0]; rw [if_pos (by decide)])
  · rw [decide_eq_false h, Bool.false_and]
    refine ev_as (f := fun k => spec_liIs.j0 k o true l) ?_ (fun k => by rw [if_neg (by omega)])
    exact ev_step (Ev.now _) (fun k => by simp only [spec_liIs.j0]; rw [if_pos trivial])
end Go.Proofs.Ytinnobjcphfejaa.B
