/- Is a list an order: the program's test and the reference's are one. -/
import Derived.Test.YtinnobjcphfejaaSall
import Derived.Test.YtinnobjcphfejaaB10
namespace Go.Proofs.Ytinnobjcphfejaa.B
open Go.RowKit Go.Proofs.Ytinnobjcphfejaa.M Go.Proofs.YtinnobjcphfejaaW.PrintWords Go.Proofs.YtinnobjcphfejaaW.PrintLast Go.Proofs.YtinnobjcphfejaaW.PrintMore
attribute [local irreducible] Go.bits shl shr sd
/-- May the element come next? -/
def ordOk (P : List Nat) (seen : Nat) (e : Int) : Bool := decide (0 ≤ e ∧ e ≤ (P.length : Int) - 1) && (!seen.testBit e.toNat && decide (sd (P.getD e.toNat 0) seen = 0))
/-- The elements that have been met behind a list, if each may come next. -/
def ordRun (P : List Nat) : Nat → List Int → Option Nat
  | seen, [] => some seen
  | seen, e :: es => if ordOk P seen e then ordRun P (seen ||| 2 ^ e.toNat) es else none
def cnt (s n : Nat) : Nat := ((List.range n).filter (fun e => s.testBit e)).length
theorem cnt_succ (s n : Nat) : cnt s (n + 1) = cnt s n + if s.testBit n then 1 else 0 := by
  unfold cnt
  rw [List.range_succ, List.filter_append, List.length_append]
  cases h : s.testBit n <;> simp [h]
theorem cnt_le (s n : Nat) : cnt s n ≤ n := by
  unfold cnt
  exact Nat.le_trans (List.length_filter_le _ _) (by simp)
theorem cnt_or {s e : Nat} (h : s.testBit e = false) : ∀ n, cnt (s ||| 2 ^ e) n = cnt s n + if e < n then 1 else 0 := by
  intro n
  induction n with
  | zero => simp [cnt]
  | succ n ih =>
    rw [cnt_succ, cnt_succ, ih, Nat.testBit_or, Nat.testBit_two_pow]
    by_cases h1 : e = n
    · subst h1
      simp [h]
    · by_cases h2 : e < n
      · simp [h1, h2, show e < n + 1 by omega]; omega
      · simp [h1, h2, show ¬ e < n + 1 by omega]
theorem cnt_zero (n : Nat) : cnt 0 n = 0 := by
  unfold cnt
  simp
theorem cnt_full {s n : Nat} (hs : s < 2 ^ n) : cnt s n = n ↔ s = 2 ^ n - 1 := by
  constructor
  · intro h
    apply Nat.eq_of_testBit_eq
    intro j
    rw [Nat.testBit_two_pow_sub_one]
    have hall : ∀ m, cnt s m = m → ∀ j, j < m → s.testBit j = true := by
      intro m
      induction m with
      | zero => intro _ j hj; omega
      | succ m ih =>
        intro hm j hj
        rw [cnt_succ] at hm
        have hle := cnt_le s m
        cases hb : s.testBit m with
        | false => rw [hb] at hm; simp at hm; omega
        | true =>
          rw [hb] at hm
          rcases Nat.lt_or_ge j m with h1 | h1
          · exact ih (by simpa using hm) j h1
          · rw [show j = m by omega]; exact hb
    by_cases hj : j < n
    · rw [hall n h j hj, decide_eq_true hj]
    · rw [decide_eq_false hj]
      cases hb : s.testBit j with
      | false => rfl
      | true => exact absurd (bit_lt hs hb) hj
  · rintro rfl
    unfold cnt
    rw [List.filter_eq_self.2]
    · simp
    · intro a ha
      rw [List.mem_range] at ha
      rw [Nat.testBit_two_pow_sub_one, decide_eq_true ha]
theorem ordRun_cnt (P : List Nat) : ∀ (o : List Int) (seen s : Nat), seen < 2 ^ P.length → ordRun P seen o = some s → s < 2 ^ P.length ∧ cnt s P.length = cnt seen P.length + o.length := by
  intro o
  induction o with
  | nil => intro seen s hs h; simp only [ordRun, Option.some.injEq] at h; subst h; exact ⟨hs, rfl⟩
  | cons e es ih =>
    intro seen s hs h
    simp only [ordRun] at h
    by_cases hok : ordOk P seen e = true
    · rw [if_pos hok] at h
      unfold ordOk at hok
      simp only [Bool.and_eq_true, decide_eq_true_eq, Bool.not_eq_true'] at hok
      have h2 : 2 ^ e.toNat < 2 ^ P.length := Nat.pow_lt_pow_right (by decide) (by omega)
      obtain ⟨h3, h4⟩ := ih _ s (Nat.or_lt_two_pow hs h2) h
      refine ⟨h3, ?_⟩
      rw [h4, cnt_or hok.2.1, if_pos (by omega), List.length_cons]
      omega
    · rw [if_neg hok] at h; cases h
/-- What both ask. -/
def ordB (P : List Nat) (o : List Int) : Bool := ordRun P 0 o == some (2 ^ P.length - 1)
theorem isOrder_ev {l : List Int} {P : List Nat} (hP : Good l P) (o : List Int) (ho : o.length ≤ 1048576) : Ev (fun k => impl_isOrder.f k l o) (ordB P o) := by
  have hn := hP.n10
  have hn1 := hP.n1
  have hl := hP.length
  have H : ∀ (i : Nat) (st : Nat), i ≤ o.length → st < 2 ^ P.length → Ev (fun k => impl_isOrder.l0 k (st : Int) o (o.length : Int) (i : Int) l) (ordRun P st (o.drop i) == some (2 ^ P.length - 1)) := by
    refine ev_down (fun k (st : Nat) i => impl_isOrder.l0 k (st : Int) o (o.length : Int) i l) (fun i st => (ordRun P st (o.drop i) == some (2 ^ P.length - 1))) o.length (fun _ st => st < 2 ^ P.length) ?_ ?_
    · intro st _
      rw [List.drop_length]
      have hall := all_is l (by omega)
      refine ev_step (Ev.now _) (fun k => ?_)
      simp only [impl_isOrder.l0, ordRun]
      rw [if_neg (by omega), hall, Option.bind_some]
      congr 1
      rw [show l.length = P.length by omega]
      generalize 2 ^ P.length - 1 = z
      rw [Bool.eq_iff_iff]
      simp
      omega
    · intro i st hi hst ih
      obtain ⟨e, he⟩ : ∃ e, o.getD i 0 = e := ⟨_, rfl⟩
      have c1 : (i : Int) < (o.length : Int) := by omega
      have c2 : 0 ≤ (i : Int) := by omega
      have hw : wrap64 ((i : Int) + 1) = (i : Int) + 1 := wrap64_id (by omega) (by omega)
      have hw2 : wrap64 ((l.length : Int) - 1) = (P.length : Int) - 1 := by rw [hl]; exact wrap64_id (by omega) (by omega)
      rw [drop_step o 0 hi, he]
      simp only [ordRun]
      by_cases hr : 0 ≤ e ∧ e ≤ (P.length : Int) - 1
      · obtain ⟨j, rfl⟩ : ∃ j : Nat, e = (j : Int) := ⟨e.toNat, by omega⟩
        have hjn : j < P.length := by omega
        have c4 : 0 ≤ (j : Int) := by omega
        have c5 : (j : Int) < (l.length : Int) := by omega
        have hh := has_is (s := st) (e := j) (p63 hst (by omega)) (by omega)
        have ha := andNot_nat (hP.lt63 j) (p63 hst (by omega))
        have h2 : 2 ^ j < 2 ^ P.length := Nat.pow_lt_pow_right (by decide) hjn
        have hor := or_nat (p63 hst (by omega)) (p63 h2 (by omega))
        have hsh := shl_one (i := j) (by omega)
        have hrd : rd l (j : Int) = ((P.getD j 0 : Nat) : Int) := by rw [hP.eq, rd_cast]
        cases hb : st.testBit j with
        | true =>
          have hok : ordOk P st (j : Int) = false := by unfold ordOk; rw [Int.toNat_natCast, hb]; simp
          rw [hok, if_neg (by decide)]
          exact ev_step (Ev.now _) (fun k => by simp only [impl_isOrder.l0, impl_Poset_n.f]; rw [if_pos c1, if_pos c2, if_pos c1, Option.bind_some, rd_nat, he, hw2, within_is, decide_eq_true hr, Option.bind_some, if_pos rfl, hh, hb, Option.bind_some, if_pos rfl]; rfl)
        | false =>
          by_cases h0 : sd (P.getD j 0) st = 0
          · have hok : ordOk P st (j : Int) = true := by unfold ordOk; rw [Int.toNat_natCast, hb, decide_eq_true hr, decide_eq_true h0]; rfl
            rw [hok, if_pos rfl, Int.toNat_natCast]
            exact ev_step (ih _ (Nat.or_lt_two_pow hst h2)) (fun k => by simp only [impl_isOrder.l0, impl_Poset_n.f]; rw [if_pos c1, if_pos c2, if_pos c1, Option.bind_some, rd_nat, he, hw2, within_is, decide_eq_true hr, Option.bind_some, if_pos rfl, hh, hb, Option.bind_some, if_neg (by decide), if_pos c4, if_pos c5, hrd, ha, if_pos (sd_zero_nat.2 h0), hsh, hor, hw])
          · have hok : ordOk P st (j : Int) = false := by unfold ordOk; rw [Int.toNat_natCast, decide_eq_false h0]; simp
            rw [hok, if_neg (by decide)]
            exact ev_step (Ev.now _) (fun k => by simp only [impl_isOrder.l0, impl_Poset_n.f]; rw [if_pos c1, if_pos c2, if_pos c1, Option.bind_some, rd_nat, he, hw2, within_is, decide_eq_true hr, Option.bind_some, if_pos rfl, hh, hb, Option.bind_some, if_neg (by decide), if_pos c4, if_pos c5, hrd, ha, if_neg (fun h => h0 (sd_zero_nat.1 h))]; rfl)
      · have hok : ordOk P st e = false := by unfold ordOk; rw [decide_eq_false hr, Bool.false_and]
        rw [hok, if_neg (by decide)]
        exact ev_step (Ev.now _) (fun k => by simp only [impl_isOrder.l0, impl_Poset_n.f]; rw [if_pos c1, if_pos c2, if_pos c1, Option.bind_some, rd_nat, he, hw2, within_is, decide_eq_false hr, Option.bind_some, if_neg (by decide)]; rfl)
  unfold impl_isOrder.f ordB
  have := H 0 0 (by omega) (Nat.two_pow_pos _)
  rwa [List.drop_zero] at this
/-- A list that runs through is as long as it has met elements: so it has all of them just if it is as long as there are. -/
theorem ordB_run {P : List Nat} {o : List Int} : ordB P o = (decide (o.length = P.length) && (ordRun P 0 o).isSome) := by
  unfold ordB
  cases h : ordRun P 0 o with
  | none => simp
  | some s =>
    obtain ⟨h1, h2⟩ := ordRun_cnt P o 0 s (Nat.two_pow_pos _) h
    rw [cnt_zero, Nat.zero_add] at h2
    rw [Bool.eq_iff_iff]
    have := cnt_full h1
    simp only [beq_iff_eq, Option.some.injEq, Option.isSome_some, Bool.and_true, decide_eq_true_eq]
    rw [← this, h2]
theorem ordRun_range {P : List Nat} : ∀ (o : List Int) (st : Nat), (ordRun P st o).isSome = true → rangeB ((P.length : Int) - 1) o = true := by
  intro o
  induction o with
  | nil => intro _ _; rfl
  | cons e es ih =>
    intro st h
    simp only [ordRun] at h
    by_cases hok : ordOk P st e = true
    · rw [if_pos hok] at h
      have h2 := ih _ h
      unfold rangeB at h2 ⊢
      unfold ordOk at hok
      rw [Bool.and_eq_true] at hok
      rw [List.all_cons, hok.1, h2]
      rfl
    · rw [if_neg hok] at h; cases h
end Go.Proofs.Ytinnobjcphfejaa.B
