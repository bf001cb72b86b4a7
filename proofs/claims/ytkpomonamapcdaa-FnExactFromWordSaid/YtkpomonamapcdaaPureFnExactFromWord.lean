/- The plain law of FromWord: the two printed functions answer alike. -/
import Derived.Test.YtkpomonamapcdaaG
import Derived.Test.YtkpomonamapcdaaB12
import Derived.Test.YtkpomonamapcdaaB20
import Derived.Test.YtkpomonamapcdaaB9
namespace Go.Proofs.Ytkpomonamapcdaa.B
open Go.RowKit Go.Proofs.Ytkpomonamapcdaa.M Go.Proofs.YtkpomonamapcdaaW.PrintWords Go.Proofs.YtkpomonamapcdaaW.PrintLast Go.Proofs.YtkpomonamapcdaaW.PrintMore
attribute [local irreducible] Go.bits shl shr sd bt
def sides9 (a b : Int) : Bool := decide (1 ≤ a ∧ 1 ≤ b ∧ a ≤ 9 ∧ b ≤ 9 ∧ a * b ≤ 9)
theorem mul_bounds {a b : Int} {m n : Int} (h1 : 0 ≤ a) (h2 : a ≤ m) (h3 : 0 ≤ b) (h4 : b ≤ n) : 0 ≤ a * b ∧ a * b ≤ m * n :=
  ⟨Int.mul_nonneg h1 h3, Int.mul_le_mul h2 h4 h3 (by omega)⟩
theorem obSides_is (a b : Int) : spec_obSides.f a b = some (sides9 a b) := by
  unfold spec_obSides.f spec_poSides.f sides9
  rw [l1In_is, l1In_is]
  by_cases ha : 1 ≤ a ∧ a ≤ 10
  · rw [decide_eq_true ha, Option.bind_some, if_pos rfl]
    by_cases hb : 1 ≤ b ∧ b ≤ 10
    · rw [decide_eq_true hb, Option.bind_some, if_pos rfl, Option.bind_some]
      have hm := mul_bounds (a := a) (b := b) (m := 10) (n := 10) (by omega) ha.2 (by omega) hb.2
      have h9 : a * b ≤ 9 → a ≤ 9 ∧ b ≤ 9 := fun h => by
        have k1 : a * 1 ≤ a * b := Int.mul_le_mul_of_nonneg_left hb.1 (by omega)
        have k2 : 1 * b ≤ a * b := Int.mul_le_mul_of_nonneg_right ha.1 (by omega)
        omega
      rw [wrap64_id (by omega) (by omega)]
      by_cases h : a * b ≤ 10
      · rw [if_pos (decide_eq_true h)]
        congr 1
        rw [decide_eq_decide]
        constructor
        · intro h'; have := h9 h'; omega
        · omega
      · rw [decide_eq_false h, if_neg (by decide)]
        congr 1
        symm
        rw [decide_eq_false_iff_not]
        omega
    · rw [decide_eq_false hb, Option.bind_some, if_neg (by decide), Option.bind_some, if_neg (by decide), decide_eq_false (by omega)]
  · rw [decide_eq_false ha, Option.bind_some, if_neg (by decide), Option.bind_some, if_neg (by decide), decide_eq_false (by omega)]
theorem areSides_is (a b : Int) : impl_areSides.f a b 9 = some (sides9 a b) := by
  unfold impl_areSides.f sides9
  rw [within_is, within_is]
  by_cases ha : 1 ≤ a ∧ a ≤ 9
  · rw [decide_eq_true ha, Option.bind_some, if_pos rfl]
    by_cases hb : 1 ≤ b ∧ b ≤ 9
    · rw [decide_eq_true hb, Option.bind_some, if_pos rfl]
      have hm := mul_bounds (a := a) (b := b) (m := 9) (n := 9) (by omega) ha.2 (by omega) hb.2
      rw [wrap64_id (by omega) (by omega)]
      congr 1
      rw [decide_eq_decide]
      omega
    · rw [decide_eq_false hb, Option.bind_some, if_neg (by decide), decide_eq_false (by omega)]
  · rw [decide_eq_false ha, Option.bind_some, if_neg (by decide), decide_eq_false (by omega)]
section
variable (b : Int) (w : ByteArray)
/-- Once too far to the right, the program says no. -/
theorem far_right (hb : 1 ≤ b ∧ b ≤ 9) (hw : w.size ≤ 1048576) : ∀ (d i : Nat) (s r right : Int), w.size - i = d → i ≤ w.size → b < right → right ≤ 1048576 + (i : Int) → -1 ≤ r → r ≤ 9 → Ev (fun k => impl_FromWord.l0 k b w s r right (w.size : Int) (i : Int)) (0, false) := by
  intro d
  induction d with
  | zero =>
    intro i s r right hd hi hr hr2 h1 h2
    refine ev_step (Ev.now _) (fun k => ?_)
    simp only [impl_FromWord.l0]
    rw [if_neg (by omega)]
    by_cases h : r = -1
    · rw [if_pos h, if_neg (by omega)]
    · rw [if_neg h]
  | succ d ih =>
    intro i s r right hd hi hr hr2 h1 h2
    have c1 : (i : Int) < (w.size : Int) := by omega
    have c2 : 0 ≤ (i : Int) := by omega
    have hw1 : wrap64 ((i : Int) + 1) = ((i + 1 : Nat) : Int) := by rw [wrap64_id (by omega) (by omega)]; omega
    have hw2 : wrap64 (right + 1) = right + 1 := wrap64_id (by omega) (by omega)
    by_cases hR : bt w (i : Int) = 82
    · refine ev_step (ih (i + 1) s r (right + 1) (by omega) (by omega) (by omega) (by omega) h1 h2) (fun k => ?_)
      simp only [impl_FromWord.l0]
      rw [if_pos c1, if_pos c2, if_pos c1, if_pos hR, hw1, hw2]
    · refine ev_step (Ev.now _) (fun k => ?_)
      simp only [impl_FromWord.l0]
      rw [if_pos c1, if_pos c2, if_pos c1, if_neg hR]
      by_cases hU : bt w (i : Int) = 85
      · rw [if_pos hU]
        by_cases h0 : r ≥ 0
        · rw [if_pos h0, if_neg (by omega)]
        · rw [if_neg h0]
      · rw [if_neg hU]
theorem words_alike (a : Int) (hb : 1 ≤ b ∧ b ≤ 9) (ha : 1 ≤ a ∧ a ≤ 9) (hw : (w.size : Int) = a + b) : ∀ (d i : Nat) (s r right : Int), w.size - i = d → i ≤ w.size → 0 ≤ right → right ≤ b → -1 ≤ r → r ≤ a - 1 → right + (a - 1 - r) = (i : Int) →
    ∃ res, Ev (fun k => spec_FromWord.l0 k b w s right r (i : Int)) res ∧ Ev (fun k => impl_FromWord.l0 k b w s r right (w.size : Int) (i : Int)) res := by
  intro d
  induction d with
  | zero =>
    intro i s r right hd hi h0 h1 h2 h3 h4
    refine ⟨(s, true), ev_step (Ev.now _) (fun k => ?_), ev_step (Ev.now _) (fun k => ?_)⟩
    · simp only [spec_FromWord.l0]
      rw [if_neg (by omega)]
    · simp only [impl_FromWord.l0]
      rw [if_neg (by omega), if_pos (by omega), if_pos (by omega)]
  | succ d ih =>
    intro i s r right hd hi h0 h1 h2 h3 h4
    have c1 : (i : Int) < (w.size : Int) := by omega
    have c2 : 0 ≤ (i : Int) := by omega
    have hw1 : wrap64 ((i : Int) + 1) = ((i + 1 : Nat) : Int) := by rw [wrap64_id (by omega) (by omega)]; omega
    have hw2 : wrap64 (right + 1) = right + 1 := wrap64_id (by omega) (by omega)
    have hw3 : wrap64 (r - 1) = r - 1 := wrap64_id (by omega) (by omega)
    by_cases hR : bt w (i : Int) = 82
    · by_cases hlt : right < b
      · obtain ⟨res, e1, e2⟩ := ih (i + 1) s r (right + 1) (by omega) (by omega) (by omega) (by omega) h2 h3 (by omega)
        refine ⟨res, ev_step (ev_step e1 (g := fun k => spec_FromWord.j2 k b w s right r (i : Int) true) (fun k => ?_)) (fun k => ?_), ev_step e2 (fun k => ?_)⟩
        · simp only [spec_FromWord.j2]
          rw [if_pos trivial, hw1, hw2]
        · simp only [spec_FromWord.l0]
          rw [if_pos c1, if_pos c2, if_pos hR, decide_eq_true hlt]
        · simp only [impl_FromWord.l0]
          rw [if_pos c1, if_pos c2, if_pos c1, if_pos hR, hw1, hw2]
      · refine ⟨(0, false), ev_step (ev_step (Ev.now _) (g := fun k => spec_FromWord.j2 k b w s right r (i : Int) false) (fun k => ?_)) (fun k => ?_), ev_step (far_right b w hb (by omega) d (i + 1) s r (right + 1) (by omega) (by omega) (by omega) (by omega) h2 (by omega)) (fun k => ?_)⟩
        · simp only [spec_FromWord.j2]
          rw [if_neg (by decide), if_pos c2, if_pos c1, if_neg (by omega)]
        · simp only [spec_FromWord.l0]
          rw [if_pos c1, if_pos c2, if_pos hR, decide_eq_false hlt]
        · simp only [impl_FromWord.l0]
          rw [if_pos c1, if_pos c2, if_pos c1, if_pos hR, hw1, hw2]
    · by_cases hU : bt w (i : Int) = 85
      · by_cases hr0 : r ≥ 0
        · have hm := mul_bounds (a := b) (b := r) (m := 9) (n := 9) (by omega) hb.2 hr0 (by omega)
          have hw4 : 0 ≤ wrap64 (b * r) := by rw [wrap64_id (by omega) (by omega)]; exact hm.1
          obtain ⟨res, e1, e2⟩ := ih (i + 1) (Go.bits .or .i64 s (shl .i64 (wrap64 ((shl .i64 1 right) - 1)) (wrap64 (b * r)))) (r - 1) right (by omega) (by omega) h0 h1 (by omega) (by omega) (by omega)
          refine ⟨res, ev_step (ev_step e1 (g := fun k => spec_FromWord.j2 k b w s right r (i : Int) false) (fun k => ?_)) (fun k => ?_), ev_step e2 (fun k => ?_)⟩
          · simp only [spec_FromWord.j2]
            rw [if_neg (by decide), if_pos c2, if_pos c1, if_pos hU, if_pos hr0, if_pos h0, if_pos hw4, hw1, hw3]
          · simp only [spec_FromWord.l0]
            rw [if_pos c1, if_pos c2, if_neg hR]
          · simp only [impl_FromWord.l0]
            rw [if_pos c1, if_pos c2, if_pos c1, if_neg hR, if_pos hU, if_pos hr0, if_pos h1, if_pos h0, if_pos hw4, hw1, hw3]
        · refine ⟨(0, false), ev_step (ev_step (Ev.now _) (g := fun k => spec_FromWord.j2 k b w s right r (i : Int) false) (fun k => ?_)) (fun k => ?_), ev_step (Ev.now _) (fun k => ?_)⟩
          · simp only [spec_FromWord.j2]
            rw [if_neg (by decide), if_pos c2, if_pos c1, if_pos hU, if_neg hr0]
          · simp only [spec_FromWord.l0]
            rw [if_pos c1, if_pos c2, if_neg hR]
          · simp only [impl_FromWord.l0]
            rw [if_pos c1, if_pos c2, if_pos c1, if_neg hR, if_pos hU, if_neg hr0]
      · refine ⟨(0, false), ev_step (ev_step (Ev.now _) (g := fun k => spec_FromWord.j2 k b w s right r (i : Int) false) (fun k => ?_)) (fun k => ?_), ev_step (Ev.now _) (fun k => ?_)⟩
        · simp only [spec_FromWord.j2]
          rw [if_neg (by decide), if_pos c2, if_pos c1, if_neg hU]
        · simp only [spec_FromWord.l0]
          rw [if_pos c1, if_pos c2, if_neg hR]
        · simp only [impl_FromWord.l0]
          rw [if_pos c1, if_pos c2, if_pos c1, if_neg hR, if_neg hU]
end
theorem both_FromWord (a b : Int) (w : ByteArray) : ∃ r, Ev (fun k => spec_FromWord.f k a b w) r ∧ Ev (fun k => impl_FromWord.f k a b w) r := by
  unfold spec_FromWord.f impl_FromWord.f
  rw [obSides_is, areSides_is]
  simp only [Option.bind_some]
  cases hs : sides9 a b with
  | false => exact ⟨(0, false), ev_as (ev_step (g := fun k => spec_FromWord.j0 k a b w true) (Ev.now _) (fun k => by simp only [spec_FromWord.j0]; rw [if_pos trivial])) (fun k => by rw [if_neg (by decide)]), ev_as (ev_step (g := fun k => impl_FromWord.j0 k a b w true) (Ev.now _) (fun k => by simp only [impl_FromWord.j0]; rw [if_pos trivial])) (fun k => by rw [if_neg (by decide)])⟩
  | true =>
    unfold sides9 at hs
    rw [decide_eq_true_eq] at hs
    rw [wrap64_id (by omega) (by omega)]
    by_cases hw : (w.size : Int) = a + b
    · have hne : ((w.size : Int) != a + b) = false := by rw [hw]; simp
      rw [hne]
      obtain ⟨res, e1, e2⟩ := words_alike b w a ⟨hs.2.1, hs.2.2.2.1⟩ ⟨hs.1, hs.2.2.1⟩ hw w.size 0 0 (a - 1) 0 (by omega) (by omega) (by omega) (by omega) (by omega) (by omega) (by omega)
      have hw3 : wrap64 (a - 1) = a - 1 := wrap64_id (by omega) (by omega)
      exact ⟨res, ev_as (ev_step (g := fun k => spec_FromWord.j0 k a b w false) e1 (fun k => by simp only [spec_FromWord.j0]; rw [if_neg (by decide), hw3]; rfl)) (fun k => by rw [if_pos rfl]), ev_as (ev_step (g := fun k => impl_FromWord.j0 k a b w false) e2 (fun k => by simp only [impl_FromWord.j0]; rw [if_neg (by decide), hw3]; rfl)) (fun k => by rw [if_pos rfl])⟩
    · have hne : ((w.size : Int) != a + b) = true := by simpa using hw
      rw [hne]
      exact ⟨(0, false), ev_as (ev_step (g := fun k => spec_FromWord.j0 k a b w true) (Ev.now _) (fun k => by simp only [spec_FromWord.j0]; rw [if_pos trivial])) (fun k => by rw [if_pos rfl]), ev_as (ev_step (g := fun k => impl_FromWord.j0 k a b w true) (Ev.now _) (fun k => by simp only [impl_FromWord.j0]; rw [if_pos trivial])) (fun k => by rw [if_pos rfl])⟩
theorem FnExactFromWord (a b : Int) (w : ByteArray) (_ : (Lit.int .i64 a).wf = true) (_ : (Lit.int .i64 b).wf = true) (_ : w.size ≤ 140737488351232) : ∃ k, laws_FnExactFromWord.f k a b w = some true := by
  apply Ev.rounds
  unfold laws_FnExactFromWord.f
  by_cases hw : (w.size : Int) > 1048576
  · exact ev_as (Ev.now _) (fun k => by rw [if_pos hw])
  simp only [if_neg hw]
  obtain ⟨r, h1, h2⟩ := both_FromWord a b w
  refine Ev.bind h1 ?_
  refine Ev.bind h2 ?_
  exact ev_as (Ev.now _) (fun k => by rw [if_pos rfl, bne_self_eq_false, if_neg (by decide)])
end Go.Proofs.Ytkpomonamapcdaa.B
