/- Promotion: the word of a rectangle, and an ideal toggled along it. -/
import Derived.Test.YtodbkoipebnheaaSrect
import Derived.Test.YtodbkoipebnheaaStog
import Derived.Test.YtodbkoipebnheaaMwrd
import Derived.Test.YtodbkoipebnheaaB17
import Derived.Test.YtodbkoipebnheaaB18
namespace Go.Proofs.Ytodbkoipebnheaa.B
open Go.RowKit Go.Proofs.Ytodbkoipebnheaa.M Go.Proofs.YtodbkoipebnheaaW.PrintWords Go.Proofs.YtodbkoipebnheaaW.PrintLast Go.Proofs.YtodbkoipebnheaaW.PrintMore
attribute [local irreducible] Go.bits shl shr sd
def pcell (m n t r : Nat) : List Int := if 0 ≤ (r : Int) + (1 - (m : Int) + (t : Int)) ∧ (r : Int) + (1 - (m : Int) + (t : Int)) ≤ (n : Int) - 1 then [(n : Int) * (r : Int) + ((r : Int) + (1 - (m : Int) + (t : Int)))] else []
def prow (m n t r : Nat) : List Int := (List.range' r (m - r)).flatMap (pcell m n t)
def pword (m n t : Nat) : List Int := (List.range' t (m + n - 1 - t)).flatMap (fun t => prow m n t 0)
theorem prow_end (m n t : Nat) : prow m n t m = [] := by unfold prow; simp
theorem prow_step {m n t r : Nat} (h : r < m) : prow m n t r = pcell m n t r ++ prow m n t (r + 1) := by
  unfold prow
  obtain ⟨d, hd⟩ : ∃ d, m - r = d + 1 := ⟨m - r - 1, by omega⟩
  rw [hd, show m - (r + 1) = d by omega, List.range'_succ, List.flatMap_cons]
theorem pword_end (m n : Nat) : pword m n (m + n - 1) = [] := by unfold pword; simp
theorem pword_step {m n t : Nat} (h : t < m + n - 1) : pword m n t = prow m n t 0 ++ pword m n (t + 1) := by
  unfold pword
  obtain ⟨d, hd⟩ : ∃ d, m + n - 1 - t = d + 1 := ⟨m + n - 1 - t - 1, by omega⟩
  rw [hd, show m + n - 1 - (t + 1) = d by omega, List.range'_succ, List.flatMap_cons]
theorem cell_in {m n t r : Nat} (h1 : r < m) (hc : 0 ≤ (r : Int) + (1 - (m : Int) + (t : Int)) ∧ (r : Int) + (1 - (m : Int) + (t : Int)) ≤ (n : Int) - 1) : ∃ e : Nat, (n : Int) * (r : Int) + ((r : Int) + (1 - (m : Int) + (t : Int))) = (e : Int) ∧ e < m * n := by
  have k : n * (r + 1) ≤ n * m := Nat.mul_le_mul_left n (by omega)
  rw [Nat.mul_add, Nat.mul_one, Nat.mul_comm n m] at k
  rw [← Int.natCast_mul]
  exact ⟨n * r + ((r : Int) + (1 - (m : Int) + (t : Int))).toNat, by omega, by omega⟩
theorem pword_range {m n : Nat} : ∀ e ∈ pword m n 0, 0 ≤ e ∧ e < ((m * n : Nat) : Int) := by
  intro e he
  unfold pword at he
  rw [List.mem_flatMap] at he
  obtain ⟨t, _, he⟩ := he
  unfold prow at he
  rw [List.mem_flatMap] at he
  obtain ⟨r, hr, he⟩ := he
  rw [List.mem_range'_1] at hr
  unfold pcell at he
  split at he
  · rename_i hc
    rw [List.mem_singleton] at he
    obtain ⟨x, h1, h2⟩ := cell_in (by omega) hc
    omega
  · cases he
theorem pword_length {m n : Nat} (hm : m ≤ 10) (hn : n ≤ 10) : (pword m n 0).length ≤ 1048576 := by
  have hc : ∀ t r, (pcell m n t r).length ≤ 1 := by intro t r; unfold pcell; split <;> simp
  have hr : ∀ t (l : List Nat), (l.flatMap (pcell m n t)).length ≤ l.length := by
    intro t l
    induction l with
    | nil => simp
    | cons x xs ih => rw [List.flatMap_cons, List.length_append, List.length_cons]; have := hc t x; omega
  have hw : ∀ (l : List Nat), (l.flatMap (fun t => prow m n t 0)).length ≤ m * l.length := by
    intro l
    induction l with
    | nil => simp
    | cons x xs ih =>
      rw [List.flatMap_cons, List.length_append, List.length_cons, Nat.mul_add, Nat.mul_one]
      have := hr x (List.range' 0 (m - 0))
      rw [List.length_range'] at this
      unfold prow
      unfold prow at ih
      omega
  have := hw (List.range' 0 (m + n - 1 - 0))
  rw [List.length_range'] at this
  unfold pword
  have h2 : m * (m + n - 1 - 0) ≤ 10 * 20 := Nat.mul_le_mul hm (by omega)
  omega
section
variable {m n : Nat} (h1 : 1 ≤ m) (h2 : m ≤ 10) (h3 : 1 ≤ n) (h4 : n ≤ 10) (h5 : m * n ≤ 10)
include h1 h2 h3 h4 h5
set_option linter.unusedSectionVars false
theorem nums {t r : Nat} (ht : t < m + n - 1) (hr : r < m) : wrap64 ((r : Int) + (1 - (m : Int) + (t : Int))) = (r : Int) + (1 - (m : Int) + (t : Int)) ∧ wrap64 ((n : Int) - 1) = (n : Int) - 1 ∧ wrap64 ((r : Int) + 1) = (r : Int) + 1 ∧ wrap64 (wrap64 ((n : Int) * (r : Int)) + ((r : Int) + (1 - (m : Int) + (t : Int)))) = (n : Int) * (r : Int) + ((r : Int) + (1 - (m : Int) + (t : Int))) := by
  have hm := mul_bounds (a := (n : Int)) (b := (r : Int)) (m := 10) (n := 10) (by omega) (by omega) (by omega) (by omega)
  refine ⟨wrap64_id (by omega) (by omega), wrap64_id (by omega) (by omega), wrap64_id (by omega) (by omega), ?_⟩
  rw [wrap64_id (x := (n : Int) * (r : Int)) (by omega) (by omega)]
  exact wrap64_id (by omega) (by omega)
theorem promotion_l1 {t : Nat} (ht : t < m + n - 1) (fin : List Int → List Int) (hnext : ∀ w : List Int, w.length ≤ 10 * (t + 1) → Ev (fun k => impl_promotion.l0 k (m : Int) (n : Int) w (1 - (m : Int) + ((t : Int) + 1))) (fin w)) :
    ∀ (r : Nat) (w : List Int), r ≤ m → w.length ≤ 10 * t + r → Ev (fun k => impl_promotion.l1 k (m : Int) (n : Int) w (1 - (m : Int) + (t : Int)) (m : Int) (r : Int)) (fin (w ++ prow m n t r)) := by
  refine ev_down (fun k (w : List Int) r => impl_promotion.l1 k (m : Int) (n : Int) w (1 - (m : Int) + (t : Int)) (m : Int) r) (fun r w => fin (w ++ prow m n t r)) m (fun r w => w.length ≤ 10 * t + r) ?_ ?_
  · intro w hw
    rw [prow_end, List.append_nil]
    have hw2 : wrap64 (1 - (m : Int) + (t : Int) + 1) = 1 - (m : Int) + ((t : Int) + 1) := by rw [wrap64_id (by omega) (by omega)]; omega
    exact ev_step (hnext w (by omega)) (fun k => by simp only [impl_promotion.l1]; rw [if_neg (by omega), hw2])
  · intro r w hr hw ih
    have c1 : (r : Int) < (m : Int) := by omega
    have c2 : w.length < 17592186044416 := by omega
    obtain ⟨e1, e2, e3, e4⟩ := nums h1 h2 h3 h4 h5 ht hr
    rw [prow_step hr]
    unfold pcell
    by_cases hc : 0 ≤ (r : Int) + (1 - (m : Int) + (t : Int)) ∧ (r : Int) + (1 - (m : Int) + (t : Int)) ≤ (n : Int) - 1
    · rw [if_pos hc]
      have := ih (w ++ [(n : Int) * (r : Int) + ((r : Int) + (1 - (m : Int) + (t : Int)))]) (by rw [List.length_append, List.length_singleton]; omega)
      rw [List.append_assoc] at this
      exact ev_step this (fun k => by simp only [impl_promotion.l1]; rw [if_pos c1, e1, e2, within_is, decide_eq_true hc, Option.bind_some, if_pos rfl, if_pos c2, e4, e3])
    · rw [if_neg hc, List.nil_append]
      exact ev_step (ih w (by omega)) (fun k => by simp only [impl_promotion.l1]; rw [if_pos c1, e1, e2, within_is, decide_eq_false hc, Option.bind_some, if_neg (by decide), e3])
theorem promotion_ev : Ev (fun k => impl_promotion.f k (m : Int) (n : Int)) (pword m n 0) := by
  have H : ∀ (t : Nat) (w : List Int), t ≤ m + n - 1 → w.length ≤ 10 * t → Ev (fun k => impl_promotion.l0 k (m : Int) (n : Int) w (1 - (m : Int) + (t : Int))) (w ++ pword m n t) := by
    refine ev_down (fun k (w : List Int) t => impl_promotion.l0 k (m : Int) (n : Int) w (1 - (m : Int) + t)) (fun t w => w ++ pword m n t) (m + n - 1) (fun t w => w.length ≤ 10 * t) ?_ ?_
    · intro w _
      rw [pword_end, List.append_nil]
      exact ev_step (Ev.now _) (fun k => by simp only [impl_promotion.l0]; rw [if_neg (by omega)])
    · intro t w ht hw ih
      have c1 : 1 - (m : Int) + (t : Int) < (n : Int) := by omega
      rw [pword_step ht, ← List.append_assoc]
      have := promotion_l1 h1 h2 h3 h4 h5 ht (fun w => w ++ pword m n (t + 1)) (fun w hw => ih w (by omega)) 0 w (by omega) (by omega)
      exact ev_step this (fun k => by simp only [impl_promotion.l0]; rw [if_pos c1]; rfl)
  unfold impl_promotion.f
  have := H 0 [] (by omega) (by simp)
  rw [List.nil_append] at this
  exact ev_as this (fun k => by rw [wrap64_id (by omega) (by omega)]; simp)
theorem tgPromote_l1 {l : List Int} {P : List Nat} (hP : Good l P) (hlen : P.length = m * n) {t : Nat} (ht : t < m + n - 1) (rest : List Int) (hnext : ∀ s : Nat, s < 2 ^ P.length → Ev (fun k => spec_tgPromote.l0 k (m : Int) (n : Int) (s : Int) (1 - (m : Int) + ((t : Int) + 1)) l) ((togs P s rest : Nat) : Int)) :
    ∀ (r : Nat) (s : Nat), r ≤ m → s < 2 ^ P.length → Ev (fun k => spec_tgPromote.l1 k (m : Int) (n : Int) (s : Int) (1 - (m : Int) + (t : Int)) (r : Int) l) ((togs P s (prow m n t r ++ rest) : Nat) : Int) := by
  refine ev_down (fun k (s : Nat) r => spec_tgPromote.l1 k (m : Int) (n : Int) (s : Int) (1 - (m : Int) + (t : Int)) r l) (fun r s => ((togs P s (prow m n t r ++ rest) : Nat) : Int)) m (fun _ s => s < 2 ^ P.length) ?_ ?_
  · intro s hs
    rw [prow_end, List.nil_append]
    have hw2 : wrap64 (1 - (m : Int) + (t : Int) + 1) = 1 - (m : Int) + ((t : Int) + 1) := by rw [wrap64_id (by omega) (by omega)]; omega
    exact ev_step (hnext s hs) (fun k => by simp only [spec_tgPromote.l1]; rw [if_neg (by omega), hw2])
  · intro r s hr hs ih
    have c1 : (r : Int) < (m : Int) := by omega
    obtain ⟨e1, e2, e3, e4⟩ := nums h1 h2 h3 h4 h5 ht hr
    rw [prow_step hr]
    unfold pcell
    by_cases hc : 0 ≤ (r : Int) + (1 - (m : Int) + (t : Int)) ∧ (r : Int) + (1 - (m : Int) + (t : Int)) ≤ (n : Int) - 1
    · rw [if_pos hc]
      obtain ⟨e, he, hlt⟩ := cell_in hr hc
      rw [he] at e4 ⊢
      refine ev_stepb (tgAt_ev hP hs (show e < P.length by omega)) ?_ (fun k => by simp only [spec_tgPromote.l1]; rw [if_pos c1, e1, e2, l1In_is, decide_eq_true hc, Option.bind_some, if_pos rfl, e4])
      exact ev_as (ih _ (tog_lt hs (by omega))) (fun k => by rw [e3]; rfl)
    · rw [if_neg hc, List.nil_append]
      exact ev_step (ih s hs) (fun k => by simp only [spec_tgPromote.l1]; rw [if_pos c1, e1, e2, l1In_is, decide_eq_false hc, Option.bind_some, if_neg (by decide), e3])
theorem tgPromote_ev {l : List Int} {P : List Nat} (hP : Good l P) (hlen : P.length = m * n) (hr : Ev (fun k => spec_poRectangle.f k (m : Int) (n : Int)) l) {s : Nat} (hs : s < 2 ^ P.length) : Ev (fun k => spec_tgPromote.f k (m : Int) (n : Int) (s : Int)) ((togs P s (pword m n 0) : Nat) : Int) := by
  have H : ∀ (t : Nat) (s : Nat), t ≤ m + n - 1 → s < 2 ^ P.length → Ev (fun k => spec_tgPromote.l0 k (m : Int) (n : Int) (s : Int) (1 - (m : Int) + (t : Int)) l) ((togs P s (pword m n t) : Nat) : Int) := by
    refine ev_down (fun k (s : Nat) t => spec_tgPromote.l0 k (m : Int) (n : Int) (s : Int) (1 - (m : Int) + t) l) (fun t s => ((togs P s (pword m n t) : Nat) : Int)) (m + n - 1) (fun _ s => s < 2 ^ P.length) ?_ ?_
    · intro s _
      rw [pword_end]
      exact ev_step (Ev.now _) (fun k => by simp only [spec_tgPromote.l0]; rw [if_neg (by omega)]; rfl)
    · intro t s ht hs ih
      have c1 : 1 - (m : Int) + (t : Int) < (n : Int) := by omega
      rw [pword_step ht]
      have := tgPromote_l1 h1 h2 h3 h4 h5 hP hlen ht (pword m n (t + 1)) (fun s hs => ih s hs) 0 s (by omega) hs
      exact ev_step this (fun k => by simp only [spec_tgPromote.l0]; rw [if_pos c1]; rfl)
  unfold spec_tgPromote.f
  refine Ev.bind hr ?_
  exact ev_as (H 0 s (by omega) hs) (fun k => by rw [wrap64_id (by omega) (by omega)]; simp)
end
end Go.Proofs.Ytodbkoipebnheaa.B
