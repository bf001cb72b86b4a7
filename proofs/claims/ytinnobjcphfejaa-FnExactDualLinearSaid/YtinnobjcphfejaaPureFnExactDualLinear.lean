/- The plain law of DualLinear: the two printed functions answer alike. -/
import Derived.Test.YtinnobjcphfejaaSbackw
import Derived.Test.YtinnobjcphfejaaSli
import Derived.Test.YtinnobjcphfejaaLm
import Derived.Test.YtinnobjcphfejaaB15
import Derived.Test.YtinnobjcphfejaaB16
namespace Go.Proofs.Ytinnobjcphfejaa.B
open Go.RowKit Go.Proofs.Ytinnobjcphfejaa.M Go.Proofs.YtinnobjcphfejaaW.PrintWords Go.Proofs.YtinnobjcphfejaaW.PrintLast Go.Proofs.YtinnobjcphfejaaW.PrintMore
attribute [local irreducible] Go.bits shl shr sd
def flip_ (n : Nat) (e : Int) : Int := wrap64 (wrap64 ((n : Int) - 1) - e)
theorem specDL_l0 (o : List Int) (ho : o.length ≤ 1048576) : ∀ (i : Nat) (st : List Int), i ≤ o.length → st.length + i ≤ 1048576 → Ev (fun k => spec_DualLinear.l0 k o st ((i : Int) - 1)) (st ++ (o.take i).reverse.map (flip_ o.length), true) := by
  intro i
  induction i with
  | zero =>
    intro st _ _
    refine ev_eq (ev_step (Ev.now (st, true)) (fun k => by simp only [spec_DualLinear.l0]; rw [if_neg (by omega)])) ?_
    simp
  | succ i ih =>
    intro st hi hst
    have c0 : (((i + 1 : Nat) : Int) - 1) = (i : Int) := by omega
    have c1 : (i : Int) < (o.length : Int) := by omega
    have c2 : 0 ≤ (i : Int) := by omega
    have c3 : st.length < 17592186044416 := by omega
    have hw : wrap64 ((i : Int) - 1) = (i : Int) - 1 := wrap64_id (by omega) (by omega)
    rw [c0]
    refine ev_eq (ev_step (ih (st ++ [flip_ o.length (o.getD i 0)]) (by omega) (by rw [List.length_append, List.length_singleton]; omega)) (fun k => by simp only [spec_DualLinear.l0]; rw [if_pos (by omega), if_pos c2, if_pos c1, if_pos c3, rd_nat, hw]; rfl)) ?_
    rw [List.take_succ_eq_append_getElem (by omega), List.reverse_append, List.reverse_singleton, List.append_assoc]
    rw [show o.getD i 0 = o[i] by rw [List.getD_eq_getElem?_getD, List.getElem?_eq_getElem (by omega), Option.getD_some]]
    rfl
theorem implDL_l0 (l : List Int) (o : List Int) (ho : o.length ≤ 1048576) : ∀ (i : Nat) (st : List Int), i ≤ o.length → st.length ≤ i → Ev (fun k => impl_DualLinear.l0 k st o (o.length : Int) (i : Int) l) (st ++ (o.drop i).map (flip_ l.length), true) := by
  refine ev_down (fun k (st : List Int) i => impl_DualLinear.l0 k st o (o.length : Int) i l) (fun i st => (st ++ (o.drop i).map (flip_ l.length), true)) o.length (fun i st => st.length ≤ i) ?_ ?_
  · intro st _
    rw [List.drop_length, List.map_nil, List.append_nil]
    exact ev_step (Ev.now _) (fun k => by simp only [impl_DualLinear.l0]; rw [if_neg (by omega)])
  · intro i st hi hst ih
    have c1 : (i : Int) < (o.length : Int) := by omega
    have c2 : 0 ≤ (i : Int) := by omega
    have c3 : st.length < 17592186044416 := by omega
    have hw : wrap64 ((i : Int) + 1) = (i : Int) + 1 := wrap64_id (by omega) (by omega)
    have := ih (st ++ [flip_ l.length (o.getD i 0)]) (by rw [List.length_append, List.length_singleton]; omega)
    rw [drop_step o 0 hi, List.map_cons]
    rw [List.append_assoc] at this
    exact ev_step this (fun k => by simp only [impl_DualLinear.l0, impl_Poset_n.f]; rw [if_pos c1, if_pos c2, if_pos c1, Option.bind_some, if_pos c3, rd_nat, hw]; rfl)
theorem both_DualLinear (l o : List Int) (ho : o.length ≤ 1048576) : ∃ w b, w.length ≤ 1048576 ∧ Ev (fun k => spec_DualLinear.f k l o) (w, b) ∧ Ev (fun k => impl_DualLinear.f k l o) (w, b) := by
  have hs : ∀ b, Ev (fun k => spec_liGiven.f k l o) b → Ev (fun k => impl_isLinear.f k l o) b → (b = true → o.length = l.length) → ∃ w b, w.length ≤ 1048576 ∧ Ev (fun k => spec_DualLinear.f k l o) (w, b) ∧ Ev (fun k => impl_DualLinear.f k l o) (w, b) := by
    intro b h1 h2 h3
    unfold spec_DualLinear.f impl_DualLinear.f
    cases b with
    | false => exact ⟨[], false, by simp, Ev.bind h1 (ev_as (Ev.now _) (fun k => by rw [if_neg (by decide)])), Ev.bind h2 (ev_as (Ev.now _) (fun k => by rw [if_neg (by decide)]))⟩
    | true =>
      have hl := h3 rfl
      refine ⟨o.reverse.map (flip_ o.length), true, by rw [List.length_map, List.length_reverse]; exact ho, Ev.bind h1 ?_, Ev.bind h2 ?_⟩
      · have := specDL_l0 o ho o.length [] (by omega) (by simp; omega)
        rw [List.take_length, List.nil_append] at this
        exact ev_as this (fun k => by rw [if_pos rfl, wrap64_id (by omega) (by omega)])
      · refine ev_bind (backwards_ev o ho) ?_ (fun k => by rw [if_pos rfl])
        have := implDL_l0 l o.reverse (by rw [List.length_reverse]; exact ho) 0 [] (by omega) (by simp)
        rw [List.drop_zero, List.nil_append, ← hl] at this
        exact this
  cases hg : goodB l with
  | false =>
    refine hs false ?_ ?_ (fun h => by cases h)
    · unfold spec_liGiven.f
      exact Ev.bind (hg ▸ poGood_ev l) (ev_as (Ev.now _) (fun k => by rw [if_neg (by decide)]))
    · unfold impl_isLinear.f
      exact Ev.bind (hg ▸ IsPoset_ev l) (ev_as (Ev.now _) (fun k => by rw [if_neg (by decide)]))
  | true =>
    obtain ⟨P, hP⟩ := good_of hg
    refine hs (ordB P o) ?_ ?_ (fun h => ?_)
    · unfold spec_liGiven.f
      exact Ev.bind (hg ▸ poGood_ev l) (ev_bind (liIs_ev hP o ho) (Ev.now _) (fun k => by rw [if_pos rfl]))
    · unfold impl_isLinear.f
      exact Ev.bind (hg ▸ IsPoset_ev l) (ev_bind (isOrder_ev hP o ho) (Ev.now _) (fun k => by rw [if_pos rfl]))
    · rw [ordB_run, Bool.and_eq_true, decide_eq_true_eq] at h
      have := hP.length
      omega
theorem tail_DualLinear (l o w : List Int) (b : Bool) (h : l.length ≤ 1048576) (ho : o.length ≤ 1048576) (hw : w.length ≤ 1048576) (h2 : Ev (fun k => impl_DualLinear.f k l o) (w, b)) : Ev (fun k => laws_FnExactDualLinear.j0 k o w b o w b false l l) true := by
  have e2 : Ev (fun k => laws_FnExactDualLinear.j2 k (marked w 1) (1 + (w.length : Int)) false) true := by
    refine ev_stepb (heldIntS_ev w 1 (by omega) (by omega) (by omega)) ?_ (fun k => by simp only [laws_FnExactDualLinear.j2]; rw [if_neg (by decide)])
    exact ev_as (Ev.now _) (fun k => by rw [if_neg (by omega), if_pos rfl])
  have e1 : Ev (fun k => laws_FnExactDualLinear.j1 k o w b w false l) true := by
    refine ev_stepb (markIntS_ev w 1 (by omega) (by omega) (by omega)) ?_ (fun k => by simp only [laws_FnExactDualLinear.j1]; rw [if_neg (by decide)])
    refine ev_bind (heldIntS_ev w 1 (by omega) (by omega) (by omega)) ?_ (fun k => rfl)
    refine ev_bind (toPoset_ev l (by omega)) ?_ (fun k => by rw [if_neg (by omega), if_pos rfl])
    refine ev_bind (toIntS_ev o (by omega)) ?_ (fun k => rfl)
    refine ev_bind h2 ?_ (fun k => rfl)
    refine ev_bind (eqIntS_ev w (by omega)) ?_ (fun k => rfl)
    exact ev_as e2 (fun k => by rw [if_pos rfl, bne_self_eq_false])
  refine ev_stepb (toPoset_ev l (by omega)) ?_ (fun k => by simp only [laws_FnExactDualLinear.j0]; rw [if_neg (by decide)])
  refine ev_bind (eqPoset_ev l (by omega)) ?_ (fun k => rfl)
  refine ev_bind (toIntS_ev o (by omega)) ?_ (fun k => by rw [if_pos rfl])
  refine ev_bind (eqIntS_ev o (by omega)) ?_ (fun k => rfl)
  refine ev_bind (markPoset_ev l 1 (by omega) (by omega) (by omega)) ?_ (fun k => by rw [if_pos rfl])
  refine ev_bind (markIntS_ev o (1 + (l.length : Int)) (by omega) (by omega) (by omega)) ?_ (fun k => rfl)
  refine ev_bind (eqIntS_ev w (by omega)) ?_ (fun k => by rw [if_neg (by omega)])
  exact ev_as e1 (fun k => by rw [if_pos rfl, bne_self_eq_false])
theorem FnExactDualLinear (l o : List Int) (hm : l.length ≤ 9223372036854775807) (_ : ∀ x ∈ l, (Lit.int .i64 x).wf = true) (_ : o.length ≤ 9223372036854775807) (_ : ∀ x ∈ o, (Lit.int .i64 x).wf = true) : ∃ k, laws_FnExactDualLinear.f k l o = some true := by
  apply Ev.rounds
  unfold laws_FnExactDualLinear.f
  by_cases ho : (o.length : Int) > 1048576
  · exact ev_as (Ev.now _) (fun k => by rw [if_pos ho])
  simp only [if_neg ho]
  have ho' : o.length ≤ 1048576 := by omega
  refine sz_bind l hm _ true true (fun h => ?_) (fun _ => rfl)
  obtain ⟨w, b, hw, h1, h2⟩ := both_DualLinear l o ho'
  refine Ev.bind (toPoset_ev l (by omega)) ?_
  refine Ev.bind (toIntS_ev o (by omega)) ?_
  refine Ev.bind h1 ?_
  refine Ev.bind (toPoset_ev l (by omega)) ?_
  refine Ev.bind (toIntS_ev o (by omega)) ?_
  refine Ev.bind h2 ?_
  refine Ev.bind (eqIntS_ev w (by omega)) ?_
  exact ev_as (tail_DualLinear l o w b h ho' hw h2) (fun k => by rw [if_pos rfl, bne_self_eq_false])
end Go.Proofs.Ytinnobjcphfejaa.B
