/- The plain law of RowByToggles: the two printed functions answer alike. -/
import Derived.Test.YtinnobjcphfejaaSbackw
import Derived.Test.YtinnobjcphfejaaStg
import Derived.Test.YtinnobjcphfejaaStog
import Derived.Test.YtinnobjcphfejaaSwrt
import Derived.Test.YtinnobjcphfejaaSin
import Derived.Test.YtinnobjcphfejaaL
import Derived.Test.YtinnobjcphfejaaB21
import Derived.Test.YtinnobjcphfejaaB22
import Derived.Test.YtinnobjcphfejaaB23
namespace Go.Proofs.Ytinnobjcphfejaa.B
open Go.RowKit Go.Proofs.Ytinnobjcphfejaa.M Go.Proofs.YtinnobjcphfejaaW.PrintWords Go.Proofs.YtinnobjcphfejaaW.PrintLast Go.Proofs.YtinnobjcphfejaaW.PrintMore
attribute [local irreducible] Go.bits shl shr sd
theorem range_rev {n : Int} {o : List Int} (h : rangeB n o = true) : rangeB n o.reverse = true := by
  unfold rangeB at h ⊢
  rw [List.all_reverse]
  exact h
theorem specRow_l0 {l : List Int} {P : List Nat} (hP : Good l P) (o : List Int) (ho : o.length ≤ 1048576) (hr : rangeB ((P.length : Int) - 1) o = true) : ∀ (i : Nat) (s : Nat), i ≤ o.length → s < 2 ^ P.length → Ev (fun k => spec_RowByToggles.l0 k (s : Int) o ((i : Int) - 1) l) (((togs P s (o.take i).reverse : Nat) : Int), true) := by
  intro i
  induction i with
  | zero =>
    intro s _ _
    exact ev_step (Ev.now _) (fun k => by simp only [spec_RowByToggles.l0]; rw [if_neg (by omega)]; rfl)
  | succ i ih =>
    intro s hi hs
    obtain ⟨e, he, hlt⟩ := range_at hr (show i < o.length by omega)
    have c0 : (((i + 1 : Nat) : Int) - 1) = (i : Int) := by omega
    have c1 : (i : Int) < (o.length : Int) := by omega
    have c2 : 0 ≤ (i : Int) := by omega
    have hw : wrap64 ((i : Int) - 1) = (i : Int) - 1 := wrap64_id (by omega) (by omega)
    rw [c0]
    refine ev_stepb (tgAt_ev hP hs hlt) ?_ (fun k => by simp only [spec_RowByToggles.l0]; rw [if_pos (by omega), if_pos c2, if_pos c1, rd_nat, he])
    refine ev_eq (ev_as (ih _ (by omega) (tog_lt hs hlt)) (fun k => by rw [hw])) ?_
    rw [List.take_succ_eq_append_getElem (by omega), List.reverse_append, List.reverse_singleton]
    show _ = (((togs P s ([o[i]] ++ (o.take i).reverse) : Nat) : Int), true)
    rw [show o[i] = (e : Int) by rw [← he, List.getD_eq_getElem?_getD, List.getElem?_eq_getElem (by omega), Option.getD_some]]
    rfl
theorem both_RowByToggles (l : List Int) (a : Int) (o : List Int) (ho : o.length ≤ 1048576) : ∃ r, Ev (fun k => spec_RowByToggles.f k l a o) r ∧ Ev (fun k => impl_RowByToggles.f k l a o) r := by
  have s1 : Ev (fun k => spec_RowByToggles.j0 k a o true l) (0, false) := ev_step (Ev.now _) (fun k => by simp only [spec_RowByToggles.j0]; rw [if_pos trivial])
  have i1 : Ev (fun k => impl_RowByToggles.j0 k a o true l) (0, false) := ev_step (Ev.now _) (fun k => by simp only [impl_RowByToggles.j0]; rw [if_pos trivial])
  unfold spec_RowByToggles.f impl_RowByToggles.f
  cases hg : inB l a with
  | false => exact ⟨(0, false), Ev.bind (hg ▸ tgIn_ev l a) (ev_as s1 (fun k => by rw [if_neg (by decide)])), Ev.bind (hg ▸ isIdeal_ev l a) (ev_as i1 (fun k => by rw [if_neg (by decide)]))⟩
  | true =>
    obtain ⟨P, s, hP, rfl, hs, hi⟩ := in_nat hg
    cases hw : ordB P o with
    | false =>
      refine ⟨(0, false), Ev.bind (hg ▸ tgIn_ev l _) (ev_bind (hw ▸ tgOrder_ev hP o ho) ?_ (fun k => by rw [if_pos rfl])), Ev.bind (hg ▸ isIdeal_ev l _) (ev_bind (hw ▸ isOrder_ev hP o ho) ?_ (fun k => by rw [if_pos rfl]))⟩
      · exact s1
      · exact i1
    | true =>
      have hr : rangeB ((P.length : Int) - 1) o = true := by
        have := hw
        rw [ordB_run, Bool.and_eq_true] at this
        exact ordRun_range o 0 this.2
      refine ⟨(((togs P s o.reverse : Nat) : Int), true), Ev.bind (hg ▸ tgIn_ev l _) (ev_bind (hw ▸ tgOrder_ev hP o ho) ?_ (fun k => by rw [if_pos rfl])), Ev.bind (hg ▸ isIdeal_ev l _) (ev_bind (hw ▸ isOrder_ev hP o ho) ?_ (fun k => by rw [if_pos rfl]))⟩
      · have := specRow_l0 hP o ho hr o.length s (by omega) hs
        rw [List.take_length] at this
        refine ev_step this (fun k => ?_)
        simp only [spec_RowByToggles.j0]
        rw [if_neg (by decide), wrap64_id (by omega) (by omega)]
      · refine ev_stepb (backwards_ev o ho) ?_ (fun k => by simp only [impl_RowByToggles.j0]; rw [if_neg (by decide)])
        exact Ev.bind (toggles_ev hP o.reverse (by rw [List.length_reverse]; exact ho) (range_rev hr) hs) (Ev.now _)
theorem tail_RowByToggles (l o : List Int) (h : l.length ≤ 1048576) (ho : o.length ≤ 1048576) : Ev (fun k => laws_FnExactRowByToggles.j0 k o o false l l) true := by
  refine ev_step (f := fun k => (laws_toPoset.f k l).bind fun t => (laws_eqPoset.f k l t).bind fun u => if u = true then (laws_toIntS.f k o).bind fun t => (laws_eqIntS.f k o t).bind fun u => if u = true then some true else some false else some false) ?_ (fun k => by simp only [laws_FnExactRowByToggles.j0]; rw [if_neg (by decide)])
  refine Ev.bind (toPoset_ev l (by omega)) ?_
  refine Ev.bind (eqPoset_ev l (by omega)) ?_
  refine ev_bind (toIntS_ev o (by omega)) ?_ (fun k => by rw [if_pos rfl])
  exact Ev.bind (eqIntS_ev o (by omega)) (Ev.now _)
theorem FnExactRowByToggles (l : List Int) (a : Int) (o : List Int) (hm : l.length ≤ 9223372036854775807) (_ : ∀ x ∈ l, (Lit.int .i64 x).wf = true) (_ : (Lit.int .i64 a).wf = true) (_ : o.length ≤ 9223372036854775807) (_ : ∀ x ∈ o, (Lit.int .i64 x).wf = true) : ∃ k, laws_FnExactRowByToggles.f k l a o = some true := by
  apply Ev.rounds
  unfold laws_FnExactRowByToggles.f
  by_cases ho : (o.length : Int) > 1048576
  · exact ev_as (Ev.now _) (fun k => by rw [if_pos ho])
  simp only [if_neg ho]
  have ho' : o.length ≤ 1048576 := by omega
  refine sz_bind l hm _ true true (fun h => ?_) (fun _ => rfl)
  obtain ⟨r, h1, h2⟩ := both_RowByToggles l a o ho'
  refine Ev.bind (toPoset_ev l (by omega)) ?_
  refine Ev.bind (toIntS_ev o (by omega)) ?_
  refine Ev.bind h1 ?_
  refine Ev.bind (toPoset_ev l (by omega)) ?_
  refine Ev.bind (toIntS_ev o (by omega)) ?_
  refine Ev.bind h2 ?_
  exact ev_as (tail_RowByToggles l o h ho') (fun k => by first | (rw [if_pos rfl, bne_self_eq_false]) | (rw [bne_self_eq_false, bne_self_eq_false, if_neg (by decide)]))
end Go.Proofs.Ytinnobjcphfejaa.B
