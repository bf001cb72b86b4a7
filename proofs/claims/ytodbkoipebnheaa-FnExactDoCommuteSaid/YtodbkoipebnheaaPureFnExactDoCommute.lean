/- The plain law of DoCommute: the two printed functions answer alike. -/
import Derived.Test.YtodbkoipebnheaaStel
import Derived.Test.YtodbkoipebnheaaStog
import Derived.Test.YtodbkoipebnheaaSids
import Derived.Test.YtodbkoipebnheaaSwri
import Derived.Test.YtodbkoipebnheaaScov
import Derived.Test.YtodbkoipebnheaaL
import Derived.Test.YtodbkoipebnheaaB23
import Derived.Test.YtodbkoipebnheaaB24
namespace Go.Proofs.Ytodbkoipebnheaa.B
open Go.RowKit Go.Proofs.Ytodbkoipebnheaa.M Go.Proofs.YtodbkoipebnheaaW.PrintWords Go.Proofs.YtodbkoipebnheaaW.PrintLast Go.Proofs.YtodbkoipebnheaaW.PrintMore
attribute [local irreducible] Go.bits shl shr sd
def comB (P : List Nat) (d e s : Nat) : Bool := decide (tog P (tog P s d) e = tog P (tog P s e) d)
theorem spec_com_l0 {l : List Int} {P : List Nat} (hP : Good l P) {d e : Nat} (hd : d < P.length) (he : e < P.length) : ∀ (i : Nat) (_ : Unit), i ≤ (ids P).length → True → Ev (fun k => spec_DoCommute.l0 k (d : Int) (e : Int) (cast (ids P)) ((cast (ids P)).length : Int) (i : Int) l) (((ids P).drop i).all (comB P d e), true) := by
  have hlen := ids_length hP.n10
  refine ev_down (fun k (_ : Unit) i => spec_DoCommute.l0 k (d : Int) (e : Int) (cast (ids P)) ((cast (ids P)).length : Int) i l) (fun i _ => (((ids P).drop i).all (comB P d e), true)) (ids P).length (fun _ _ => True) ?_ ?_
  · intro _ _
    rw [List.drop_length]
    exact ev_step (Ev.now _) (fun k => by simp only [spec_DoCommute.l0]; rw [if_neg (by rw [cast_length]; omega)]; rfl)
  · intro i _ hi _ ih
    obtain ⟨s, hs⟩ : ∃ s, (ids P).getD i 0 = s := ⟨_, rfl⟩
    have hmem : s ∈ ids P := by rw [← hs]; exact getD_memN hi
    have hsl := (mem_ids.1 hmem).1
    have c1 : (i : Int) < ((cast (ids P)).length : Int) := by rw [cast_length]; omega
    have c2 : 0 ≤ (i : Int) := by omega
    have hw : wrap64 ((i : Int) + 1) = (i : Int) + 1 := wrap64_id (by omega) (by omega)
    have hr : rd (cast (ids P)) (i : Int) = (s : Int) := by rw [← hs]; exact rd_cast _ _
    rw [drop_step (ids P) 0 hi, hs, List.all_cons]
    refine ev_stepb (tgAt_ev hP hsl hd) ?_ (fun k => by simp only [spec_DoCommute.l0]; rw [if_pos c1, if_pos c2, if_pos c1, hr])
    refine ev_bind (tgAt_ev hP (tog_lt hsl hd) he) ?_ (fun k => rfl)
    refine ev_bind (tgAt_ev hP hsl he) ?_ (fun k => rfl)
    refine ev_bind (tgAt_ev hP (tog_lt hsl he) hd) ?_ (fun k => rfl)
    by_cases h : tog P (tog P s d) e = tog P (tog P s e) d
    · rw [show comB P d e s = true from decide_eq_true h, Bool.true_and]
      exact ev_as (ih () trivial) (fun k => by rw [if_pos (by omega), hw])
    · rw [show comB P d e s = false from decide_eq_false h, Bool.false_and]
      exact ev_as (Ev.now _) (fun k => by rw [if_neg (by omega)])
theorem com_cov {l : List Int} {P : List Nat} (hP : Good l P) {d e : Nat} (hd : d < P.length) (he : e < P.length) : (ids P).all (comB P d e) = (!(cov P d).testBit e && !(cov P e).testBit d) := by
  cases h1 : (cov P d).testBit e with
  | true =>
    obtain ⟨s, a, b, c⟩ := no_commute hP hd h1
    simp only [Bool.not_true, Bool.false_and]
    rw [List.all_eq_false]
    exact ⟨s, mem_ids.2 ⟨a, b⟩, by unfold comB; rw [decide_eq_true_eq]; exact fun h => c h.symm⟩
  | false =>
    cases h2 : (cov P e).testBit d with
    | true =>
      obtain ⟨s, a, b, c⟩ := no_commute hP he h2
      simp only [Bool.not_true, Bool.and_false]
      rw [List.all_eq_false]
      exact ⟨s, mem_ids.2 ⟨a, b⟩, by unfold comB; rw [decide_eq_true_eq]; exact c⟩
    | false =>
      simp only [Bool.not_false, Bool.and_true]
      rw [List.all_eq_true]
      exact fun s hs => decide_eq_true (commute hP h2 h1 (mem_ids.1 hs).2)
theorem both_DoCommute (l : List Int) (a b : Int) : ∃ r, Ev (fun k => spec_DoCommute.f k l a b) r ∧ Ev (fun k => impl_DoCommute.f k l a b) r := by
  have s1 : Ev (fun k => spec_DoCommute.j0 k a b true l) (false, false) := ev_step (Ev.now _) (fun k => by simp only [spec_DoCommute.j0]; rw [if_pos trivial])
  have i1 : Ev (fun k => impl_DoCommute.j0 k a b true l) (false, false) := ev_step (Ev.now _) (fun k => by simp only [impl_DoCommute.j0]; rw [if_pos trivial])
  unfold spec_DoCommute.f impl_DoCommute.f
  cases hg : goodB l with
  | false => exact ⟨(false, false), Ev.bind (hg ▸ poGood_ev l) (ev_as s1 (fun k => by rw [if_neg (by decide)])), Ev.bind (hg ▸ IsPoset_ev l) (ev_as i1 (fun k => by rw [if_neg (by decide)]))⟩
  | true =>
    obtain ⟨P, hP⟩ := good_of hg
    have hel : wordB P 2 [a, b] = (elB P a && elB P b) := by
      unfold wordB elB rangeB
      simp
    cases ha : elB P a with
    | false =>
      refine ⟨(false, false), Ev.bind (hg ▸ poGood_ev l) (ev_as s1 (fun k => by rw [if_pos rfl, tgElement_is hP, ha, Option.bind_some, if_neg (by decide)])), Ev.bind (hg ▸ IsPoset_ev l) (ev_bind (areElements_ev hP [a, b] 2 (by decide)) ?_ (fun k => by rw [if_pos rfl]))⟩
      rw [hel, ha]
      exact i1
    | true =>
      cases hb : elB P b with
      | false =>
        refine ⟨(false, false), Ev.bind (hg ▸ poGood_ev l) (ev_as s1 (fun k => by rw [if_pos rfl, tgElement_is hP, ha, Option.bind_some, if_pos rfl, tgElement_is hP, hb, Option.bind_some]; rfl)), Ev.bind (hg ▸ IsPoset_ev l) (ev_bind (areElements_ev hP [a, b] 2 (by decide)) ?_ (fun k => by rw [if_pos rfl]))⟩
        rw [hel, ha, hb]
        exact i1
      | true =>
        obtain ⟨d, rfl, hd⟩ := elB_nat ha
        obtain ⟨e, rfl, he⟩ := elB_nat hb
        have hn := hP.n10
        have hcl : ∀ i, cov P i < 2 ^ 63 := fun i => p63 (tp_lt (hP.ltn i)) (by omega)
        refine ⟨((ids P).all (comB P d e), true), Ev.bind (hg ▸ poGood_ev l) (ev_as (f := fun k => spec_DoCommute.j0 k (d : Int) (e : Int) false l) ?_ (fun k => by rw [if_pos rfl, tgElement_is hP, ha, Option.bind_some, if_pos rfl, tgElement_is hP, hb, Option.bind_some]; rfl)), Ev.bind (hg ▸ IsPoset_ev l) (ev_bind (areElements_ev hP [(d : Int), (e : Int)] 2 (by decide)) ?_ (fun k => by rw [if_pos rfl]))⟩
        · refine ev_stepb (poIdeals_ev hP) ?_ (fun k => by simp only [spec_DoCommute.j0]; rw [if_neg (by decide)])
          have := spec_com_l0 hP hd he 0 () (by omega) trivial
          rwa [List.drop_zero] at this
        · rw [hel, ha, hb]
          refine ev_stepb (covered_ev hP hd) ?_ (fun k => by simp only [impl_DoCommute.j0]; rw [if_neg (by decide)])
          rw [com_cov hP hd he]
          cases h1 : (cov P d).testBit e with
          | true => exact ev_as (Ev.now _) (fun k => by rw [has_is (hcl d) (by omega), h1, Option.bind_some, if_pos rfl]; rfl)
          | false =>
            refine ev_bind (covered_ev hP he) ?_ (fun k => by rw [has_is (hcl d) (by omega), h1, Option.bind_some, if_neg (by decide)])
            exact ev_as (Ev.now _) (fun k => by rw [has_is (hcl e) (by omega), Option.bind_some]; rfl)
theorem tail_DoCommute (l : List Int) (h : l.length ≤ 1048576) : Ev (fun k => laws_FnExactDoCommute.j0 k false l l) true := by
  refine ev_step (f := fun k => (laws_toPoset.f k l).bind fun t => (laws_eqPoset.f k l t).bind fun u => if u = true then some true else some false) ?_ (fun k => by simp only [laws_FnExactDoCommute.j0]; rw [if_neg (by decide)])
  refine Ev.bind (toPoset_ev l (by omega)) ?_
  exact Ev.bind (eqPoset_ev l (by omega)) (Ev.now _)
theorem FnExactDoCommute (l : List Int) (a b : Int) (hm : l.length ≤ 9223372036854775807) (_ : ∀ x ∈ l, (Lit.int .i64 x).wf = true) (_ : (Lit.int .i64 a).wf = true) (_ : (Lit.int .i64 b).wf = true) : ∃ k, laws_FnExactDoCommute.f k l a b = some true := by
  apply Ev.rounds
  unfold laws_FnExactDoCommute.f
  refine sz_bind l hm _ true true (fun h => ?_) (fun _ => rfl)
  obtain ⟨r, h1, h2⟩ := both_DoCommute l a b
  refine Ev.bind (toPoset_ev l (by omega)) ?_
  refine Ev.bind h1 ?_
  refine Ev.bind (toPoset_ev l (by omega)) ?_
  refine Ev.bind h2 ?_
  exact ev_as (tail_DoCommute l h) (fun k => by first | (rw [if_pos rfl, bne_self_eq_false]) | (rw [bne_self_eq_false, bne_self_eq_false, if_neg (by decide)]))
end Go.Proofs.Ytodbkoipebnheaa.B
