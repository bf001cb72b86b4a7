/- The plain law of IsRanked: the two printed functions answer alike. -/
import Derived.Test.YtodbkoipebnheaaSpairs
import Derived.Test.YtodbkoipebnheaaSpairi
import Derived.Test.YtodbkoipebnheaaShei
import Derived.Test.YtodbkoipebnheaaL
import Derived.Test.YtodbkoipebnheaaB31
import Derived.Test.YtodbkoipebnheaaB32
import Derived.Test.YtodbkoipebnheaaB33
namespace Go.Proofs.Ytodbkoipebnheaa.B
open Go.RowKit Go.Proofs.Ytodbkoipebnheaa.M Go.Proofs.YtodbkoipebnheaaW.PrintWords Go.Proofs.YtodbkoipebnheaaW.PrintLast Go.Proofs.YtodbkoipebnheaaW.PrintMore
attribute [local irreducible] Go.bits shl shr sd
theorem rd_pair (j i : Int) : rd [j, i] 0 = j ∧ rd [j, i] 1 = i := ⟨rfl, rfl⟩
theorem rdL_nat (o : List (List Int)) (i : Nat) : rd_L1 o (i : Int) = o.getD i [] := by unfold rd_L1; rw [Int.toNat_natCast]
theorem getD_memL {o : List (List Int)} {i : Nat} (h : i < o.length) : o.getD i [] ∈ o := by
  rw [List.getD_eq_getElem?_getD, List.getElem?_eq_getElem h, Option.getD_some]; exact List.getElem_mem h
theorem ranked_l0 (hs : List Int) (n : Nat) (hh : hs.length = n) (_ : n ≤ 10) (o : List (List Int)) (ho : o.length ≤ 100) (hp : ∀ c ∈ o, ∃ j i : Nat, c = [(j : Int), (i : Int)] ∧ j < n ∧ i < n) : ∀ (x : Nat) (_ : Unit), x ≤ o.length → True → Ev (fun k => spec_poRanked.l0 k hs o (o.length : Int) (x : Int)) ((o.drop x).all (rankAt hs)) := by
  refine ev_down (fun k (_ : Unit) x => spec_poRanked.l0 k hs o (o.length : Int) x) (fun x _ => (o.drop x).all (rankAt hs)) o.length (fun _ _ => True) ?_ ?_
  · intro _ _
    rw [List.drop_length]
    exact ev_step (Ev.now _) (fun k => by simp only [spec_poRanked.l0]; rw [if_neg (by omega)]; rfl)
  · intro x _ hx _ ih
    obtain ⟨j, i, hc, hj, hi⟩ := hp _ (getD_memL hx)
    have c1 : (x : Int) < (o.length : Int) := by omega
    have c2 : 0 ≤ (x : Int) := by omega
    have hw : wrap64 ((x : Int) + 1) = (x : Int) + 1 := wrap64_id (by omega) (by omega)
    have hr : rd_L1 o (x : Int) = [(j : Int), (i : Int)] := by rw [rdL_nat, hc]
    have d1 : (1 : Int) < (([(j : Int), (i : Int)] : List Int).length : Int) := by simp
    have d0 : (0 : Int) < (([(j : Int), (i : Int)] : List Int).length : Int) := by simp
    have c3 : 0 ≤ (i : Int) := by omega
    have c4 : (i : Int) < (hs.length : Int) := by omega
    have c5 : 0 ≤ (j : Int) := by omega
    have c6 : (j : Int) < (hs.length : Int) := by omega
    rw [drop_step o [] hx, hc, List.all_cons]
    have hra : rankAt hs [(j : Int), (i : Int)] = decide (rd hs (i : Int) = wrap64 (rd hs (j : Int) + 1)) := rfl
    rw [hra]
    by_cases h : rd hs (i : Int) = wrap64 (rd hs (j : Int) + 1)
    · rw [decide_eq_true h, Bool.true_and]
      exact ev_step (ih () trivial) (fun k => by simp only [spec_poRanked.l0]; rw [if_pos c1, if_pos c2, if_pos c1, hr, (rd_pair _ _).1, (rd_pair _ _).2, if_pos d1, if_pos c3, if_pos c4, if_pos d0, if_pos c5, if_pos c6, if_pos h, hw])
    · rw [decide_eq_false h, Bool.false_and]
      exact ev_step (Ev.now _) (fun k => by simp only [spec_poRanked.l0]; rw [if_pos c1, if_pos c2, if_pos c1, hr, (rd_pair _ _).1, (rd_pair _ _).2, if_pos d1, if_pos c3, if_pos c4, if_pos d0, if_pos c5, if_pos c6, if_neg h])
theorem index_l0 (hs : List Int) (n : Nat) (hh : hs.length = n) (_ : n ≤ 10) (o : List (List Int)) (ho : o.length ≤ 100) (hp : ∀ c ∈ o, ∃ j i : Nat, c = [(j : Int), (i : Int)] ∧ j < n ∧ i < n) : ∀ (x : Nat) (_ : Unit), x ≤ o.length → True → Ev (fun k => slices_IndexFunc_int_int_at_impl_IsRanked_1.l0 k o (o.length : Int) (x : Int) hs) (idxL (fun c => !rankAt hs c) x (o.drop x)) := by
  refine ev_down (fun k (_ : Unit) x => slices_IndexFunc_int_int_at_impl_IsRanked_1.l0 k o (o.length : Int) x hs) (fun x _ => idxL (fun c => !rankAt hs c) x (o.drop x)) o.length (fun _ _ => True) ?_ ?_
  · intro _ _
    rw [List.drop_length]
    exact ev_step (Ev.now _) (fun k => by simp only [slices_IndexFunc_int_int_at_impl_IsRanked_1.l0]; rw [if_neg (by omega)]; rfl)
  · intro x _ hx _ ih
    obtain ⟨j, i, hc, hj, hi⟩ := hp _ (getD_memL hx)
    have c1 : (x : Int) < (o.length : Int) := by omega
    have c2 : 0 ≤ (x : Int) := by omega
    have hw : wrap64 ((x : Int) + 1) = (x : Int) + 1 := wrap64_id (by omega) (by omega)
    have hr : rd_L1 o (x : Int) = [(j : Int), (i : Int)] := by rw [rdL_nat, hc]
    have d1 : (1 : Int) < (([(j : Int), (i : Int)] : List Int).length : Int) := by simp
    have d0 : (0 : Int) < (([(j : Int), (i : Int)] : List Int).length : Int) := by simp
    have c3 : 0 ≤ (i : Int) := by omega
    have c4 : (i : Int) < (hs.length : Int) := by omega
    have c5 : 0 ≤ (j : Int) := by omega
    have c6 : (j : Int) < (hs.length : Int) := by omega
    have hcl : impl_IsRanked_1_c.f [(j : Int), (i : Int)] hs = some (!rankAt hs [(j : Int), (i : Int)]) := by
      unfold impl_IsRanked_1_c.f
      rw [(rd_pair _ _).1, (rd_pair _ _).2, if_pos d1, if_pos c3, if_pos c4, if_pos d0, if_pos c5, if_pos c6]
      have hra : rankAt hs [(j : Int), (i : Int)] = decide (rd hs (i : Int) = wrap64 (rd hs (j : Int) + 1)) := rfl
      rw [hra]
      congr 1
    rw [drop_step o [] hx, hc]
    unfold idxL
    cases hb : (!rankAt hs [(j : Int), (i : Int)]) with
    | true =>
      rw [if_pos rfl]
      exact ev_step (Ev.now _) (fun k => by simp only [slices_IndexFunc_int_int_at_impl_IsRanked_1.l0]; rw [if_pos c1, if_pos c2, if_pos c1, hr, hcl, hb, Option.bind_some, if_pos rfl])
    | false =>
      rw [if_neg (by decide)]
      exact ev_step (ih () trivial) (fun k => by simp only [slices_IndexFunc_int_int_at_impl_IsRanked_1.l0]; rw [if_pos c1, if_pos c2, if_pos c1, hr, hcl, hb, Option.bind_some, if_neg (by decide), hw])
theorem both_IsRanked (l : List Int) : ∃ r, Ev (fun k => spec_IsRanked.f k l) r ∧ Ev (fun k => impl_IsRanked.f k l) r := by
  unfold spec_IsRanked.f impl_IsRanked.f
  cases hg : goodB l with
  | false => exact ⟨(false, false), Ev.bind (hg ▸ poGood_ev l) (ev_as (Ev.now _) (fun k => by rw [if_neg (by decide)])), Ev.bind (hg ▸ IsPoset_ev l) (ev_as (Ev.now _) (fun k => by rw [if_neg (by decide)]))⟩
  | true =>
    obtain ⟨P, hP⟩ := good_of hg
    have hn := hP.n10
    have ho := grid_length (covF P) hn
    have hp : ∀ c ∈ grid (covF P) P.length 0, ∃ j i : Nat, c = [(j : Int), (i : Int)] ∧ j < P.length ∧ i < P.length := fun c hc => by
      obtain ⟨j, i, h1, h2, h3, _⟩ := mem_grid hc
      exact ⟨j, i, h1, h2, h3⟩
    refine ⟨((grid (covF P) P.length 0).all (rankAt (heights P)), true), Ev.bind (hg ▸ poGood_ev l) ?_, Ev.bind (hg ▸ IsPoset_ev l) ?_⟩
    · refine ev_bind (A := fun k => spec_poRanked.f k l) ?_ (Ev.now _) (fun k => by rw [if_pos rfl])
      unfold spec_poRanked.f
      refine Ev.bind (poHeights_ev hP) ?_
      refine Ev.bind (poPairs_ev hP) ?_
      have := ranked_l0 (heights P) P.length (heights_length P) hn _ ho hp 0 () (by omega) trivial
      rwa [List.drop_zero] at this
    · refine ev_bind (heights_ev hP) ?_ (fun k => by rw [if_pos rfl])
      refine Ev.bind (covers_ev hP) ?_
      have hi : Ev (fun k => slices_ContainsFunc_int_int_at_impl_IsRanked_1.f k (grid (covF P) P.length 0) (heights P)) ((grid (covF P) P.length 0).any (fun c => !rankAt (heights P) c)) := by
        unfold slices_ContainsFunc_int_int_at_impl_IsRanked_1.f slices_IndexFunc_int_int_at_impl_IsRanked_1.f
        have := index_l0 (heights P) P.length (heights_length P) hn _ ho hp 0 () (by omega) trivial
        rw [List.drop_zero] at this
        refine Ev.bind this ?_
        rw [idxL_any]
        exact Ev.now _
      refine Ev.bind hi (ev_eq (Ev.now _) ?_)
      rw [List.all_eq_not_any_not]
theorem tail_IsRanked (l : List Int) (h : l.length ≤ 1048576) : Ev (fun k => laws_FnExactIsRanked.j0 k false l l) true := by
  refine ev_step (f := fun k => (laws_toPoset.f k l).bind fun t => (laws_eqPoset.f k l t).bind fun u => if u = true then some true else some false) ?_ (fun k => by simp only [laws_FnExactIsRanked.j0]; rw [if_neg (by decide)])
  refine Ev.bind (toPoset_ev l (by omega)) ?_
  exact Ev.bind (eqPoset_ev l (by omega)) (Ev.now _)
theorem FnExactIsRanked (l : List Int) (hm : l.length ≤ 9223372036854775807) (_ : ∀ x ∈ l, (Lit.int .i64 x).wf = true) : ∃ k, laws_FnExactIsRanked.f k l = some true := by
  apply Ev.rounds
  unfold laws_FnExactIsRanked.f
  refine sz_bind l hm _ true true (fun h => ?_) (fun _ => rfl)
  obtain ⟨r, h1, h2⟩ := both_IsRanked l
  refine Ev.bind (toPoset_ev l (by omega)) ?_
  refine Ev.bind h1 ?_
  refine Ev.bind (toPoset_ev l (by omega)) ?_
  refine Ev.bind h2 ?_
  exact ev_as (tail_IsRanked l h) (fun k => by first | (rw [if_pos rfl, bne_self_eq_false]) | (rw [bne_self_eq_false, bne_self_eq_false, if_neg (by decide)]))
end Go.Proofs.Ytodbkoipebnheaa.B
