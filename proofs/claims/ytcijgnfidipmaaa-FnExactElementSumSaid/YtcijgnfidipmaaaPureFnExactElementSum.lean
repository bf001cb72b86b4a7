/- The plain law of ElementSum: the two printed functions answer alike. -/
import Derived.Test.YtcijgnfidipmaaaSorb
import Derived.Test.YtcijgnfidipmaaaStel
import Derived.Test.YtcijgnfidipmaaaSin
import Derived.Test.YtcijgnfidipmaaaL
import Derived.Test.YtcijgnfidipmaaaB27
import Derived.Test.YtcijgnfidipmaaaB28
namespace Go.Proofs.Ytcijgnfidipmaaa.B
open Go.RowKit Go.Proofs.Ytcijgnfidipmaaa.M Go.Proofs.YtcijgnfidipmaaaW.PrintWords Go.Proofs.YtcijgnfidipmaaaW.PrintLast Go.Proofs.YtcijgnfidipmaaaW.PrintMore
attribute [local irreducible] Go.bits shl shr sd
theorem lt1024x {s n : Nat} (hs : s < 2 ^ n) (hn : n ≤ 10) : s < 1024 := Nat.lt_of_lt_of_le hs (two_pow_le (j := 10) hn)
def elSum (e : Nat) (st : Nat) (o : List Nat) : Nat := o.foldl (fun st s => if s.testBit e = true then st + 1 else st) st
theorem specEl_l0 (e : Nat) (he : e ≤ 10) (o : List Nat) (ho : o.length ≤ 1024) : ∀ (i : Nat) (st : Nat), i ≤ o.length → st ≤ i → Ev (fun k => spec_ElementSum.l0 k (e : Int) (st : Int) (cast o) ((cast o).length : Int) (i : Int)) (((elSum e st (o.drop i) : Nat) : Int), true) := by
  refine ev_down (fun k (st : Nat) i => spec_ElementSum.l0 k (e : Int) (st : Int) (cast o) ((cast o).length : Int) i) (fun i st => (((elSum e st (o.drop i) : Nat) : Int), true)) o.length (fun i st => st ≤ i) ?_ ?_
  · intro st _
    rw [List.drop_length]
    exact ev_step (Ev.now _) (fun k => by simp only [spec_ElementSum.l0]; rw [if_neg (by rw [cast_length]; omega)]; rfl)
  · intro i st hi hst ih
    obtain ⟨s, hs⟩ : ∃ s, o.getD i 0 = s := ⟨_, rfl⟩
    have c1 : (i : Int) < ((cast o).length : Int) := by rw [cast_length]; omega
    have c2 : 0 ≤ (i : Int) := by omega
    have hw : wrap64 ((i : Int) + 1) = (i : Int) + 1 := wrap64_id (by omega) (by omega)
    have hw2 : wrap64 ((st : Int) + 1) = ((st + 1 : Nat) : Int) := by rw [wrap64_id (by omega) (by omega)]; omega
    have hr : rd (cast o) (i : Int) = (s : Int) := by rw [← hs]; exact rd_cast _ _
    have hb := poIn_is (s := s) (e := e) (by omega)
    rw [drop_step o 0 hi, hs]
    show Ev _ (((elSum e (if s.testBit e = true then st + 1 else st) (o.drop (i + 1)) : Nat) : Int), true)
    cases hbit : s.testBit e with
    | true =>
      rw [if_pos rfl]
      exact ev_step (ih (st + 1) (by omega)) (fun k => by simp only [spec_ElementSum.l0]; rw [if_pos c1, if_pos c2, if_pos c1, hr, hb, hbit, Option.bind_some, if_pos rfl, hw, hw2])
    | false =>
      rw [if_neg (by decide)]
      exact ev_step (ih st (by omega)) (fun k => by simp only [spec_ElementSum.l0]; rw [if_pos c1, if_pos c2, if_pos c1, hr, hb, hbit, Option.bind_some, if_neg (by decide), hw])
theorem bit_val {s e : Nat} (hs : s < 1024) (he : e ≤ 10) : Go.bits .and .i64 (shr .i64 (s : Int) (e : Int)) 1 = if s.testBit e = true then 1 else 0 := by
  have h2 : s / 2 ^ e < 2 ^ 63 := Nat.lt_of_le_of_lt (Nat.div_le_self _ _) (by omega)
  rw [shr_nat (by omega), show (1 : Int) = ((1 : Nat) : Int) from rfl, and_nat h2 (by decide), bit_div, Nat.and_one_is_mod]
  by_cases h : s / 2 ^ e % 2 = 1
  · rw [if_pos (decide_eq_true h), h]
  · rw [if_neg (by simpa using h)]
    have : s / 2 ^ e % 2 = 0 := by omega
    rw [this]; rfl
theorem implEl_ev (e : Nat) (he : e ≤ 10) (o : List Nat) (ho : o.length ≤ 1024) (hs : ∀ s ∈ o, s < 1024) : Ev (fun k => impl_sum_at_impl_ElementSum_1.f k (cast o) (e : Int)) ((elSum e 0 o : Nat) : Int) := by
  have H : ∀ (i : Nat) (st : Nat), i ≤ o.length → st ≤ i → Ev (fun k => impl_sum_at_impl_ElementSum_1.l0 k (st : Int) (cast o) ((cast o).length : Int) (i : Int) (e : Int)) ((elSum e st (o.drop i) : Nat) : Int) := by
    refine ev_down (fun k (st : Nat) i => impl_sum_at_impl_ElementSum_1.l0 k (st : Int) (cast o) ((cast o).length : Int) i (e : Int)) (fun i st => ((elSum e st (o.drop i) : Nat) : Int)) o.length (fun i st => st ≤ i) ?_ ?_
    · intro st _
      rw [List.drop_length]
      exact ev_step (Ev.now _) (fun k => by simp only [impl_sum_at_impl_ElementSum_1.l0]; rw [if_neg (by rw [cast_length]; omega)]; rfl)
    · intro i st hi hst ih
      obtain ⟨s, hs1⟩ : ∃ s, o.getD i 0 = s := ⟨_, rfl⟩
      have hm : s < 1024 := hs s (by rw [← hs1]; exact getD_memN hi)
      have c1 : (i : Int) < ((cast o).length : Int) := by rw [cast_length]; omega
      have c2 : 0 ≤ (i : Int) := by omega
      have c3 : 0 ≤ (e : Int) := by omega
      have hle : st + 1 ≤ i + 1 := by omega
      have hle0 : st ≤ i + 1 := by omega
      have b1 : -9223372036854775808 ≤ (st : Int) := by omega
      have b2 : (st : Int) ≤ 9223372036854775807 := by omega
      have b3 : -9223372036854775808 ≤ (st : Int) + 1 := by omega
      have b4 : (st : Int) + 1 ≤ 9223372036854775807 := by omega
      have b5 : -9223372036854775808 ≤ (i : Int) + 1 := by omega
      have b6 : (i : Int) + 1 ≤ 9223372036854775807 := by omega
      have hr : rd (cast o) (i : Int) = (s : Int) := by rw [← hs1]; exact rd_cast _ _
      have hw : wrap64 ((i : Int) + 1) = (i : Int) + 1 := wrap64_id b5 b6
      have hw1 : wrap64 ((st : Int) + 1) = ((st + 1 : Nat) : Int) := (wrap64_id b3 b4).trans (Int.natCast_succ st).symm
      have hw0 : wrap64 ((st : Int) + 0) = (st : Int) := by rw [Int.add_zero]; exact wrap64_id b1 b2
      have hv := bit_val hm he
      rw [drop_step o 0 hi, hs1]
      show Ev _ ((elSum e (if s.testBit e = true then st + 1 else st) (o.drop (i + 1)) : Nat) : Int)
      cases hbit : s.testBit e with
      | true =>
        rw [hbit, if_pos rfl] at hv
        rw [if_pos rfl]
        exact ev_step (ih (st + 1) hle) (fun k => by simp only [impl_sum_at_impl_ElementSum_1.l0, impl_ElementSum_1_c.f]; rw [if_pos c1, if_pos c2, if_pos c1, if_pos c3, hr, hv, Option.bind_some, hw, hw1])
      | false =>
        rw [hbit, if_neg (by decide)] at hv
        rw [if_neg (by decide)]
        exact ev_step (ih st hle0) (fun k => by simp only [impl_sum_at_impl_ElementSum_1.l0, impl_ElementSum_1_c.f]; rw [if_pos c1, if_pos c2, if_pos c1, if_pos c3, hr, hv, Option.bind_some, hw, hw0])
  unfold impl_sum_at_impl_ElementSum_1.f
  have := H 0 0 (by omega) (by omega)
  rwa [List.drop_zero] at this
theorem both_ElementSum (l : List Int) (a b : Int) : ∃ r, Ev (fun k => spec_ElementSum.f k l a b) r ∧ Ev (fun k => impl_ElementSum.f k l a b) r := by
  have s1 : Ev (fun k => spec_ElementSum.j0 k a b true l) (0, false) := ev_step (Ev.now _) (fun k => by simp only [spec_ElementSum.j0]; rw [if_pos trivial])
  have i1 : Ev (fun k => impl_ElementSum.j0 k a true l b) (0, false) := ev_step (Ev.now _) (fun k => by simp only [impl_ElementSum.j0]; rw [if_pos trivial])
  unfold spec_ElementSum.f impl_ElementSum.f
  cases hg : inB l a with
  | false => exact ⟨(0, false), Ev.bind (hg ▸ tgIn_ev l a) (ev_as s1 (fun k => by rw [if_neg (by decide)])), Ev.bind (hg ▸ isIdeal_ev l a) (ev_as i1 (fun k => by rw [if_neg (by decide)]))⟩
  | true =>
    obtain ⟨P, s, hP, rfl, hs, hi⟩ := in_nat hg
    have hid : isId P s := ⟨hs, hi⟩
    have hlen := (robit_length hP hid).2
    have hmem := robit_mem hP hid
    have hn := hP.n10
    have hn1 := hP.n1
    have hl := hP.length
    have hw : wrap64 ((l.length : Int) - 1) = (P.length : Int) - 1 := by rw [hl]; exact wrap64_id (by omega) (by omega)
    cases hb : elB P b with
    | false =>
      have hb' := hb
      unfold elB at hb'
      refine ⟨(0, false), Ev.bind (hg ▸ tgIn_ev l _) (ev_as s1 (fun k => by rw [if_pos rfl, tgElement_is hP, hb, Option.bind_some]; rfl)), Ev.bind (hg ▸ isIdeal_ev l _) (ev_as i1 (fun k => ?_))⟩
      unfold impl_Poset_n.f
      rw [if_pos rfl, Option.bind_some, hw, within_is, hb', Option.bind_some]
      rfl
    | true =>
      have hb' := hb
      unfold elB at hb'
      obtain ⟨e, rfl, he⟩ := elB_nat hb
      refine ⟨(((elSum e 0 (robit P s) : Nat) : Int), true), Ev.bind (hg ▸ tgIn_ev l _) (ev_as (f := fun k => spec_ElementSum.j0 k (s : Int) (e : Int) false l) ?_ (fun k => by rw [if_pos rfl, tgElement_is hP, hb, Option.bind_some]; rfl)), Ev.bind (hg ▸ isIdeal_ev l _) (ev_as (f := fun k => impl_ElementSum.j0 k (s : Int) false l (e : Int)) ?_ (fun k => by unfold impl_Poset_n.f; rw [if_pos rfl, Option.bind_some, hw, within_is, hb', Option.bind_some]; rfl))⟩
      · refine ev_stepb (obOrbit_ev hP hid) ?_ (fun k => by simp only [spec_ElementSum.j0]; rw [if_neg (by decide)])
        have := specEl_l0 e (by omega) (robit P s) hlen 0 0 (by omega) (by omega)
        rwa [List.drop_zero] at this
      · refine ev_stepb (orbit_ev hP hid) ?_ (fun k => by simp only [impl_ElementSum.j0]; rw [if_neg (by decide)])
        exact Ev.bind (implEl_ev e (by omega) (robit P s) hlen (fun x hx => lt1024x (hmem x hx).1 hn)) (Ev.now _)
theorem tail_ElementSum (l : List Int) (h : l.length ≤ 1048576) : Ev (fun k => laws_FnExactElementSum.j0 k false l l) true := by
  refine ev_step (f := fun k => (laws_toPoset.f k l).bind fun t => (laws_eqPoset.f k l t).bind fun u => if u = true then some true else some false) ?_ (fun k => by simp only [laws_FnExactElementSum.j0]; rw [if_neg (by decide)])
  refine Ev.bind (toPoset_ev l (by omega)) ?_
  exact Ev.bind (eqPoset_ev l (by omega)) (Ev.now _)
theorem FnExactElementSum (l : List Int) (a : Int) (b : Int) (hm : l.length ≤ 9223372036854775807) (_ : ∀ x ∈ l, (Lit.int .i64 x).wf = true) (_ : (Lit.int .i64 a).wf = true) (_ : (Lit.int .i64 b).wf = true) : ∃ k, laws_FnExactElementSum.f k l a b = some true := by
  apply Ev.rounds
  unfold laws_FnExactElementSum.f
  refine sz_bind l hm _ true true (fun h => ?_) (fun _ => rfl)
  obtain ⟨r, h1, h2⟩ := both_ElementSum l a b
  refine Ev.bind (toPoset_ev l (by omega)) ?_
  refine Ev.bind h1 ?_
  refine Ev.bind (toPoset_ev l (by omega)) ?_
  refine Ev.bind h2 ?_
  exact ev_as (tail_ElementSum l h) (fun k => by first | (rw [if_pos rfl, bne_self_eq_false]) | (rw [bne_self_eq_false, bne_self_eq_false, if_neg (by decide)]))
end Go.Proofs.Ytcijgnfidipmaaa.B
