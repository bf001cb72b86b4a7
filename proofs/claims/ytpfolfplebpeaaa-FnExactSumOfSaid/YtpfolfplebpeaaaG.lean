/- What the small functions on posets answer, and which posets are good: the reference's test and the program's test are one. -/
import Derived.Test.YtpfolfplebpeaaaM
import Derived.Test.YtpfolfplebpeaaaB1
import Derived.Test.YtpfolfplebpeaaaB2
namespace Go.Proofs.Ytpfolfplebpeaaa.B
open Go.RowKit Go.Proofs.Ytpfolfplebpeaaa.M Go.Proofs.YtpfolfplebpeaaaW.PrintWords Go.Proofs.YtpfolfplebpeaaaW.PrintLast Go.Proofs.YtpfolfplebpeaaaW.PrintMore

attribute [local irreducible] Go.bits shl shr sd
/-! ### small functions -/
theorem l1In_is (a b c : Int) : spec_l1In.f a b c = some (decide (b ≤ a ∧ a ≤ c)) := by
  unfold spec_l1In.f
  by_cases h : a ≥ b
  · rw [if_pos h]; simp [show b ≤ a from h]
  · rw [if_neg h]; simp [show ¬ b ≤ a from h]
theorem within_is (a b c : Int) : impl_within.f a b c = some (decide (b ≤ a ∧ a ≤ c)) := by
  unfold impl_within.f
  by_cases h : b ≤ a
  · rw [if_pos h]; simp [h]
  · rw [if_neg h]; simp [h]
theorem has_is {s e : Nat} (hs : s < 2 ^ 63) (he : e ≤ 64) : impl_has.f (s : Int) (e : Int) = some (s.testBit e) := by
  unfold impl_has.f
  rw [if_pos (by omega)]
  congr 1
  have := bit_and1 hs he
  cases hb : s.testBit e
  · rw [hb] at this; simpa using this
  · rw [hb] at this; simpa using this
theorem items_l0 {s : Nat} (hs : s < 2 ^ 63) : ∀ (e : Nat) (_ : Unit), e ≤ 10 → True →
    Ev (fun k => impl_items.l0 k (s : Int) ((itemsUpto s e).map (fun x : Nat => (x : Int))) (e : Int)) ((items s).map (fun x : Nat => (x : Int))) := by
  have H : ∀ (e : Nat) (st : List Int), e ≤ 10 → st = (itemsUpto s e).map (fun x : Nat => (x : Int)) → Ev (fun k => impl_items.l0 k (s : Int) st (e : Int)) ((items s).map (fun x : Nat => (x : Int))) := by
    refine ev_down (fun k (st : List Int) e => impl_items.l0 k (s : Int) st e) (fun _ _ => (items s).map (fun x : Nat => (x : Int))) 10 (fun e st => st = (itemsUpto s e).map (fun x : Nat => (x : Int))) ?_ ?_
    · rintro st rfl
      exact ev_step (Ev.now _) (fun k => by simp only [impl_items.l0]; rw [if_neg (by omega)]; rfl)
    · rintro e st he rfl ih
      have hl : (itemsUpto s e).length ≤ e := by unfold itemsUpto; exact Nat.le_trans (List.length_filter_le _ _) (by simp)
      have hw : wrap64 ((e : Int) + 1) = (e : Int) + 1 := wrap64_id (by omega) (by omega)
      have hn : itemsUpto s (e + 1) = itemsUpto s e ++ (if s.testBit e then [e] else []) := by
        unfold itemsUpto
        rw [List.range_succ, List.filter_append]
        cases h : s.testBit e <;> simp [h]
      cases hb : s.testBit e with
      | true =>
        refine ev_step (ih _ rfl) (fun k => ?_)
        simp only [impl_items.l0]
        rw [if_pos (by omega), has_is hs (by omega), hb, Option.bind_some, if_pos rfl, if_pos (by rw [List.length_map]; omega), hw, hn, hb, if_pos rfl, List.map_append]
        rfl
      | false =>
        refine ev_step (ih _ rfl) (fun k => ?_)
        simp only [impl_items.l0]
        rw [if_pos (by omega), has_is hs (by omega), hb, Option.bind_some, if_neg (by decide), hw, hn, hb, if_neg (by decide), List.append_nil]
  exact fun e _ he _ => H e _ he rfl
theorem items_ev {s : Nat} (hs : s < 2 ^ 63) : Ev (fun k => impl_items.f k (s : Int)) ((items s).map (fun x : Nat => (x : Int))) := by
  unfold impl_items.f
  have := items_l0 hs 0 () (by omega) trivial
  simpa [itemsUpto] using this

/-! ### good posets -/
def cellB (l : List Int) (i j : Nat) : Bool := !((l.getD i 0).toNat.testBit j) || decide (sd (l.getD j 0).toNat (l.getD i 0).toNat = 0)
def rowB (l : List Int) (i : Nat) : Bool := decide (0 ≤ l.getD i 0 ∧ l.getD i 0 ≤ ((2 ^ i - 1 : Nat) : Int)) && allFrom (cellB l i) 0 i
def goodB (l : List Int) : Bool := decide (1 ≤ (l.length : Int) ∧ (l.length : Int) ≤ 10) && allFrom (rowB l) 0 l.length
theorem rowB_bound {l : List Int} {i : Nat} (h : rowB l i = true) : ∃ x : Nat, l.getD i 0 = (x : Int) ∧ x < 2 ^ i := by
  unfold rowB at h
  rw [Bool.and_eq_true, decide_eq_true_eq] at h
  have := Nat.one_le_two_pow (n := i)
  exact ⟨(l.getD i 0).toNat, by omega, by omega⟩
theorem p63 {x i : Nat} (h : x < 2 ^ i) (hi : i ≤ 62) : x < 2 ^ 63 := Nat.lt_of_lt_of_le h (two_pow_le (by omega))
theorem sd_zero_nat {a b : Nat} : ((sd a b : Nat) : Int) = 0 ↔ sd a b = 0 := by omega

theorem poGood_l1 (l : List Int) (i : Nat) (hn : l.length ≤ 10) (hi : i < l.length) (hp : ∀ j, j < i → rowB l j = true) {x : Nat} (hx : l.getD i 0 = (x : Int)) (hxi : x < 2 ^ i) (r : Bool)
    (hnext : (∀ j, j < i → cellB l i j = true) → Ev (fun k => spec_poGood.l0 k l (l.length : Int) ((i : Int) + 1) l) r) :
    ∀ (j : Nat) (_ : Unit), j ≤ i → (∀ j', j' < j → cellB l i j' = true) → Ev (fun k => spec_poGood.l1 k (i : Int) (x : Int) (j : Int) l (l.length : Int) (i : Int) l) (allFrom (cellB l i) j i && r) := by
  refine ev_down (fun k (_ : Unit) j => spec_poGood.l1 k (i : Int) (x : Int) j l (l.length : Int) (i : Int) l) (fun j _ => allFrom (cellB l i) j i && r) i (fun j _ => ∀ j', j' < j → cellB l i j' = true) ?_ ?_
  · intro _ hall
    rw [allFrom_end, Bool.true_and]
    exact ev_step (hnext hall) (fun k => by simp only [spec_poGood.l1]; rw [if_neg (by omega), wrap64_id (by omega) (by omega)])
  · intro j _ hj hall ih
    have hw : wrap64 ((j : Int) + 1) = (j : Int) + 1 := wrap64_id (by omega) (by omega)
    obtain ⟨y, hy, hyj⟩ := rowB_bound (hp j hj)
    have hc : cellB l i j = (!(x.testBit j) || decide (sd y x = 0)) := by unfold cellB; rw [hx, hy, Int.toNat_natCast, Int.toNat_natCast]
    have hb := bit_tmod (s := x) (i := j) (by omega)
    have c1 : (j : Int) < (i : Int) := by omega
    have c2 : 0 ≤ (j : Int) := by omega
    have c3 : (j : Int) < (l.length : Int) := by omega
    have ih' : cellB l i j = true → Ev (fun k => spec_poGood.l1 k (i : Int) (x : Int) ((j : Int) + 1) l (l.length : Int) (i : Int) l) (allFrom (cellB l i) (j + 1) i && r) := fun h =>
      ih () (fun j' hj' => by rcases Nat.lt_or_ge j' j with h1 | h1; exact hall j' h1; rw [show j' = j by omega]; exact h)
    have hz := andNot_nat (p63 hyj (by omega)) (p63 hxi (by omega))
    rw [allFrom_step _ hj]
    cases hbit : x.testBit j with
    | true =>
      have hb1 := hb.2 hbit
      by_cases h0 : sd y x = 0
      · have hcj : cellB l i j = true := by rw [hc, h0]; simp
        rw [hcj, Bool.true_and]
        exact ev_step (ih' hcj) (fun k => by simp only [spec_poGood.l1]; rw [if_pos c1, if_pos c2, if_pos hb1, if_pos c3, rd_nat, hy, hz, if_pos (sd_zero_nat.2 h0), hw])
      · have hcj : cellB l i j = false := by rw [hc, hbit]; simp [h0]
        rw [hcj, Bool.false_and, Bool.false_and]
        exact ev_step (Ev.now _) (fun k => by simp only [spec_poGood.l1]; rw [if_pos c1, if_pos c2, if_pos hb1, if_pos c3, rd_nat, hy, hz, if_neg (fun h => h0 (sd_zero_nat.1 h))])
    | false =>
      have hb1 : ¬ (Int.tmod (shr .i64 (x : Int) (j : Int)) 2 = 1) := fun h => by rw [hb.1 h] at hbit; cases hbit
      have hcj : cellB l i j = true := by rw [hc, hbit]; simp
      rw [hcj, Bool.true_and]
      exact ev_step (ih' hcj) (fun k => by simp only [spec_poGood.l1]; rw [if_pos c1, if_pos c2, if_neg hb1, hw])
theorem poGood_l0 (l : List Int) (hn : l.length ≤ 10) : ∀ (i : Nat) (_ : Unit), i ≤ l.length → (∀ j, j < i → rowB l j = true) → Ev (fun k => spec_poGood.l0 k l (l.length : Int) (i : Int) l) (allFrom (rowB l) i l.length) := by
  refine ev_down (fun k (_ : Unit) i => spec_poGood.l0 k l (l.length : Int) i l) (fun i _ => allFrom (rowB l) i l.length) l.length (fun i _ => ∀ j, j < i → rowB l j = true) ?_ ?_
  · intro _ _
    rw [allFrom_end]
    exact ev_step (Ev.now _) (fun k => by simp only [spec_poGood.l0]; rw [if_neg (by omega)])
  · intro i _ hi hp ih
    have hm := mask_sub (i := i) (by omega)
    have c1 : (i : Int) < (l.length : Int) := by omega
    have c2 : 0 ≤ (i : Int) := by omega
    rw [allFrom_step _ hi]
    by_cases hb : 0 ≤ l.getD i 0 ∧ l.getD i 0 ≤ ((2 ^ i - 1 : Nat) : Int)
    · have h1 := Nat.one_le_two_pow (n := i)
      obtain ⟨x, hx⟩ : ∃ x : Nat, l.getD i 0 = (x : Int) := ⟨(l.getD i 0).toNat, by omega⟩
      have hxi : x < 2 ^ i := by omega
      have hr : rowB l i = allFrom (cellB l i) 0 i := by unfold rowB; rw [decide_eq_true hb, Bool.true_and]
      rw [hr]
      refine ev_step (poGood_l1 l i hn hi hp hx hxi (allFrom (rowB l) (i + 1) l.length) (fun hall => ih () (fun j hj => ?_)) 0 () (by omega) (fun _ h => absurd h (by omega))) (fun k => ?_)
      · rcases Nat.lt_or_ge j i with h | h
        · exact hp j h
        · rw [show j = i by omega, hr]
          exact (allFrom_iff _ _ _).2 (fun j' _ h2 => hall j' h2)
      · simp only [spec_poGood.l0]
        rw [if_pos c1, if_pos c2, if_pos c1, rd_nat, hm, l1In_is, decide_eq_true hb, hx, Option.bind_some, if_pos rfl]
        rfl
    · have hr : rowB l i = false := by unfold rowB; rw [decide_eq_false hb, Bool.false_and]
      rw [hr, Bool.false_and]
      exact ev_step (Ev.now _) (fun k => by simp only [spec_poGood.l0]; rw [if_pos c1, if_pos c2, if_pos c1, rd_nat, hm, l1In_is, decide_eq_false hb, Option.bind_some, if_neg (by decide)])
theorem poGood_ev (l : List Int) : Ev (fun k => spec_poGood.f k l) (goodB l) := by
  unfold spec_poGood.f goodB
  rw [l1In_is]
  by_cases h : 1 ≤ (l.length : Int) ∧ (l.length : Int) ≤ 10
  · rw [decide_eq_true h, Bool.true_and]
    exact ev_as (poGood_l0 l (by omega) 0 () (by omega) (fun _ h => absurd h (by omega))) (fun k => by rw [Option.bind_some, if_pos rfl]; rfl)
  · rw [decide_eq_false h, Bool.false_and]
    exact ev_as (Ev.now _) (fun k => by rw [Option.bind_some, if_neg (by decide)])
abbrev cast (P : List Nat) : List Int := P.map (fun x : Nat => (x : Int))
theorem cast_length (P : List Nat) : ((cast P).length : Int) = (P.length : Int) := by simp
/-- What the program asks of the elements below one. -/
def subB (l : List Int) (x j : Nat) : Bool := decide (sd (l.getD j 0).toNat x = 0)
theorem IsPoset_l1 (l : List Int) (i : Nat) (hn : l.length ≤ 10) (hi : i < l.length) (hp : ∀ j, j < i → rowB l j = true) {x : Nat} (hxi : x < 2 ^ i) (r : Bool)
    (hnext : (∀ j, j ∈ items x → subB l x j = true) → Ev (fun k => impl_IsPoset.l0 k l (l.length : Int) ((i : Int) + 1) l) r) :
    ∀ (e : Nat) (_ : Unit), e ≤ (items x).length → (∀ j, j ∈ (items x).take e → subB l x j = true) →
      Ev (fun k => impl_IsPoset.l1 k (x : Int) l (l.length : Int) (i : Int) (cast (items x)) ((cast (items x)).length : Int) (e : Int) l) (((items x).drop e).all (subB l x) && r) := by
  have hlen : (items x).length ≤ 10 := by unfold items; exact Nat.le_trans (List.length_filter_le _ _) (by simp)
  refine ev_down (fun k (_ : Unit) e => impl_IsPoset.l1 k (x : Int) l (l.length : Int) (i : Int) (cast (items x)) ((cast (items x)).length : Int) e l) (fun e _ => ((items x).drop e).all (subB l x) && r) (items x).length (fun e _ => ∀ j, j ∈ (items x).take e → subB l x j = true) ?_ ?_
  · intro _ hall
    rw [List.drop_length, List.all_nil, Bool.true_and]
    exact ev_step (hnext (fun j hj => hall j (by rw [List.take_length]; exact hj))) (fun k => by simp only [impl_IsPoset.l1]; rw [if_neg (by rw [cast_length]; omega), wrap64_id (by omega) (by omega)])
  · intro e _ he hall ih
    have hw : wrap64 ((e : Int) + 1) = (e : Int) + 1 := wrap64_id (by omega) (by omega)
    obtain ⟨j, hj⟩ : ∃ j, (items x).getD e 0 = j := ⟨_, rfl⟩
    have hmem : j ∈ items x := by rw [← hj, List.getD_eq_getElem?_getD, List.getElem?_eq_getElem he, Option.getD_some]; exact List.getElem_mem he
    have hji : j < i := bit_lt hxi (mem_items.1 hmem).2
    obtain ⟨y, hy, hyj⟩ := rowB_bound (hp j hji)
    have c1 : (e : Int) < ((cast (items x)).length : Int) := by rw [cast_length]; omega
    have c2 : 0 ≤ (e : Int) := by omega
    have c3 : (e : Int) < ((cast (items x)).length : Int) := by rw [cast_length]; omega
    have c4 : 0 ≤ (j : Int) := by omega
    have c5 : (j : Int) < (l.length : Int) := by omega
    have hs : subB l x j = decide (sd y x = 0) := by unfold subB; rw [hy, Int.toNat_natCast]
    have hz := andNot_nat (p63 hyj (by omega)) (p63 hxi (by omega))
    rw [drop_step (items x) 0 he, hj, List.all_cons]
    by_cases h0 : sd y x = 0
    · have hsj : subB l x j = true := by rw [hs, h0]; simp
      rw [hsj, Bool.true_and]
      refine ev_step (ih () (fun j' hj' => ?_)) (fun k => ?_)
      · rw [List.take_add_one, List.mem_append] at hj'
        rcases hj' with h1 | h1
        · exact hall j' h1
        · rw [List.getElem?_eq_getElem he] at h1
          have : j' = j := by rw [← hj, List.getD_eq_getElem?_getD, List.getElem?_eq_getElem he]; simpa using h1
          rw [this]; exact hsj
      · simp only [impl_IsPoset.l1]
        rw [if_pos c1, if_pos c2, if_pos c3, rd_cast, hj, if_pos c4, if_pos c5, rd_nat, hy, hz, if_pos (sd_zero_nat.2 h0), hw]
    · have hsj : subB l x j = false := by rw [hs]; simp [h0]
      rw [hsj, Bool.false_and, Bool.false_and]
      refine ev_step (Ev.now _) (fun k => ?_)
      simp only [impl_IsPoset.l1]
      rw [if_pos c1, if_pos c2, if_pos c3, rd_cast, hj, if_pos c4, if_pos c5, rd_nat, hy, hz, if_neg (fun h => h0 (sd_zero_nat.1 h))]
theorem cell_sub (l : List Int) {i x : Nat} (hi : i ≤ 10) (hx : l.getD i 0 = (x : Int)) (hxi : x < 2 ^ i) : (items x).all (subB l x) = allFrom (cellB l i) 0 i := by
  rw [all_items _ hxi hi]
  congr 1
  funext j
  unfold cellB subB
  rw [hx, Int.toNat_natCast]
theorem IsPoset_l0 (l : List Int) (hn : l.length ≤ 10) : ∀ (i : Nat) (_ : Unit), i ≤ l.length → (∀ j, j < i → rowB l j = true) → Ev (fun k => impl_IsPoset.l0 k l (l.length : Int) (i : Int) l) (allFrom (rowB l) i l.length) := by
  refine ev_down (fun k (_ : Unit) i => impl_IsPoset.l0 k l (l.length : Int) i l) (fun i _ => allFrom (rowB l) i l.length) l.length (fun i _ => ∀ j, j < i → rowB l j = true) ?_ ?_
  · intro _ _
    rw [allFrom_end]
    exact ev_step (Ev.now _) (fun k => by simp only [impl_IsPoset.l0]; rw [if_neg (by omega)])
  · intro i _ hi hp ih
    have hm := mask_sub (i := i) (by omega)
    have c1 : (i : Int) < (l.length : Int) := by omega
    have c2 : 0 ≤ (i : Int) := by omega
    rw [allFrom_step _ hi]
    by_cases hb : 0 ≤ l.getD i 0 ∧ l.getD i 0 ≤ ((2 ^ i - 1 : Nat) : Int)
    · have h1 := Nat.one_le_two_pow (n := i)
      obtain ⟨x, hx⟩ : ∃ x : Nat, l.getD i 0 = (x : Int) := ⟨(l.getD i 0).toNat, by omega⟩
      have hxi : x < 2 ^ i := by omega
      have hr : rowB l i = allFrom (cellB l i) 0 i := by unfold rowB; rw [decide_eq_true hb, Bool.true_and]
      have hsub := cell_sub l (by omega) hx hxi
      have hgo := IsPoset_l1 l i hn hi hp hxi (allFrom (rowB l) (i + 1) l.length) (fun hall => ih () (fun j hj => by
        rcases Nat.lt_or_ge j i with h | h
        · exact hp j h
        · rw [show j = i by omega, hr, ← hsub]
          exact List.all_eq_true.2 hall)) 0 () (by omega) (fun _ h => absurd h (by simp))
      rw [List.drop_zero, hsub] at hgo
      rw [hr]
      refine ev_stepb (F := fun k t => impl_IsPoset.l1 k (x : Int) l (l.length : Int) (i : Int) t (t.length : Int) 0 l) (items_ev (p63 hxi (by omega))) hgo (fun k => ?_)
      simp only [impl_IsPoset.l0]
      rw [if_pos c1, if_pos c2, if_pos c1, rd_nat, hm, within_is, decide_eq_true hb, hx, Option.bind_some, if_pos rfl]
    · have hr : rowB l i = false := by unfold rowB; rw [decide_eq_false hb, Bool.false_and]
      rw [hr, Bool.false_and]
      exact ev_step (Ev.now _) (fun k => by simp only [impl_IsPoset.l0]; rw [if_pos c1, if_pos c2, if_pos c1, rd_nat, hm, within_is, decide_eq_false hb, Option.bind_some, if_neg (by decide)])
theorem IsPoset_ev (l : List Int) : Ev (fun k => impl_IsPoset.f k l) (goodB l) := by
  unfold impl_IsPoset.f impl_Poset_n.f goodB
  by_cases h : 1 ≤ (l.length : Int) ∧ (l.length : Int) ≤ 10
  · rw [decide_eq_true h, Bool.true_and]
    exact ev_as (IsPoset_l0 l (by omega) 0 () (by omega) (fun _ h => absurd h (by omega))) (fun k => by rw [Option.bind_some, within_is, decide_eq_true h, Option.bind_some, if_pos rfl]; rfl)
  · rw [decide_eq_false h, Bool.false_and]
    exact ev_as (Ev.now _) (fun k => by rw [Option.bind_some, within_is, decide_eq_false h, Option.bind_some, if_neg (by decide)])

/-! ### a good poset as natural numbers -/
structure Good (l : List Int) (P : List Nat) : Prop where
  eq : l = cast P
  n1 : 1 ≤ P.length
  n10 : P.length ≤ 10
  lt : ∀ i, i < P.length → P.getD i 0 < 2 ^ i
  tr : ∀ i, i < P.length → ∀ j, (P.getD i 0).testBit j = true → sd (P.getD j 0) (P.getD i 0) = 0
theorem good_of {l : List Int} (h : goodB l = true) : ∃ P, Good l P := by
  unfold goodB at h
  rw [Bool.and_eq_true, decide_eq_true_eq, allFrom_iff] at h
  obtain ⟨hl, hr⟩ := h
  refine ⟨l.map Int.toNat, ?_, by simp; omega, by simp; omega, ?_, ?_⟩
  · unfold cast
    rw [List.map_map]
    apply List.ext_getElem
    · simp
    · intro i h1 h2
      obtain ⟨x, hx, _⟩ := rowB_bound (hr i (by omega) h1)
      rw [List.getD_eq_getElem?_getD, List.getElem?_eq_getElem h1, Option.getD_some] at hx
      simp [hx]
  · intro i hi
    rw [List.length_map] at hi
    obtain ⟨x, hx, hxi⟩ := rowB_bound (hr i (by omega) hi)
    have : (l.map Int.toNat).getD i 0 = x := by
      rw [List.getD_eq_getElem?_getD, List.getElem?_map]
      rw [List.getD_eq_getElem?_getD] at hx
      rw [List.getElem?_eq_getElem hi] at hx ⊢
      simp at hx ⊢
      omega
    rw [this]; exact hxi
  · intro i hi j hj
    rw [List.length_map] at hi
    have hD : ∀ e, (l.map Int.toNat).getD e 0 = (l.getD e 0).toNat := fun e => by
      simp only [List.getD_eq_getElem?_getD, List.getElem?_map]
      cases l[e]? <;> simp
    rw [hD] at hj ⊢
    rw [hD]
    have h2 := hr i (by omega) hi
    obtain ⟨x, hx, hxi⟩ := rowB_bound h2
    unfold rowB at h2
    rw [Bool.and_eq_true, allFrom_iff] at h2
    have hji : j < i := by rw [hx, Int.toNat_natCast] at hj; exact bit_lt hxi hj
    have h3 := h2.2 j (by omega) hji
    unfold cellB at h3
    rw [hj] at h3
    simpa using h3
theorem Good.length {l : List Int} {P : List Nat} (h : Good l P) : (l.length : Int) = (P.length : Int) := by rw [h.eq]; simp
theorem Good.lt63 {l : List Int} {P : List Nat} (h : Good l P) (i : Nat) : P.getD i 0 < 2 ^ 63 := by
  rcases Nat.lt_or_ge i P.length with h1 | h1
  · exact p63 (h.lt i h1) (by have := h.n10; omega)
  · rw [List.getD_eq_getElem?_getD, List.getElem?_eq_none h1]; decide
theorem Good.ltn {l : List Int} {P : List Nat} (h : Good l P) (i : Nat) : P.getD i 0 < 2 ^ P.length := by
  rcases Nat.lt_or_ge i P.length with h1 | h1
  · exact Nat.lt_of_lt_of_le (h.lt i h1) (two_pow_le (by omega))
  · rw [List.getD_eq_getElem?_getD, List.getElem?_eq_none h1]; exact Nat.two_pow_pos _
end Go.Proofs.Ytpfolfplebpeaaa.B
