/- Toggles at two elements commute on all ideals just if neither covers the other. -/
import Derived.Test.YtkadihmhaoghfaaDoorG
import Derived.Test.YtkadihmhaoghfaaDoorMrow
namespace Go.Proofs.YtkadihmhaoghfaaDoor.B
open Go.RowKit Go.Proofs.YtkadihmhaoghfaaDoor.M Go.Proofs.YtkadihmhaoghfaaDoorW.PrintWords Go.Proofs.YtkadihmhaoghfaaDoorW.PrintLast Go.Proofs.YtkadihmhaoghfaaDoorW.PrintMore
attribute [local irreducible] Go.bits shl shr sd
variable {l : List Int} {P : List Nat} (hP : Good l P)
include hP
/-- What an element covers. -/
def cov (P : List Nat) (i : Nat) : Nat := tp P (P.getD i 0)
omit hP in
theorem cov_bit (i j : Nat) : (cov P i).testBit j = true ↔ (P.getD i 0).testBit j = true ∧ ∀ k, k < P.length → (P.getD i 0).testBit k = true → (P.getD k 0).testBit j = false := tp_bit P _ j
def xb (s d e : Nat) (a b : Bool) (j : Nat) : Bool := if j = d then a else if j = e then b else s.testBit j
omit hP in
theorem xb_swap {d e : Nat} (h : d ≠ e) (s : Nat) (a b : Bool) : xb s d e a b = xb s e d b a := by
  funext j
  unfold xb
  by_cases h1 : j = d
  · subst h1; simp [h]
  · simp [h1]
def closedB (P : List Nat) (f : Nat → Bool) : Prop := ∀ i, i < P.length → f i = true → ∀ j, (P.getD i 0).testBit j = true → f j = true
omit hP in
theorem closed_three {s d e : Nat} (h : d ≠ e) (h1 : closedB P (xb s d e true false)) (h2 : closedB P (xb s d e false true)) : closedB P (xb s d e false false) ∧ closedB P (xb s d e true true) := by
  constructor
  · intro i hi hb j hj
    have hid : i ≠ d := by rintro rfl; simp [xb] at hb
    have hie : i ≠ e := by rintro rfl; simp [xb] at hb
    have hs : s.testBit i = true := by simpa [xb, hid, hie] using hb
    have a1 := h1 i hi (by simp [xb, hid, hie, hs]) j hj
    have a2 := h2 i hi (by simp [xb, hid, hie, hs]) j hj
    have hjd : j ≠ d := by rintro rfl; simp [xb] at a2
    have hje : j ≠ e := by rintro rfl; simp [xb, hjd] at a1
    simpa [xb, hjd, hje] using a1
  · intro i hi hb j hj
    have key : xb s d e true false i = true ∨ xb s d e false true i = true := by
      unfold xb at hb ⊢
      by_cases hd : i = d
      · left; simp [hd]
      · by_cases he : i = e
        · right; simp [he, Ne.symm h]
        · left; simpa [hd, he] using hb
    rcases key with hk | hk
    · have a := h1 i hi hk j hj
      unfold xb at a ⊢
      by_cases hd : j = d
      · simp [hd]
      · by_cases he : j = e
        · simp [he]
        · simpa [hd, he] using a
    · have a := h2 i hi hk j hj
      unfold xb at a ⊢
      by_cases hd : j = d
      · simp [hd]
      · by_cases he : j = e
        · simp [he]
        · simpa [hd, he] using a
theorem closed_one {s d e : Nat} (h : d ≠ e) (hc : (cov P e).testBit d = false) (h0 : closedB P (xb s d e false false)) (h2 : closedB P (xb s d e true true)) : closedB P (xb s d e false true) := by
  intro i hi hb j hj
  have hid : i ≠ d := by rintro rfl; simp [xb] at hb
  by_cases hie : i = e
  · subst hie
    have a := h2 i hi (by simp [xb]) j hj
    by_cases hjd : j = d
    · subst hjd
      exfalso
      have hn : ¬ ((cov P i).testBit j = true) := by rw [hc]; decide
      rw [cov_bit] at hn
      apply hn
      refine ⟨hj, fun k hk hik => ?_⟩
      cases hkj : (P.getD k 0).testBit j with
      | false => rfl
      | true =>
        have hki : k ≠ i := by have := (below_lt hP hik).1; omega
        have hkd : k ≠ j := by have := (below_lt hP hkj).1; omega
        have a3 := h2 i hi (by simp [xb]) k hik
        have hks : s.testBit k = true := by simpa [xb, hkd, hki] using a3
        have a4 := h0 k hk (by simp [xb, hkd, hki, hks]) j hkj
        simp [xb] at a4
    · unfold xb at a ⊢
      by_cases he : j = i
      · simp [he, hid]
      · simpa [hjd, he] using a
  · have hs : s.testBit i = true := by simpa [xb, hid, hie] using hb
    have a := h0 i hi (by simp [xb, hid, hie, hs]) j hj
    have hjd : j ≠ d := by rintro rfl; simp [xb] at a
    have hje : j ≠ e := by rintro rfl; simp [xb] at a
    simpa [xb, hjd, hje] using a
/-- The set with bits d and e put. -/
def xs (s d e : Nat) (a b : Bool) : Nat := sd (sd s (2 ^ d)) (2 ^ e) ||| ((if a = true then 2 ^ d else 0) ||| (if b = true then 2 ^ e else 0))
omit hP in
theorem xs_bit {s d e : Nat} (h : d ≠ e) (a b : Bool) (j : Nat) : (xs s d e a b).testBit j = xb s d e a b j := by
  unfold xs xb
  rw [Nat.testBit_or, Nat.testBit_or, sd_bit, sd_bit]
  have ha : (if a = true then 2 ^ d else 0).testBit j = (a && decide (d = j)) := by cases a <;> simp [Nat.testBit_two_pow]
  have hb : (if b = true then 2 ^ e else 0).testBit j = (b && decide (e = j)) := by cases b <;> simp [Nat.testBit_two_pow]
  rw [ha, hb, Nat.testBit_two_pow, Nat.testBit_two_pow]
  by_cases h1 : j = d
  · subst h1
    simp [Ne.symm h]
  · by_cases h2 : j = e
    · subst h2
      simp [h]
      intro h3; exact absurd h3 h1
    · simp [h1, h2, Ne.symm h1, Ne.symm h2]
omit hP in
theorem xs_idl {s d e : Nat} (h : d ≠ e) (a b : Bool) : idl P (xs s d e a b) = true ↔ closedB P (xb s d e a b) := by
  rw [idl_iff]
  unfold closedB
  simp only [xs_bit h]
omit hP in
theorem xs_self {s d e : Nat} (h : d ≠ e) : xs s d e (s.testBit d) (s.testBit e) = s := by
  apply Nat.eq_of_testBit_eq
  intro j
  rw [xs_bit h]
  unfold xb
  by_cases h1 : j = d
  · simp [h1]
  · by_cases h2 : j = e
    · subst h2; simp [h1]
    · simp [h1, h2]
omit hP in
theorem xs_d {s d e : Nat} (h : d ≠ e) (a b : Bool) : xs s d e a b ^^^ 2 ^ d = xs s d e (!a) b := by
  apply Nat.eq_of_testBit_eq
  intro j
  rw [xor_bit, xs_bit h, xs_bit h]
  unfold xb
  by_cases h1 : j = d
  · subst h1; simp
  · simp [h1, Ne.symm h1]
omit hP in
theorem xs_e {s d e : Nat} (h : d ≠ e) (a b : Bool) : xs s d e a b ^^^ 2 ^ e = xs s d e a (!b) := by
  apply Nat.eq_of_testBit_eq
  intro j
  rw [xor_bit, xs_bit h, xs_bit h]
  unfold xb
  by_cases h1 : j = e
  · subst h1; simp [Ne.symm h]
  · by_cases h2 : j = d
    · simp [h2, Ne.symm h]
    · simp [h1, h2, Ne.symm h1]
omit hP in
theorem four (B : Bool → Bool → Bool) (X : Bool → Bool → Nat) (f1 : B false false = true → B true true = true → B false true = true) (f2 : B false false = true → B true true = true → B true false = true)
    (f3 : B true false = true → B false true = true → B false false = true ∧ B true true = true) (a b : Bool) (h : B a b = true) :
    (if B (!a) b = true then (if B (!a) (!b) = true then X (!a) (!b) else X (!a) b) else (if B a (!b) = true then X a (!b) else X a b)) = (if B a (!b) = true then (if B (!a) (!b) = true then X (!a) (!b) else X a (!b)) else (if B (!a) b = true then X (!a) b else X a b)) := by
  revert f1 f2 f3 h
  cases a <;> cases b <;> cases h00 : B false false <;> cases h01 : B false true <;> cases h10 : B true false <;> cases h11 : B true true <;> simp [h00, h01, h10, h11]
theorem commute {d e : Nat} (hd : (cov P e).testBit d = false) (he : (cov P d).testBit e = false) {s : Nat} (hs : idl P s = true) : tog P (tog P s d) e = tog P (tog P s e) d := by
  by_cases h : d = e
  · rw [h]
  have f1 : idl P (xs s d e false false) = true → idl P (xs s d e true true) = true → idl P (xs s d e false true) = true := by
    rw [xs_idl h, xs_idl h, xs_idl h]
    exact closed_one hP h hd
  have f2 : idl P (xs s d e false false) = true → idl P (xs s d e true true) = true → idl P (xs s d e true false) = true := by
    rw [xs_idl h, xs_idl h, xs_idl h, xb_swap h, xb_swap h, xb_swap h]
    exact closed_one hP (Ne.symm h) he
  have f3 : idl P (xs s d e true false) = true → idl P (xs s d e false true) = true → idl P (xs s d e false false) = true ∧ idl P (xs s d e true true) = true := by
    rw [xs_idl h, xs_idl h, xs_idl h, xs_idl h]
    exact closed_three h
  have hs' : idl P (xs s d e (s.testBit d) (s.testBit e)) = true := by rw [xs_self h]; exact hs
  have H := four (fun a b => idl P (xs s d e a b)) (fun a b => xs s d e a b) f1 f2 f3 _ _ hs'
  have hd' : ∀ a b, tog P (xs s d e a b) d = if idl P (xs s d e (!a) b) = true then xs s d e (!a) b else xs s d e a b := fun a b => by unfold tog; rw [xs_d h]
  have he' : ∀ a b, tog P (xs s d e a b) e = if idl P (xs s d e a (!b)) = true then xs s d e a (!b) else xs s d e a b := fun a b => by unfold tog; rw [xs_e h]
  have e0 : s = xs s d e (s.testBit d) (s.testBit e) := (xs_self h).symm
  revert H e0
  generalize s.testBit d = a
  generalize s.testBit e = b
  intro H e0
  generalize hX : (fun a b => xs s d e a b) = X at *
  have hd2 : ∀ a b, tog P (X a b) d = if idl P (X (!a) b) = true then X (!a) b else X a b := fun a b => by rw [← hX]; exact hd' a b
  have he2 : ∀ a b, tog P (X a b) e = if idl P (X a (!b)) = true then X a (!b) else X a b := fun a b => by rw [← hX]; exact he' a b
  have e2 : s = X a b := by rw [← hX]; exact e0
  have H2 : (if idl P (X (!a) b) = true then (if idl P (X (!a) (!b)) = true then X (!a) (!b) else X (!a) b) else (if idl P (X a (!b)) = true then X a (!b) else X a b)) = (if idl P (X a (!b)) = true then (if idl P (X (!a) (!b)) = true then X (!a) (!b) else X a (!b)) else (if idl P (X (!a) b) = true then X (!a) b else X a b)) := by rw [← hX]; exact H
  clear H hd' he' f1 f2 f3 hX e0 hs'
  subst e2
  rw [hd2, he2]
  refine Eq.trans ?_ (H2.trans ?_)
  · split
    · exact he2 _ _
    · exact he2 _ _
  · split
    · exact (hd2 _ _).symm
    · exact (hd2 _ _).symm
theorem row_idl (e : Nat) : idl P (P.getD e 0) = true := by
  rw [idl_iff]
  intro i _ hi j hj
  exact below_trans hP hi hj
theorem no_commute {d e : Nat} (he : e < P.length) (hc : (cov P e).testBit d = true) : ∃ s, s < 2 ^ P.length ∧ idl P s = true ∧ tog P (tog P s d) e ≠ tog P (tog P s e) d := by
  obtain ⟨hb, hk⟩ := (cov_bit e d).1 hc
  have hde := (below_lt hP hb).1
  have sb : ∀ j, (sd (P.getD e 0) (2 ^ d)).testBit j = true ↔ (P.getD e 0).testBit j = true ∧ j ≠ d := by
    intro j
    rw [sd_bit, Nat.testBit_two_pow]
    by_cases h : d = j
    · subst h; simp
    · simp [h, Ne.symm h]
  have hxd : sd (P.getD e 0) (2 ^ d) ^^^ 2 ^ d = P.getD e 0 := by
    apply Nat.eq_of_testBit_eq
    intro j
    rw [xor_bit, sd_bit, Nat.testBit_two_pow]
    by_cases h : d = j
    · subst h; rw [if_pos rfl, hb]; simp
    · simp [h]
  have h1 : idl P (sd (P.getD e 0) (2 ^ d)) = true := by
    rw [idl_iff]
    intro i hi hs j hj
    have hs' := (sb i).1 hs
    refine (sb j).2 ⟨below_trans hP hs'.1 hj, ?_⟩
    rintro rfl
    have := hk i hi hs'.1
    rw [this] at hj
    cases hj
  have h2 : idl P (sd (P.getD e 0) (2 ^ d) ^^^ 2 ^ e) = false := by
    cases h : idl P (sd (P.getD e 0) (2 ^ d) ^^^ 2 ^ e) with
    | false => rfl
    | true =>
      have hee : (P.getD e 0).testBit e = false := by
        cases h' : (P.getD e 0).testBit e with
        | false => rfl
        | true => have := (below_lt hP h').1; omega
      have hse : (sd (P.getD e 0) (2 ^ d)).testBit e = false := by rw [sd_bit, hee]; rfl
      have h3 := (idl_iff P _).1 h e he (by rw [xor_bit, if_pos rfl, hse]; rfl) d hb
      rw [xor_bit, if_neg (by omega), sb] at h3
      exact absurd rfl h3.2
  have h3 : idl P (P.getD e 0 ^^^ 2 ^ e) = true := by
    rw [idl_iff]
    intro i hi hs j hj
    have hji := (below_lt hP hj).1
    rw [xor_bit] at hs ⊢
    by_cases hie : e = i
    · subst hie
      rw [if_neg (by omega)]
      exact hj
    · rw [if_neg hie] at hs
      have hij := (below_lt hP hs).1
      rw [if_neg (by omega)]
      exact below_trans hP hs hj
  refine ⟨sd (P.getD e 0) (2 ^ d), sd_lt (hP.ltn e), h1, ?_⟩
  have t1 : tog P (sd (P.getD e 0) (2 ^ d)) d = P.getD e 0 := by
    unfold tog
    rw [hxd, row_idl hP, if_pos rfl]
  have t2 : tog P (sd (P.getD e 0) (2 ^ d)) e = sd (P.getD e 0) (2 ^ d) := by
    unfold tog
    rw [h2, if_neg (by decide)]
  have t3 : tog P (P.getD e 0) e = P.getD e 0 ^^^ 2 ^ e := by
    unfold tog
    rw [h3, if_pos rfl]
  rw [t1, t2, t1, t3]
  intro h
  have := congrArg (fun x => x.testBit e) h
  rw [xor_bit, if_pos rfl] at this
  cases h' : (P.getD e 0).testBit e <;> rw [h'] at this <;> cases this
end Go.Proofs.YtkadihmhaoghfaaDoor.B
