/- Toggles and rowmotion as plain laws on sets told by their bits. -/
import Derived.Test.YtkadihmhaoghfaaDoorG
namespace Go.Proofs.YtkadihmhaoghfaaDoor.B
open Go.Proofs.YtkadihmhaoghfaaDoor.M
/-- A set toggled at an element. -/
def tog (P : List Nat) (s e : Nat) : Nat := if idl P (s ^^^ 2 ^ e) then s ^^^ 2 ^ e else s
theorem tog_lt {P : List Nat} {s e : Nat} (hs : s < 2 ^ P.length) (he : e < P.length) : tog P s e < 2 ^ P.length := by
  unfold tog
  split
  · exact Nat.xor_lt_two_pow hs (Nat.pow_lt_pow_right (by decide) he)
  · exact hs
theorem xor_bit (s e j : Nat) : (s ^^^ 2 ^ e).testBit j = if e = j then !s.testBit j else s.testBit j := by
  rw [Nat.testBit_xor, Nat.testBit_two_pow]
  by_cases h : e = j
  · simp [h]
  · simp [h]
theorem tog_idl {P : List Nat} {s e : Nat} (hs : idl P s = true) : idl P (tog P s e) = true := by
  unfold tog
  split
  · assumption
  · exact hs
/-- The ideal behind rowmotion. -/
def rw_ (P : List Nat) (s : Nat) : Nat := dn P (bm P (sd (2 ^ P.length - 1) s))
/-- The ideal whose rowmotion it is: what lies above nothing that is greatest in it. -/
def bk (P : List Nat) (s : Nat) : Nat := foldFrom (fun o i => if (tp P s).testBit i then o else (if P.getD i 0 &&& tp P s = 0 then o ||| 2 ^ i else o)) 0 P.length 0
theorem bk_bit (P : List Nat) (s j : Nat) : (bk P s).testBit j = true ↔ j < P.length ∧ (tp P s).testBit j = false ∧ ∀ i, (P.getD j 0).testBit i = true → (tp P s).testBit i = false := by
  have H := foldFrom_inv (fun o i => if (tp P s).testBit i then o else (if P.getD i 0 &&& tp P s = 0 then o ||| 2 ^ i else o)) (fun m o => o.testBit j = true ↔ j < m ∧ (tp P s).testBit j = false ∧ P.getD j 0 &&& tp P s = 0) P.length ?_ 0 0 (by omega) ?_
  · rw [← and_eq_zero]; exact H
  · intro i o hi hQ
    cases hb : (tp P s).testBit i with
    | false =>
      by_cases h0 : P.getD i 0 &&& tp P s = 0
      · simp only [h0, Bool.false_eq_true, if_true, if_false]
        rw [Nat.testBit_or, Bool.or_eq_true, hQ, Nat.testBit_two_pow, decide_eq_true_eq]
        constructor
        · rintro (⟨h1, h2⟩ | rfl)
          · exact ⟨by omega, h2⟩
          · exact ⟨by omega, hb, h0⟩
        · rintro ⟨h1, h2⟩
          rcases Nat.lt_or_ge j i with h4 | h4
          · exact .inl ⟨h4, h2⟩
          · exact .inr (by omega)
      · simp only [h0, Bool.false_eq_true, if_false]
        rw [hQ]
        constructor
        · rintro ⟨h1, h2⟩; exact ⟨by omega, h2⟩
        · rintro ⟨h1, h2, h3⟩
          rcases Nat.lt_or_ge j i with h4 | h4
          · exact ⟨h4, h2, h3⟩
          · rw [show j = i by omega] at h3; exact absurd h3 h0
    | true =>
      simp only [if_true]
      rw [hQ]
      constructor
      · rintro ⟨h1, h2⟩; exact ⟨by omega, h2⟩
      · rintro ⟨h1, h2, h3⟩
        rcases Nat.lt_or_ge j i with h4 | h4
        · exact ⟨h4, h2, h3⟩
        · rw [show j = i by omega, hb] at h2; cases h2
  · simp
theorem bk_lt (P : List Nat) (s : Nat) : bk P s < 2 ^ P.length := lt_of_bits (fun j hj => ((bk_bit P s j).1 hj).1)
section
variable {l : List Int} {P : List Nat} (hP : Good l P)
include hP
theorem below_lt {i j : Nat} (h : (P.getD i 0).testBit j = true) : j < i ∧ i < P.length := by
  rcases Nat.lt_or_ge i P.length with h1 | h1
  · exact ⟨bit_lt (hP.lt i h1) h, h1⟩
  · rw [List.getD_eq_getElem?_getD, List.getElem?_eq_none h1] at h
    simp at h
theorem below_trans {i j k : Nat} (h : (P.getD i 0).testBit j = true) (h2 : (P.getD j 0).testBit k = true) : (P.getD i 0).testBit k = true := by
  have := hP.tr i (below_lt hP h).2 j h
  exact sd_eq_zero.1 this k h2
theorem idl_closed {s : Nat} (h : idl P s = true) {i j : Nat} (hs : s.testBit i = true) (hj : (P.getD i 0).testBit j = true) : s.testBit j = true :=
  (idl_iff P s).1 h i (below_lt hP hj).2 hs j hj
theorem dn_idl (s : Nat) : idl P (dn P s) = true := by
  rw [idl_iff]
  intro i hi hs j hj
  rw [dn_bit] at hs ⊢
  rcases hs with h | ⟨i', h1, h2, h3⟩
  · exact .inr ⟨i, hi, h, hj⟩
  · exact .inr ⟨i', h1, h2, below_trans hP h3 hj⟩
theorem dn_lt {s : Nat} (hs : s < 2 ^ P.length) : dn P s < 2 ^ P.length := by
  apply lt_of_bits
  intro j hj
  rw [dn_bit] at hj
  rcases hj with h | ⟨i, h1, h2, h3⟩
  · exact bit_lt hs h
  · have := below_lt hP h3; omega
omit hP in
theorem tp_lt {s : Nat} (hs : s < 2 ^ P.length) : tp P s < 2 ^ P.length := lt_of_bits (fun j hj => bit_lt hs ((tp_bit P s j).1 hj).1)
omit hP in
theorem bm_lt (s : Nat) : bm P s < 2 ^ P.length := lt_of_bits (fun j hj => ((bm_bit P s j).1 hj).1)
theorem rw_lt (s : Nat) : rw_ P s < 2 ^ P.length := dn_lt hP (bm_lt _)
theorem rw_idl (s : Nat) : idl P (rw_ P s) = true := dn_idl hP _
theorem bk_idl (s : Nat) : idl P (bk P s) = true := by
  rw [idl_iff]
  intro i hi hs j hj
  rw [bk_bit] at hs ⊢
  exact ⟨by have := below_lt hP hj; omega, hs.2.2 j hj, fun i' hi' => hs.2.2 i' (below_trans hP hj hi')⟩
omit hP in
theorem all_bit {n j : Nat} {s : Nat} : (sd (2 ^ n - 1) s).testBit j = true ↔ j < n ∧ s.testBit j = false := by
  rw [sd_bit, Nat.testBit_two_pow_sub_one, Bool.and_eq_true, decide_eq_true_eq, Bool.not_eq_true']
/-- Each element outside of an ideal lies over a least one, or is one. -/
theorem least_below {s : Nat} {j : Nat} (hj : j < P.length) (hs : s.testBit j = false) : ∃ i, (bm P (sd (2 ^ P.length - 1) s)).testBit i = true ∧ (i = j ∨ (P.getD j 0).testBit i = true) := by
  induction j using Nat.strongRecOn with
  | _ j ih =>
    by_cases h : ∃ i, (P.getD j 0).testBit i = true ∧ s.testBit i = false
    · obtain ⟨i, h1, h2⟩ := h
      have hl := below_lt hP h1
      obtain ⟨i', h3, h4⟩ := ih i hl.1 (by omega) h2
      refine ⟨i', h3, .inr ?_⟩
      rcases h4 with rfl | h4
      · exact h1
      · exact below_trans hP h1 h4
    · refine ⟨j, ?_, .inl rfl⟩
      rw [bm_bit, all_bit, and_eq_zero]
      refine ⟨hj, ⟨hj, hs⟩, fun i hi => ?_⟩
      cases hc : (sd (2 ^ P.length - 1) s).testBit i with
      | false => rfl
      | true => exact absurd ⟨i, hi, (all_bit.1 hc).2⟩ h
/-- Each element of an ideal lies below a greatest one, or is one. -/
theorem greatest_above {s : Nat} (hsl : s < 2 ^ P.length) {j : Nat} (hs : s.testBit j = true) : ∃ i, (tp P s).testBit i = true ∧ (i = j ∨ (P.getD i 0).testBit j = true) := by
  obtain ⟨d, hd⟩ : ∃ d, P.length - j = d := ⟨_, rfl⟩
  induction d using Nat.strongRecOn generalizing j with
  | _ d ih =>
    have hjn := bit_lt hsl hs
    by_cases h : ∃ i, i < P.length ∧ s.testBit i = true ∧ (P.getD i 0).testBit j = true
    · obtain ⟨i, h1, h2, h3⟩ := h
      have hl := below_lt hP h3
      obtain ⟨i', h4, h5⟩ := ih (P.length - i) (by omega) h2 rfl
      refine ⟨i', h4, .inr ?_⟩
      rcases h5 with rfl | h5
      · exact h3
      · exact below_trans hP h5 h3
    · refine ⟨j, ?_, .inl rfl⟩
      rw [tp_bit]
      refine ⟨hs, fun i hi hsi => ?_⟩
      cases hc : (P.getD i 0).testBit j with
      | false => rfl
      | true => exact absurd ⟨i, hi, hsi, hc⟩ h
/-- The greatest elements of the ideal behind rowmotion are the least ones outside. -/
theorem tp_rw {s : Nat} (j : Nat) : (tp P (rw_ P s)).testBit j = (bm P (sd (2 ^ P.length - 1) s)).testBit j := by
  rw [Bool.eq_iff_iff, tp_bit]
  unfold rw_
  constructor
  · rintro ⟨h1, h2⟩
    rw [dn_bit] at h1
    rcases h1 with h1 | ⟨i, h3, h4, h5⟩
    · exact h1
    · have := h2 i h3 (by rw [dn_bit]; exact .inl h4)
      rw [h5] at this; cases this
  · intro h
    refine ⟨by rw [dn_bit]; exact .inl h, fun i hi hs => ?_⟩
    cases hc : (P.getD i 0).testBit j with
    | false => rfl
    | true =>
      exfalso
      have hb := (bm_bit _ _ _).1 h
      have key : ∀ i', (bm P (sd (2 ^ P.length - 1) s)).testBit i' = true → (P.getD i' 0).testBit j = true → False := fun i' h1 h2 => by
        have h3 := (bm_bit _ _ _).1 h1
        have := and_eq_zero.1 h3.2.2 j h2
        rw [hb.2.1] at this; cases this
      rw [dn_bit] at hs
      rcases hs with h1 | ⟨i', h3, h4, h5⟩
      · exact key i h1 hc
      · exact key i' h4 (below_trans hP h5 hc)
/-- Rowmotion undone. -/
theorem bk_rw {s : Nat} (hsl : s < 2 ^ P.length) (hs : idl P s = true) : bk P (rw_ P s) = s := by
  apply Nat.eq_of_testBit_eq
  intro j
  rw [Bool.eq_iff_iff, bk_bit]
  constructor
  · rintro ⟨h1, h2, h3⟩
    cases hc : s.testBit j with
    | true => rfl
    | false =>
      obtain ⟨i, h4, h5⟩ := least_below hP h1 hc
      rw [← tp_rw hP] at h4
      rcases h5 with rfl | h5
      · rw [h4] at h2; cases h2
      · rw [h3 i h5] at h4; cases h4
  · intro h
    refine ⟨bit_lt hsl h, ?_, fun i hi => ?_⟩
    · rw [tp_rw hP]
      cases hc : (bm P (sd (2 ^ P.length - 1) s)).testBit j with
      | false => rfl
      | true => have := (all_bit.1 ((bm_bit _ _ _).1 hc).2.1).2; rw [h] at this; cases this
    · rw [tp_rw hP]
      cases hc : (bm P (sd (2 ^ P.length - 1) s)).testBit i with
      | false => rfl
      | true => have := (all_bit.1 ((bm_bit _ _ _).1 hc).2.1).2; rw [idl_closed hP hs h hi] at this; cases this
/-- And the other way. -/
theorem rw_bk {s : Nat} (hsl : s < 2 ^ P.length) (hs : idl P s = true) : rw_ P (bk P s) = s := by
  apply Nat.eq_of_testBit_eq
  intro j
  have hbm : ∀ i, (bm P (sd (2 ^ P.length - 1) (bk P s))).testBit i = true ↔ (tp P s).testBit i = true := by
    intro i
    rw [bm_bit, all_bit, and_eq_zero]
    constructor
    · rintro ⟨h1, ⟨_, h2⟩, h3⟩
      cases hc : (tp P s).testBit i with
      | true => rfl
      | false =>
        exfalso
        have : ¬ ((bk P s).testBit i = true) := by rw [h2]; decide
        rw [bk_bit] at this
        apply this
        refine ⟨h1, hc, fun i' hi' => ?_⟩
        have h4 := h3 i' hi'
        have h5 : (bk P s).testBit i' = true := by
          cases hx : (bk P s).testBit i' with
          | true => rfl
          | false =>
            have : (sd (2 ^ P.length - 1) (bk P s)).testBit i' = true := all_bit.2 ⟨by have := below_lt hP hi'; omega, hx⟩
            rw [h4] at this; cases this
        exact ((bk_bit _ _ _).1 h5).2.1
    · intro h
      have h1 : i < P.length := bit_lt (tp_lt hsl) h
      have hnb : (bk P s).testBit i = false := by
        cases hx : (bk P s).testBit i with
        | false => rfl
        | true => have := ((bk_bit _ _ _).1 hx).2.1; rw [h] at this; cases this
      refine ⟨h1, ⟨h1, hnb⟩, fun i' hi' => ?_⟩
      have hl := below_lt hP hi'
      have htop := (tp_bit _ _ _).1 h
      have hin : (bk P s).testBit i' = true := by
        rw [bk_bit]
        refine ⟨by omega, ?_, fun i2 h2 => ?_⟩
        · cases hx : (tp P s).testBit i' with
          | false => rfl
          | true => have := ((tp_bit _ _ _).1 hx).2 i h1 htop.1; rw [hi'] at this; cases this
        · cases hx : (tp P s).testBit i2 with
          | false => rfl
          | true => have := ((tp_bit _ _ _).1 hx).2 i h1 htop.1; rw [below_trans hP hi' h2] at this; cases this
      rw [sd_bit, hin]; simp
  unfold rw_
  rw [Bool.eq_iff_iff, dn_bit]
  constructor
  · rintro (h | ⟨i, h1, h2, h3⟩)
    · exact ((tp_bit _ _ _).1 ((hbm j).1 h)).1
    · exact idl_closed hP hs ((tp_bit _ _ _).1 ((hbm i).1 h2)).1 h3
  · intro h
    obtain ⟨i, h1, h2⟩ := greatest_above hP hsl h
    rcases h2 with rfl | h2
    · exact .inl ((hbm i).2 h1)
    · exact .inr ⟨i, bit_lt (tp_lt hsl) h1, (hbm i).2 h1, h2⟩
/-- All toggles, from the first element on, are rowmotion back. -/
theorem toggles_bk {s : Nat} (hsl : s < 2 ^ P.length) (hs : idl P s = true) : foldFrom (tog P) 0 P.length s = bk P s := by
  have H := foldFrom_inv (tog P) (fun m o => o < 2 ^ P.length ∧ idl P o = true ∧ ∀ j, o.testBit j = if j < m then (bk P s).testBit j else s.testBit j) P.length ?_ 0 s (by omega) ⟨hsl, hs, fun j => by rw [if_neg (by omega)]⟩
  · obtain ⟨h1, _, h3⟩ := H
    apply Nat.eq_of_testBit_eq
    intro j
    rw [h3]
    split
    · rfl
    · rename_i hj
      rw [Nat.testBit_lt_two_pow (Nat.lt_of_lt_of_le hsl (two_pow_le (by omega))), Nat.testBit_lt_two_pow (Nat.lt_of_lt_of_le (bk_lt P s) (two_pow_le (by omega)))]
  · rintro m o hm ⟨hol, hoi, hob⟩
    refine ⟨tog_lt hol hm, tog_idl hoi, fun j => ?_⟩
    have hom : o.testBit m = s.testBit m := by rw [hob, if_neg (by omega)]
    -- what the toggle asks is just what the answer has
    have key : idl P (o ^^^ 2 ^ m) = true ↔ (bk P s).testBit m = !s.testBit m := by
      cases hsm : s.testBit m with
      | true =>
        rw [hsm] at hom
        rw [idl_iff]
        constructor
        · intro h
          cases hx : (bk P s).testBit m with
          | false => rfl
          | true =>
            exfalso
            have hb := (bk_bit _ _ _).1 hx
            obtain ⟨i, h1, h2⟩ := greatest_above hP hsl hsm
            rcases h2 with rfl | h2
            · rw [hb.2.1] at h1; cases h1
            · have hl := below_lt hP h2
              have h3 := h i hl.2 (by rw [xor_bit, if_neg (by omega), hob, if_neg (by omega)]; exact ((tp_bit _ _ _).1 h1).1) m h2
              rw [xor_bit, if_pos rfl, hom] at h3; cases h3
        · intro h i hi hsi j hj
          simp only [Bool.not_true] at h
          rw [xor_bit] at hsi ⊢
          by_cases hmi : m = i
          · subst hmi; rw [if_pos rfl, hom] at hsi; cases hsi
          · rw [if_neg hmi] at hsi
            have hoj := idl_closed hP hoi hsi hj
            by_cases hmj : m = j
            · subst hmj
              exfalso
              have hl := below_lt hP hj
              have hsi2 : s.testBit i = true := by rw [hob, if_neg (by omega)] at hsi; exact hsi
              have : (bk P s).testBit m = true := by
                rw [bk_bit]
                refine ⟨hm, ?_, fun i' hi' => ?_⟩
                · cases hx : (tp P s).testBit m with
                  | false => rfl
                  | true => have := ((tp_bit _ _ _).1 hx).2 i hi hsi2; rw [hj] at this; cases this
                · cases hx : (tp P s).testBit i' with
                  | false => rfl
                  | true => have := ((tp_bit _ _ _).1 hx).2 i hi hsi2; rw [below_trans hP hj hi'] at this; cases this
              rw [this] at h; cases h
            · rw [if_neg hmj]; exact hoj
      | false =>
        rw [hsm] at hom
        rw [idl_iff]
        have hbelow : ∀ j, (P.getD m 0).testBit j = true → (o.testBit j = (bk P s).testBit j) := fun j hj => by
          have := below_lt hP hj
          rw [hob, if_pos (by omega)]
        constructor
        · intro h
          show (bk P s).testBit m = true
          rw [bk_bit]
          have hin : ∀ j, (P.getD m 0).testBit j = true → (bk P s).testBit j = true := fun j hj => by
            have h2 := h m hm (by rw [xor_bit, if_pos rfl, hom]; rfl) j hj
            have hl := below_lt hP hj
            rw [xor_bit, if_neg (by omega)] at h2
            rw [← hbelow j hj]; exact h2
          refine ⟨hm, ?_, fun i' hi' => ((bk_bit _ _ _).1 (hin i' hi')).2.1⟩
          cases hx : (tp P s).testBit m with
          | false => rfl
          | true => have := ((tp_bit _ _ _).1 hx).1; rw [hsm] at this; cases this
        · intro h i hi hsi j hj
          simp only [Bool.not_false] at h
          have hl := below_lt hP hj
          rw [xor_bit] at hsi ⊢
          by_cases hmi : m = i
          · subst hmi
            rw [if_neg (by omega), hbelow j hj]
            exact idl_closed hP (bk_idl hP s) h hj
          · rw [if_neg hmi] at hsi
            have hoj := idl_closed hP hoi hsi hj
            by_cases hmj : m = j
            · subst hmj; rw [hom] at hoj; cases hoj
            · rw [if_neg hmj]; exact hoj
    unfold tog
    by_cases hk : idl P (o ^^^ 2 ^ m) = true
    · rw [if_pos hk, xor_bit]
      have hk2 := key.1 hk
      by_cases hmj : m = j
      · subst hmj
        rw [if_pos rfl, if_pos (by omega), hom, hk2]
      · rw [if_neg hmj, hob]
        by_cases h : j < m
        · rw [if_pos h, if_pos (by omega)]
        · rw [if_neg h, if_neg (by omega)]
    · rw [if_neg hk, hob]
      by_cases hmj : m = j
      · subst hmj
        rw [if_neg (by omega), if_pos (by omega)]
        cases h1 : s.testBit m <;> cases h2 : (bk P s).testBit m <;> first | rfl | (exfalso; apply hk; rw [key, h1, h2]; rfl)
      · by_cases h : j < m
        · rw [if_pos h, if_pos (by omega)]
        · rw [if_neg h, if_neg (by omega)]
end
end Go.Proofs.YtkadihmhaoghfaaDoor.B
