/- In how many ways sets are filled up, told downwards; on ideals it does not matter what is told of other sets. -/
import Derived.Test.YtcijgnfidipmaaaG
import Derived.Test.YtcijgnfidipmaaaMrow
namespace Go.Proofs.Ytcijgnfidipmaaa.B
open Go.RowKit Go.Proofs.Ytcijgnfidipmaaa.M Go.Proofs.YtcijgnfidipmaaaW.PrintWords Go.Proofs.YtcijgnfidipmaaaW.PrintLast Go.Proofs.YtcijgnfidipmaaaW.PrintMore
attribute [local irreducible] Go.bits shl shr sd
theorem foldFrom_rel {σ τ : Type} (f : σ → Nat → σ) (g : τ → Nat → τ) (R : σ → τ → Prop) (n : Nat) (h : ∀ i a b, i < n → R a b → R (f a i) (g b i)) : ∀ (i : Nat) (a : σ) (b : τ), i ≤ n → R a b → R (foldFrom f i n a) (foldFrom g i n b) := by
  have H : ∀ d i a b, n - i = d → i ≤ n → R a b → R (foldFrom f i n a) (foldFrom g i n b) := by
    intro d
    induction d with
    | zero =>
      intro i a b hd hi hR
      obtain rfl : i = n := by omega
      rw [foldFrom_end, foldFrom_end]; exact hR
    | succ d ih =>
      intro i a b hd hi hR
      rw [foldFrom_step f (show i < n by omega), foldFrom_step g (show i < n by omega)]
      exact ih (i + 1) _ _ (by omega) (by omega) (h i a b (by omega) hR)
  exact fun i a b hi hR => H (n - i) i a b rfl hi hR
def wcan (P : List Nat) (s i : Nat) : Bool := !s.testBit i && decide (sd (P.getD i 0) s = 0)
def wstep (P : List Nat) (s : Nat) (o : List Int) (i : Nat) : List Int := if wcan P s i = true then o.set s (wrap64 (o.getD s 0 + o.getD (s ||| 2 ^ i) 0)) else o
def wrow (P : List Nat) (s : Nat) (o : List Int) : List Int := foldFrom (wstep P s) 0 P.length o
def wrow' (P : List Nat) (s : Nat) (o : List Int) : List Int := if idl P s = true then wrow P s o else o
def wdown (f : Nat → List Int → List Int) : Nat → List Int → List Int
  | 0, o => o
  | s + 1, o => wdown f s (f s o)
theorem set_getD (o : List Int) (i j : Nat) (x : Int) (hi : i < o.length) : (o.set i x).getD j 0 = if i = j then x else o.getD j 0 := by
  rw [List.getD_eq_getElem?_getD, List.getElem?_set]
  by_cases h : i = j
  · subst h; rw [if_pos rfl, if_pos hi, if_pos rfl]; rfl
  · rw [if_neg h, if_neg h, ← List.getD_eq_getElem?_getD]
theorem wstep_length (P : List Nat) (s : Nat) (o : List Int) (i : Nat) : (wstep P s o i).length = o.length := by
  unfold wstep; split <;> simp
theorem wrow_length (P : List Nat) (s : Nat) (o : List Int) : (wrow P s o).length = o.length := by
  unfold wrow
  exact foldFrom_inv (wstep P s) (fun _ o' => o'.length = o.length) P.length (fun i o' _ h => by rw [wstep_length]; exact h) 0 o (by omega) rfl
theorem or_ne {s i : Nat} (h : s.testBit i = false) : s ||| 2 ^ i ≠ s := by
  intro he
  have := congrArg (fun x => x.testBit i) he
  rw [Nat.testBit_or, Nat.testBit_two_pow, h] at this
  simp at this
/-- The value that a row puts at its set. -/
def wval (P : List Nat) (s : Nat) (o : List Int) : Int := foldFrom (fun (a : Int) i => if wcan P s i = true then wrap64 (a + o.getD (s ||| 2 ^ i) 0) else a) 0 P.length (o.getD s 0)
theorem wrow_get (P : List Nat) {s : Nat} {o : List Int} (hs : s < o.length) : (wrow P s o).getD s 0 = wval P s o ∧ ∀ t, t ≠ s → (wrow P s o).getD t 0 = o.getD t 0 := by
  have H := foldFrom_rel (wstep P s) (fun (a : Int) i => if wcan P s i = true then wrap64 (a + o.getD (s ||| 2 ^ i) 0) else a) (fun (o' : List Int) (a : Int) => o'.length = o.length ∧ o'.getD s 0 = a ∧ ∀ t, t ≠ s → o'.getD t 0 = o.getD t 0) P.length ?_ 0 o (o.getD s 0) (by omega) ⟨rfl, rfl, fun _ _ => rfl⟩
  · exact ⟨H.2.1, H.2.2⟩
  · rintro i o' a _ ⟨h1, h2, h3⟩
    unfold wstep
    cases hc : wcan P s i with
    | true =>
      have hb : s.testBit i = false := by
        unfold wcan at hc
        rw [Bool.and_eq_true] at hc
        simpa using hc.1
      simp only [if_true]
      refine ⟨by rw [List.length_set]; exact h1, ?_, fun t ht => ?_⟩
      · rw [set_getD _ _ _ _ (by omega), if_pos rfl, h2, h3 _ (or_ne hb)]
      · rw [set_getD _ _ _ _ (by omega), if_neg (Ne.symm ht)]; exact h3 t ht
    | false =>
      simp only [Bool.false_eq_true, if_false]
      exact ⟨h1, h2, h3⟩
theorem can_idl {P : List Nat} {s i : Nat} (hs : idl P s = true) (hc : wcan P s i = true) : idl P (s ||| 2 ^ i) = true ∧ s < s ||| 2 ^ i := by
  unfold wcan at hc
  rw [Bool.and_eq_true, decide_eq_true_eq] at hc
  have hb : s.testBit i = false := by simpa using hc.1
  refine ⟨?_, ?_⟩
  · rw [idl_iff]
    intro x hx hbx j hj
    rw [Nat.testBit_or, Bool.or_eq_true] at hbx ⊢
    left
    rcases hbx with h | h
    · exact (idl_iff P s).1 hs x hx h j hj
    · rw [Nat.testBit_two_pow, decide_eq_true_eq] at h
      subst h
      exact sd_eq_zero.1 hc.2 j hj
  · have h1 : s ≤ s ||| 2 ^ i := Nat.left_le_or
    have h2 := or_ne hb
    omega
theorem wval_alike {P : List Nat} {s : Nat} {o o' : List Int} (hs : idl P s = true) (h0 : o.getD s 0 = o'.getD s 0) (h : ∀ t, s < t → idl P t = true → o.getD t 0 = o'.getD t 0) : wval P s o = wval P s o' := by
  unfold wval
  rw [h0]
  refine foldFrom_rel _ _ (fun a b => a = b) P.length ?_ 0 _ _ (by omega) rfl
  rintro i a _ _ rfl
  cases hc : wcan P s i with
  | true =>
    simp only [if_true]
    obtain ⟨h1, h2⟩ := can_idl hs hc
    rw [h _ h2 h1]
  | false => rfl
theorem wdown_alike (P : List Nat) (N : Nat) : ∀ (c : Nat) (o o' : List Int), c ≤ N → o.length = N → o'.length = N → (∀ t, c ≤ t → idl P t = true → o.getD t 0 = o'.getD t 0) → (∀ t, t < c → o.getD t 0 = 0 ∧ o'.getD t 0 = 0) →
    ∀ t, idl P t = true → (wdown (wrow P) c o).getD t 0 = (wdown (wrow' P) c o').getD t 0 := by
  intro c
  induction c with
  | zero => intro o o' _ _ _ h _ t ht; exact h t (by omega) ht
  | succ s ih =>
    intro o o' hc h1 h2 h3 h4 t ht
    obtain ⟨g1, g2⟩ := wrow_get P (s := s) (o := o) (by omega)
    obtain ⟨g3, g4⟩ := wrow_get P (s := s) (o := o') (by omega)
    show (wdown (wrow P) s (wrow P s o)).getD t 0 = (wdown (wrow' P) s (wrow' P s o')).getD t 0
    unfold wrow'
    cases hi : idl P s with
    | true =>
      simp only [if_true]
      refine ih _ _ (by omega) (by rw [wrow_length]; exact h1) (by rw [wrow_length]; exact h2) (fun t hct hti => ?_) (fun t htc => ?_) t ht
      · by_cases hts : t = s
        · subst hts
          rw [g1, g3]
          exact wval_alike hi ((h4 t (by omega)).1.trans (h4 t (by omega)).2.symm) (fun x hx hxi => h3 x (by omega) hxi)
        · rw [g2 t hts, g4 t hts]; exact h3 t (by omega) hti
      · rw [g2 t (by omega), g4 t (by omega)]; exact h4 t (by omega)
    | false =>
      simp only [Bool.false_eq_true, if_false]
      refine ih _ _ (by omega) (by rw [wrow_length]; exact h1) h2 (fun t hct hti => ?_) (fun t htc => ?_) t ht
      · have hts : t ≠ s := by rintro rfl; rw [hi] at hti; cases hti
        rw [g2 t hts]; exact h3 t (by omega) hti
      · rw [g2 t (by omega)]; exact h4 t (by omega)
def wstart (P : List Nat) : List Int := (List.replicate (2 ^ P.length) (0 : Int)).set (2 ^ P.length - 1) 1
theorem wstart_length (P : List Nat) : (wstart P).length = 2 ^ P.length := by unfold wstart; simp
theorem counts_alike (P : List Nat) : (wdown (wrow P) (2 ^ P.length - 1) (wstart P)).getD 0 0 = (wdown (wrow' P) (2 ^ P.length - 1) (wstart P)).getD 0 0 := by
  have h1 := Nat.one_le_two_pow (n := P.length)
  refine wdown_alike P (2 ^ P.length) _ _ _ (by omega) (wstart_length P) (wstart_length P) (fun _ _ _ => rfl) (fun t ht => ?_) 0 ?_
  · unfold wstart
    rw [set_getD _ _ _ _ (by rw [List.length_replicate]; omega), if_neg (by omega), List.getD_eq_getElem?_getD, List.getElem?_replicate]
    split <;> exact ⟨rfl, rfl⟩
  · rw [idl_iff]; intro i _ h; rw [Nat.zero_testBit] at h; cases h
theorem wdown_length (f : Nat → List Int → List Int) (hf : ∀ s o, (f s o).length = o.length) : ∀ (c : Nat) (o : List Int), (wdown f c o).length = o.length := by
  intro c
  induction c with
  | zero => intro o; rfl
  | succ s ih => intro o; show (wdown f s (f s o)).length = _; rw [ih, hf]
end Go.Proofs.Ytcijgnfidipmaaa.B
