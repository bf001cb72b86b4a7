/- Paths counted forwards and backwards are as many. -/
import Derived.Test.YtdfgfeobaldmpaaMways
namespace Go.Proofs.Ytdfgfeobaldmpaa.B
open Go.RowKit Go.Proofs.Ytdfgfeobaldmpaa.M Go.Proofs.YtdfgfeobaldmpaaW.PrintWords Go.Proofs.YtdfgfeobaldmpaaW.PrintLast Go.Proofs.YtdfgfeobaldmpaaW.PrintMore
attribute [local irreducible] Go.bits shl shr sd
def cg (a b : Int) : Prop := ∃ k : Int, a = b + 18446744073709551616 * k
theorem cg_refl (a : Int) : cg a a := ⟨0, by omega⟩
theorem cg_symm {a b : Int} : cg a b → cg b a := fun ⟨k, h⟩ => ⟨-k, by omega⟩
theorem cg_trans {a b c : Int} : cg a b → cg b c → cg a c := fun ⟨k, h⟩ ⟨m, h'⟩ => ⟨k + m, by omega⟩
theorem cg_add {a b c d : Int} : cg a b → cg c d → cg (a + c) (b + d) := fun ⟨k, h⟩ ⟨m, h'⟩ => ⟨k + m, by omega⟩
theorem cg_mul {a b : Int} (c : Int) : cg a b → cg (a * c) (b * c) := fun ⟨k, h⟩ => ⟨k * c, by rw [h, Int.add_mul, Int.mul_assoc]⟩
theorem cg_mul' {a b : Int} (c : Int) : cg a b → cg (c * a) (c * b) := fun h => by rw [Int.mul_comm c a, Int.mul_comm c b]; exact cg_mul c h
theorem wrap_cg (a : Int) : cg (wrap64 a) a := ⟨-((a + 9223372036854775808) / 18446744073709551616), by unfold wrap64; omega⟩
theorem cg_eq {a b : Int} (h : cg a b) (ha : wrap64 a = a) (hb : wrap64 b = b) : a = b := by
  obtain ⟨k, rfl⟩ := h
  unfold wrap64 at ha hb
  omega
theorem wrap_wrap (a : Int) : wrap64 (wrap64 a) = wrap64 a := by unfold wrap64; omega
/-- What the counts told downwards are: each out of those above it. -/
theorem wdown_get (P : List Nat) (N : Nat) : ∀ (c : Nat) (o : List Int), c ≤ N → o.length = N →
    (∀ t, c ≤ t → (wdown (wrow P) c o).getD t 0 = o.getD t 0) ∧
    (∀ s, s < c → (wdown (wrow P) c o).getD s 0 = foldFrom (fun (a : Int) i => if wcan P s i = true then wrap64 (a + (wdown (wrow P) c o).getD (s ||| 2 ^ i) 0) else a) 0 P.length (o.getD s 0)) := by
  intro c
  induction c with
  | zero => intro o _ _; exact ⟨fun _ _ => rfl, fun s hs => absurd hs (by omega)⟩
  | succ c ih =>
    intro o hc ho
    obtain ⟨g1, g2⟩ := wrow_get P (s := c) (o := o) (by omega)
    obtain ⟨h1, h2⟩ := ih (wrow P c o) (by omega) (by rw [wrow_length]; exact ho)
    show (∀ t, c + 1 ≤ t → (wdown (wrow P) c (wrow P c o)).getD t 0 = o.getD t 0) ∧ (∀ s, s < c + 1 → (wdown (wrow P) c (wrow P c o)).getD s 0 = foldFrom (fun (a : Int) i => if wcan P s i = true then wrap64 (a + (wdown (wrow P) c (wrow P c o)).getD (s ||| 2 ^ i) 0) else a) 0 P.length (o.getD s 0))
    refine ⟨fun t ht => by rw [h1 t (by omega), g2 t (by omega)], fun s hs => ?_⟩
    by_cases hsc : s = c
    · subst hsc
      rw [h1 s (by omega), g1]
      unfold wval
      refine foldFrom_rel _ _ (fun a b => a = b) P.length ?_ 0 _ _ (by omega) rfl
      rintro i a _ _ rfl
      cases hcan : wcan P s i with
      | true =>
        simp only [if_true]
        have hb : s.testBit i = false := by
          unfold wcan at hcan
          rw [Bool.and_eq_true] at hcan
          simpa using hcan.1
        have h3 : s ≤ s ||| 2 ^ i := Nat.left_le_or
        rw [h1 _ h3, g2 _ (or_ne hb)]
      | false => rfl
    · rw [h2 s (by omega), g2 s hsc]
/-- The counts. -/
def cnts (P : List Nat) : List Int := wdown (wrow P) (2 ^ P.length - 1) (wstart P)
theorem wstart_zero (P : List Nat) {s : Nat} (hs : s < 2 ^ P.length - 1) : (wstart P).getD s 0 = 0 := by
  unfold wstart
  rw [set_getD _ _ _ _ (by rw [List.length_replicate]; omega), if_neg (by omega), List.getD_eq_getElem?_getD, List.getElem?_replicate]
  split <;> rfl
theorem wstart_one (P : List Nat) : (wstart P).getD (2 ^ P.length - 1) 0 = 1 := by
  have h1 := Nat.one_le_two_pow (n := P.length)
  unfold wstart
  rw [set_getD _ _ _ _ (by rw [List.length_replicate]; omega), if_pos rfl]
theorem cnts_full (P : List Nat) : (cnts P).getD (2 ^ P.length - 1) 0 = 1 := by
  have h1 := Nat.one_le_two_pow (n := P.length)
  unfold cnts
  rw [(wdown_get P (2 ^ P.length) _ _ (by omega) (wstart_length P)).1 _ (by omega)]
  exact wstart_one P
/-- The sum over what may come next. -/
def nexts (P : List Nat) (s i : Nat) : Int := foldFrom (fun (a : Int) i => if wcan P s i = true then a + (cnts P).getD (s ||| 2 ^ i) 0 else a) i P.length 0
theorem cnts_cg (P : List Nat) {s : Nat} (hs : s < 2 ^ P.length - 1) : cg ((cnts P).getD s 0) (nexts P s 0) := by
  unfold nexts
  have h := (wdown_get P (2 ^ P.length) (2 ^ P.length - 1) (wstart P) (by omega) (wstart_length P)).2 s hs
  show cg ((wdown (wrow P) (2 ^ P.length - 1) (wstart P)).getD s 0) _
  rw [h, wstart_zero P hs]
  refine foldFrom_rel _ _ (fun a b => cg a b) P.length ?_ 0 _ _ (by omega) (cg_refl 0)
  intro i a b _ hab
  cases hcan : wcan P s i with
  | true =>
    simp only [if_true]
    exact cg_trans (wrap_cg _) (cg_add hab (cg_refl _))
  | false => exact hab
theorem cnts_wrap (P : List Nat) : wrap64 ((cnts P).getD 0 0) = (cnts P).getD 0 0 := by
  by_cases h : 0 < 2 ^ P.length - 1
  · have h' := (wdown_get P (2 ^ P.length) (2 ^ P.length - 1) (wstart P) (by omega) (wstart_length P)).2 0 h
    show wrap64 ((wdown (wrow P) (2 ^ P.length - 1) (wstart P)).getD 0 0) = (wdown (wrow P) (2 ^ P.length - 1) (wstart P)).getD 0 0
    rw [h', wstart_zero P h]
    refine foldFrom_inv _ (fun _ (a : Int) => wrap64 a = a) P.length ?_ 0 0 (by omega) (wrap64_id (by omega) (by omega))
    intro i a _ ha
    show wrap64 (if wcan P 0 i = true then wrap64 (a + _) else a) = _
    split
    · exact wrap_wrap _
    · exact ha
  · have h1 := Nat.one_le_two_pow (n := P.length)
    have h2 := cnts_full P
    rw [show 2 ^ P.length - 1 = 0 by omega] at h2
    rw [h2]
    exact wrap64_id (by omega) (by omega)
/-- What is still to come, weighed. -/
def wsum (P : List Nat) (o : List Int) (s : Nat) : Int := foldFrom (fun (a : Int) t => a + o.getD t 0 * (cnts P).getD t 0) s (2 ^ P.length) 0
theorem fold_add (f : Nat → Int) (i n : Nat) (hi : i ≤ n) (a : Int) : foldFrom (fun (a : Int) t => a + f t) i n a = a + foldFrom (fun (a : Int) t => a + f t) i n 0 := by
  have := foldFrom_rel (fun (a : Int) t => a + f t) (fun (a : Int) t => a + f t) (fun x y => x = a + y) n (fun t x y _ h => by omega) i a 0 hi (by omega)
  exact this
theorem wsum_step (P : List Nat) (o : List Int) {s : Nat} (hs : s < 2 ^ P.length) : wsum P o s = o.getD s 0 * (cnts P).getD s 0 + wsum P o (s + 1) := by
  unfold wsum
  rw [foldFrom_step _ hs, fold_add (fun t => o.getD t 0 * (cnts P).getD t 0) (s + 1) _ (by omega)]
  omega
theorem wsum_end (P : List Nat) (o : List Int) : wsum P o (2 ^ P.length) = 0 := by unfold wsum; rw [foldFrom_end]
theorem wsum_same (P : List Nat) (o o' : List Int) : ∀ (d s : Nat), 2 ^ P.length - s = d → s ≤ 2 ^ P.length → (∀ t, s ≤ t → o.getD t 0 = o'.getD t 0) → wsum P o s = wsum P o' s := by
  intro d
  induction d with
  | zero => intro s hd hs _; rw [show s = 2 ^ P.length by omega, wsum_end, wsum_end]
  | succ d ih =>
    intro s hd hs h
    rw [wsum_step P o (by omega), wsum_step P o' (by omega), h s (by omega), ih (s + 1) (by omega) (by omega) (fun t ht => h t (by omega))]
theorem wsum_set (P : List Nat) (o : List Int) (u : Nat) (hu : u < o.length) (hN : o.length = 2 ^ P.length) (x : Int) : ∀ (d s : Nat), u - s = d → s ≤ u → cg (wsum P (o.set u (wrap64 (o.getD u 0 + x))) s) (wsum P o s + x * (cnts P).getD u 0) := by
  intro d
  induction d with
  | zero =>
    intro s hd hs
    obtain rfl : s = u := by omega
    rw [wsum_step P _ (by omega), wsum_step P o (by omega), set_getD _ _ _ _ hu, if_pos rfl]
    rw [wsum_same P (o.set s (wrap64 (o.getD s 0 + x))) o _ (s + 1) rfl (by omega) (fun t ht => by rw [set_getD _ _ _ _ hu, if_neg (by omega)])]
    have := cg_mul ((cnts P).getD s 0) (wrap_cg (o.getD s 0 + x))
    rw [Int.add_mul] at this
    have h2 := cg_add this (cg_refl (wsum P o (s + 1)))
    refine cg_trans h2 ⟨0, by omega⟩
  | succ d ih =>
    intro s hd hs
    rw [wsum_step P _ (by omega), wsum_step P o (by omega), set_getD _ _ _ _ hu, if_neg (by omega)]
    have h2 := cg_add (cg_refl (o.getD s 0 * (cnts P).getD s 0)) (ih (s + 1) (by omega) (by omega))
    exact cg_trans h2 ⟨0, by omega⟩
/-- A set handed on: its number goes to each that may come next. -/
def gstep (P : List Nat) (s : Nat) (x : Int) (o : List Int) (i : Nat) : List Int := if wcan P s i = true then o.set (s ||| 2 ^ i) (wrap64 (o.getD (s ||| 2 ^ i) 0 + x)) else o
def grow_ (P : List Nat) (s : Nat) (x : Int) (o : List Int) : List Int := foldFrom (gstep P s x) 0 P.length o
theorem gstep_length (P : List Nat) (s : Nat) (x : Int) (o : List Int) (i : Nat) : (gstep P s x o i).length = o.length := by unfold gstep; split <;> simp
theorem can_lt {P : List Nat} {s i : Nat} (hs : s < 2 ^ P.length) (hi : i < P.length) (hc : wcan P s i = true) : s < s ||| 2 ^ i ∧ s ||| 2 ^ i < 2 ^ P.length := by
  unfold wcan at hc
  rw [Bool.and_eq_true] at hc
  have hb : s.testBit i = false := by simpa using hc.1
  have h1 : s ≤ s ||| 2 ^ i := Nat.left_le_or
  have h2 := or_ne hb
  exact ⟨by omega, Nat.or_lt_two_pow hs (Nat.pow_lt_pow_right (by decide) hi)⟩
theorem grow_sum {P : List Nat} {s : Nat} (hs : s < 2 ^ P.length) (x : Int) (o : List Int) (hN : o.length = 2 ^ P.length) : (grow_ P s x o).length = 2 ^ P.length ∧ cg (wsum P (grow_ P s x o) (s + 1)) (wsum P o (s + 1) + x * nexts P s 0) := by
  unfold grow_ nexts
  have H := foldFrom_rel (gstep P s x) (fun (a : Int) i => if wcan P s i = true then a + (cnts P).getD (s ||| 2 ^ i) 0 else a) (fun (o' : List Int) (a : Int) => o'.length = 2 ^ P.length ∧ cg (wsum P o' (s + 1)) (wsum P o (s + 1) + x * a)) P.length ?_ 0 o 0 (by omega) ⟨hN, by rw [Int.mul_zero, Int.add_zero]; exact cg_refl _⟩
  · exact H
  · rintro i o' a hi ⟨h1, h2⟩
    unfold gstep
    cases hc : wcan P s i with
    | true =>
      simp only [if_true]
      obtain ⟨k1, k2⟩ := can_lt hs hi hc
      refine ⟨by rw [List.length_set]; exact h1, ?_⟩
      refine cg_trans (wsum_set P o' (s ||| 2 ^ i) (by omega) h1 x _ (s + 1) rfl (by omega)) ?_
      refine cg_trans (cg_add h2 (cg_refl _)) ⟨0, ?_⟩
      rw [Int.mul_add]
      omega
    | false => exact ⟨h1, h2⟩
/-- What is told when sets are handed on upwards. -/
def gall (P : List Nat) (o : List Int) (s : Nat) : List Int := if o.getD s 0 = 0 then o else grow_ P s (o.getD s 0) o
def wraps (o : List Int) : Prop := ∀ t, wrap64 (o.getD t 0) = o.getD t 0
theorem gstep_wraps {P : List Nat} {s i : Nat} {x : Int} {o : List Int} (h : wraps o) : wraps (gstep P s x o i) := by
  unfold gstep
  split
  · intro t
    rw [List.getD_eq_getElem?_getD, List.getElem?_set]
    split
    · split
      · exact wrap_wrap _
      · exact wrap64_id (by simp) (by simp)
    · rw [← List.getD_eq_getElem?_getD]; exact h t
  · exact h
theorem grow_wraps {P : List Nat} {s : Nat} {x : Int} {o : List Int} (h : wraps o) : wraps (grow_ P s x o) := by
  unfold grow_
  exact foldFrom_inv (gstep P s x) (fun _ o => wraps o) P.length (fun i o _ h => gstep_wraps h) 0 o (by omega) h
theorem gall_sum {P : List Nat} {s : Nat} (hs : s < 2 ^ P.length - 1) (o : List Int) (hN : o.length = 2 ^ P.length) : (gall P o s).length = 2 ^ P.length ∧ cg (wsum P (gall P o s) (s + 1)) (wsum P o s) := by
  rw [wsum_step P o (by omega)]
  unfold gall
  by_cases h0 : o.getD s 0 = 0
  · rw [if_pos h0, h0]
    exact ⟨hN, ⟨0, by omega⟩⟩
  · rw [if_neg h0]
    obtain ⟨h1, h2⟩ := grow_sum (s := s) (by omega) (o.getD s 0) o hN
    refine ⟨h1, cg_trans h2 ?_⟩
    have := cg_add (cg_mul' (o.getD s 0) (cg_symm (cnts_cg P hs))) (cg_refl (wsum P o (s + 1)))
    exact cg_trans ⟨0, by omega⟩ this
theorem gall_top {P : List Nat} (o : List Int) : gall P o (2 ^ P.length - 1) = o := by
  unfold gall
  split
  · rfl
  · unfold grow_
    refine foldFrom_inv (gstep P (2 ^ P.length - 1) (o.getD (2 ^ P.length - 1) 0)) (fun _ o' => o' = o) P.length (fun i o' hi h => ?_) 0 o (by omega) rfl
    unfold gstep wcan
    rw [Nat.testBit_two_pow_sub_one, decide_eq_true hi]
    exact h
theorem gall_wraps {P : List Nat} {s : Nat} {o : List Int} (h : wraps o) : wraps (gall P o s) := by
  unfold gall
  split
  · exact h
  · exact grow_wraps h
def gstart (P : List Nat) : List Int := (List.replicate (2 ^ P.length) (0 : Int)).set 0 1
theorem gstart_length (P : List Nat) : (gstart P).length = 2 ^ P.length := by unfold gstart; simp
theorem gstart_get (P : List Nat) (t : Nat) : (gstart P).getD t 0 = if 0 = t then 1 else 0 := by
  have h1 := Nat.one_le_two_pow (n := P.length)
  unfold gstart
  rw [set_getD _ _ _ _ (by rw [List.length_replicate]; omega)]
  split
  · rfl
  · rw [List.getD_eq_getElem?_getD, List.getElem?_replicate]
    split <;> rfl
theorem gstart_wraps (P : List Nat) : wraps (gstart P) := by
  intro t
  rw [gstart_get]
  split <;> exact wrap64_id (by omega) (by omega)
theorem gstart_sum (P : List Nat) : wsum P (gstart P) 0 = (cnts P).getD 0 0 := by
  have h1 := Nat.one_le_two_pow (n := P.length)
  have hz : ∀ d s, 2 ^ P.length - s = d → 1 ≤ s → s ≤ 2 ^ P.length → wsum P (gstart P) s = 0 := by
    intro d
    induction d with
    | zero => intro s hd _ hs; rw [show s = 2 ^ P.length by omega, wsum_end]
    | succ d ih =>
      intro s hd h1s hs
      rw [wsum_step P _ (by omega), ih (s + 1) (by omega) (by omega) (by omega), gstart_get, if_neg (by omega)]
      omega
  rw [wsum_step P _ (by omega), hz _ 1 rfl (by omega) (by omega), gstart_get, if_pos rfl]
  omega
/-- Both ways of counting end alike. -/
theorem gall_end (P : List Nat) : (foldFrom (gall P) 0 (2 ^ P.length) (gstart P)).length = 2 ^ P.length ∧ (foldFrom (gall P) 0 (2 ^ P.length) (gstart P)).getD (2 ^ P.length - 1) 0 = (cnts P).getD 0 0 := by
  have h1 := Nat.one_le_two_pow (n := P.length)
  have H := foldFrom_inv (gall P) (fun i o => o.length = 2 ^ P.length ∧ wraps o ∧ (i < 2 ^ P.length → cg (wsum P o i) ((cnts P).getD 0 0)) ∧ (i = 2 ^ P.length → cg (o.getD (2 ^ P.length - 1) 0) ((cnts P).getD 0 0))) (2 ^ P.length) ?_ 0 (gstart P) (by omega) ⟨gstart_length P, gstart_wraps P, fun _ => by rw [gstart_sum]; exact cg_refl _, fun h => absurd h (by omega)⟩
  · exact ⟨H.1, cg_eq (H.2.2.2 rfl) (H.2.1 _) (cnts_wrap P)⟩
  · rintro i o hi ⟨h2, h3, h4, _⟩
    by_cases hl : i = 2 ^ P.length - 1
    · have ht := gall_top (P := P) o
      rw [← hl] at ht
      rw [ht]
      refine ⟨h2, h3, fun h => absurd h (by omega), fun _ => ?_⟩
      have h5 := h4 hi
      rw [wsum_step P o hi, show i + 1 = 2 ^ P.length by omega, wsum_end] at h5
      rw [hl, cnts_full, Int.mul_one, Int.add_zero] at h5
      exact h5
    · obtain ⟨k1, k2⟩ := gall_sum (P := P) (s := i) (by omega) o h2
      exact ⟨k1, gall_wraps h3, fun _ => cg_trans k2 (h4 hi), fun h => absurd h (by omega)⟩
end Go.Proofs.Ytdfgfeobaldmpaa.B
