/- Orbits of a motion that can be undone, on numbers below a bound: plain. -/
import Derived.Test.YtcijgnfidipmaaaMways
namespace Go.Proofs.Ytcijgnfidipmaaa.B
open Go.RowKit Go.Proofs.Ytcijgnfidipmaaa.M Go.Proofs.YtcijgnfidipmaaaW.PrintWords Go.Proofs.YtcijgnfidipmaaaW.PrintLast Go.Proofs.YtcijgnfidipmaaaW.PrintMore
attribute [local irreducible] Go.bits shl shr sd
theorem nodup_le : ∀ (n : Nat) (l : List Nat), l.Nodup → (∀ x ∈ l, x < n) → l.length ≤ n := by
  intro n
  induction n with
  | zero =>
    intro l _ h
    cases l with
    | nil => exact Nat.le_refl _
    | cons x xs => exact absurd (h x List.mem_cons_self) (by omega)
  | succ n ih =>
    intro l hd h
    by_cases hm : n ∈ l
    · have h1 := ih (l.erase n) (hd.erase n) (fun x hx => by
        have h2 := (hd.mem_erase_iff).1 hx
        have := h x h2.2
        omega)
      rw [List.length_erase_of_mem hm] at h1
      omega
    · have := ih l hd (fun x hx => by
        have h2 := h x hx
        have : x ≠ n := by rintro rfl; exact hm hx
        omega)
      omega
def iter (f : Nat → Nat) : Nat → Nat → Nat
  | 0, s => s
  | i + 1, s => f (iter f i s)
structure Motion (f : Nat → Nat) (N : Nat) (S : Nat → Prop) : Prop where
  lt : ∀ s, S s → s < N
  keeps : ∀ s, S s → S (f s)
  inj : ∀ s t, S s → S t → f s = f t → s = t
section
variable {f : Nat → Nat} {N : Nat} {S : Nat → Prop} (hf : Motion f N S)
include hf
theorem iter_in {s : Nat} (hs : S s) : ∀ i, S (iter f i s)
  | 0 => hs
  | i + 1 => hf.keeps _ (iter_in hs i)
theorem iter_cancel {s : Nat} (hs : S s) : ∀ i d, iter f (i + d) s = iter f i s → iter f d s = s
  | 0, d, h => by rw [Nat.zero_add] at h; exact h
  | i + 1, d, h => by
    rw [show i + 1 + d = (i + d) + 1 by omega] at h
    exact iter_cancel hs i d (hf.inj _ _ (iter_in hf hs _) (iter_in hf hs _) h)
theorem exists_per {s : Nat} (hs : S s) : ∃ p, 1 ≤ p ∧ p ≤ N ∧ iter f p s = s := by
  apply Classical.byContradiction
  intro hno
  have hd : ((List.range (N + 1)).map (fun i => iter f i s)).Nodup := by
    rw [List.Nodup, List.pairwise_map]
    refine List.Pairwise.imp_of_mem ?_ List.pairwise_lt_range
    intro a b ha hb hab he
    rw [List.mem_range] at ha hb
    refine hno ⟨b - a, by omega, by omega, iter_cancel hf hs a (b - a) ?_⟩
    rw [show a + (b - a) = b by omega]
    exact he.symm
  have := nodup_le N _ hd (fun x hx => by
    rw [List.mem_map] at hx
    obtain ⟨i, _, rfl⟩ := hx
    exact hf.lt _ (iter_in hf hs i))
  rw [List.length_map, List.length_range] at this
  omega
end
def search (f : Nat → Nat) (s : Nat) : Nat → Nat → Nat
  | 0, i => i
  | k + 1, i => if iter f i s = s then i else search f s k (i + 1)
theorem search_spec (f : Nat → Nat) (s : Nat) : ∀ (k i : Nat), i ≤ search f s k i ∧ search f s k i ≤ i + k ∧ (∀ j, i ≤ j → j < search f s k i → iter f j s ≠ s) ∧ (search f s k i = i + k ∨ iter f (search f s k i) s = s)
  | 0, i => ⟨Nat.le_refl _, by simp [search], fun j h1 h2 => absurd h2 (by simp [search]; omega), .inl rfl⟩
  | k + 1, i => by
    unfold search
    by_cases h : iter f i s = s
    · rw [if_pos h]
      exact ⟨Nat.le_refl _, by omega, fun j h1 h2 => absurd h2 (by omega), .inr h⟩
    · rw [if_neg h]
      obtain ⟨h1, h2, h3, h4⟩ := search_spec f s k (i + 1)
      refine ⟨by omega, by omega, fun j h5 h6 => ?_, h4.imp (fun h => by omega) id⟩
      by_cases hj : j = i
      · rw [hj]; exact h
      · exact h3 j (by omega) h6
def per (f : Nat → Nat) (N s : Nat) : Nat := search f s N 1
/-- An orbit. -/
def orb (f : Nat → Nat) (N s : Nat) : List Nat := (List.range (per f N s)).map (fun i => iter f i s)
def orbTo (f : Nat → Nat) (s i : Nat) : List Nat := (List.range i).map (fun i => iter f i s)
theorem orbTo_succ (f : Nat → Nat) (s i : Nat) : orbTo f s (i + 1) = orbTo f s i ++ [iter f i s] := by unfold orbTo; rw [List.range_succ, List.map_append]; rfl
theorem orbTo_length (f : Nat → Nat) (s i : Nat) : (orbTo f s i).length = i := by unfold orbTo; simp
theorem mem_orbTo {f : Nat → Nat} {s i x : Nat} : x ∈ orbTo f s i ↔ ∃ j, j < i ∧ iter f j s = x := by
  unfold orbTo
  rw [List.mem_map]
  constructor
  · rintro ⟨j, h1, h2⟩; exact ⟨j, List.mem_range.1 h1, h2⟩
  · rintro ⟨j, h1, h2⟩; exact ⟨j, List.mem_range.2 h1, h2⟩
section
variable {f : Nat → Nat} {N : Nat} {S : Nat → Prop} (hf : Motion f N S)
include hf
theorem per_spec {s : Nat} (hs : S s) : 1 ≤ per f N s ∧ per f N s ≤ N ∧ iter f (per f N s) s = s ∧ ∀ j, 1 ≤ j → j < per f N s → iter f j s ≠ s := by
  obtain ⟨p, h1, h2, h3⟩ := exists_per hf hs
  obtain ⟨k1, k2, k3, k4⟩ := search_spec f s N 1
  have hle : per f N s ≤ p := by
    rcases Nat.lt_or_ge p (per f N s) with h | h
    · exact absurd h3 (k3 p h1 h)
    · exact h
  refine ⟨k1, by omega, ?_, k3⟩
  rcases k4 with k4 | k4
  · have : per f N s = 1 + N := k4
    omega
  · exact k4
theorem iter_ne {s : Nat} (hs : S s) {i j : Nat} (hij : i < j) (hj : j < per f N s) : iter f i s ≠ iter f j s := by
  intro h
  refine (per_spec hf hs).2.2.2 (j - i) (by omega) (by omega) (iter_cancel hf hs i (j - i) ?_)
  rw [show i + (j - i) = j by omega]
  exact h.symm
theorem orb_length {s : Nat} (hs : S s) : 1 ≤ (orb f N s).length ∧ (orb f N s).length ≤ N := by
  unfold orb
  rw [List.length_map, List.length_range]
  exact ⟨(per_spec hf hs).1, (per_spec hf hs).2.1⟩
theorem mem_orb {s x : Nat} (hs : S s) (hx : x ∈ orb f N s) : S x := by
  obtain ⟨j, _, rfl⟩ := mem_orbTo.1 hx
  exact iter_in hf hs j
/-- A set that the motion keeps. -/
def Closed (f : Nat → Nat) (S : Nat → Prop) (m : List Nat) : Prop := ∀ x ∈ m, S x ∧ f x ∈ m
omit hf in
theorem closed_iter {m : List Nat} (hm : Closed f S m) {x : Nat} (hx : x ∈ m) : ∀ i, iter f i x ∈ m
  | 0 => hx
  | i + 1 => (hm _ (closed_iter hm hx i)).2
omit hf in
theorem iter_add (s : Nat) : ∀ i j, iter f (i + j) s = iter f i (iter f j s)
  | 0, j => by rw [Nat.zero_add]; rfl
  | i + 1, j => by rw [show i + 1 + j = (i + j) + 1 by omega]; exact congrArg f (iter_add s i j)
theorem out_iter {m : List Nat} (hm : Closed f S m) {s : Nat} (hs : S s) (hn : s ∉ m) {i : Nat} (hi : i ≤ per f N s) : iter f i s ∉ m := by
  intro h
  apply hn
  have h1 := closed_iter hm h (per f N s - i)
  rw [← iter_add, show per f N s - i + i = per f N s by omega, (per_spec hf hs).2.2.1] at h1
  exact h1
theorem out_orb {m : List Nat} (hm : Closed f S m) {s : Nat} (hs : S s) (hn : s ∉ m) {i : Nat} (hi : i < per f N s) : iter f i s ∉ m ++ orbTo f s i := by
  rw [List.mem_append]
  rintro (h | h)
  · exact out_iter hf hm hs hn (by omega) h
  · obtain ⟨j, h1, h2⟩ := mem_orbTo.1 h
    exact iter_ne hf hs h1 hi h2
theorem back_orb {m : List Nat} {s : Nat} (hs : S s) : iter f (per f N s) s ∈ m ++ orbTo f s (per f N s) := by
  rw [(per_spec hf hs).2.2.1, List.mem_append]
  exact .inr (mem_orbTo.2 ⟨0, (per_spec hf hs).1, rfl⟩)
theorem closed_orb {m : List Nat} (hm : Closed f S m) {s : Nat} (hs : S s) : Closed f S (m ++ orb f N s) := by
  intro x hx
  rw [List.mem_append] at hx
  rcases hx with h | h
  · exact ⟨(hm x h).1, List.mem_append.2 (.inl (hm x h).2)⟩
  · refine ⟨mem_orb hf hs h, List.mem_append.2 (.inr ?_)⟩
    obtain ⟨j, h1, rfl⟩ := mem_orbTo.1 h
    show iter f (j + 1) s ∈ orb f N s
    by_cases hj : j + 1 < per f N s
    · exact mem_orbTo.2 ⟨j + 1, hj, rfl⟩
    · rw [show j + 1 = per f N s by omega, (per_spec hf hs).2.2.1]
      exact mem_orbTo.2 ⟨0, (per_spec hf hs).1, rfl⟩
end
/-- All orbits of a list's numbers, each from the first one that is in none before. -/
def cyc (f : Nat → Nat) (N : Nat) : List Nat → List Nat → List (List Nat)
  | _, [] => []
  | m, s :: l => if s ∈ m then cyc f N m l else orb f N s :: cyc f N (m ++ orb f N s) l
theorem cyc_mem {f : Nat → Nat} {N : Nat} {S : Nat → Prop} : ∀ (l m : List Nat), (∀ s ∈ l, S s) → ∀ o ∈ cyc f N m l, ∃ s, S s ∧ o = orb f N s
  | [], _, _, o, h => by cases h
  | s :: l, m, hl, o, h => by
    unfold cyc at h
    split at h
    · exact cyc_mem l m (fun x hx => hl x (List.mem_cons_of_mem _ hx)) o h
    · rcases List.mem_cons.1 h with h | h
      · exact ⟨s, hl s List.mem_cons_self, h⟩
      · exact cyc_mem l _ (fun x hx => hl x (List.mem_cons_of_mem _ hx)) o h
theorem cyc_length (f : Nat → Nat) (N : Nat) : ∀ (l m : List Nat), (cyc f N m l).length ≤ l.length
  | [], _ => Nat.le_refl _
  | s :: l, m => by
    unfold cyc
    split
    · have := cyc_length f N l m
      rw [List.length_cons]; omega
    · have := cyc_length f N l (m ++ orb f N s)
      rw [List.length_cons, List.length_cons]; omega
end Go.Proofs.Ytcijgnfidipmaaa.B
