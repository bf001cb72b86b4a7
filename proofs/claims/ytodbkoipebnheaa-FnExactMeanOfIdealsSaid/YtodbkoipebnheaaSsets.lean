/- All sets for which something holds, in order: a plain law of loops that gather. -/
import Derived.Test.YtodbkoipebnheaaG
namespace Go.Proofs.Ytodbkoipebnheaa.B
open Go.RowKit Go.Proofs.Ytodbkoipebnheaa.M Go.Proofs.YtodbkoipebnheaaW.PrintWords Go.Proofs.YtodbkoipebnheaaW.PrintLast Go.Proofs.YtodbkoipebnheaaW.PrintMore
attribute [local irreducible] Go.bits shl shr sd
def setsF (f : Nat → Bool) (i n : Nat) : List Nat := (List.range' i (n - i)).filter f
theorem setsF_end (f : Nat → Bool) (n : Nat) : setsF f n n = [] := by unfold setsF; simp
theorem setsF_step (f : Nat → Bool) {i n : Nat} (h : i < n) : setsF f i n = if f i = true then i :: setsF f (i + 1) n else setsF f (i + 1) n := by
  unfold setsF
  obtain ⟨d, hd⟩ : ∃ d, n - i = d + 1 := ⟨n - i - 1, by omega⟩
  rw [hd, show n - (i + 1) = d by omega, List.range'_succ, List.filter_cons]
theorem mem_setsF (f : Nat → Bool) (n s : Nat) : s ∈ setsF f 0 n ↔ s < n ∧ f s = true := by
  unfold setsF
  rw [List.mem_filter, List.mem_range'_1]
  constructor
  · rintro ⟨h1, h2⟩; exact ⟨by omega, h2⟩
  · rintro ⟨h1, h2⟩; exact ⟨by omega, h2⟩
theorem setsF_length (f : Nat → Bool) (n : Nat) : (setsF f 0 n).length ≤ n := by
  unfold setsF
  refine Nat.le_trans (List.length_filter_le _ _) ?_
  rw [List.length_range']; omega
theorem setsF_congr (f g : Nat → Bool) (n : Nat) (h : ∀ s, s < n → f s = g s) : setsF f 0 n = setsF g 0 n := by
  unfold setsF
  refine List.filter_congr (fun s hs => ?_)
  rw [List.mem_range'_1] at hs
  exact h s (by omega)
theorem pow1024 {n : Nat} (hn : n ≤ 10) : 2 ^ n ≤ 1024 := two_pow_le (j := 10) hn
theorem sets_ev {β : Type} (g : Nat → List Int → Int → Option β) (f : Nat → Bool) (m : Nat) (fin : List Int → β)
    (hend : ∀ st, st.length ≤ m → Ev (fun k => g k st (m : Int)) (fin st))
    (hyes : ∀ (i : Nat) st r, i < m → st.length ≤ i → f i = true → Ev (fun k => g k (st ++ [(i : Int)]) ((i : Int) + 1)) r → Ev (fun k => g k st (i : Int)) r)
    (hno : ∀ (i : Nat) st r, i < m → st.length ≤ i → f i = false → Ev (fun k => g k st ((i : Int) + 1)) r → Ev (fun k => g k st (i : Int)) r) :
    Ev (fun k => g k [] 0) (fin (cast (setsF f 0 m))) := by
  have H : ∀ (i : Nat) (st : List Int), i ≤ m → st.length ≤ i → Ev (fun k => g k st (i : Int)) (fin (st ++ cast (setsF f i m))) := by
    refine ev_down g (fun i st => fin (st ++ cast (setsF f i m))) m (fun i st => st.length ≤ i) ?_ ?_
    · intro st hst
      rw [setsF_end]
      show Ev _ (fin (st ++ []))
      rw [List.append_nil]
      exact hend st hst
    · intro i st hi hst ih
      rw [setsF_step f hi]
      cases hf : f i with
      | true =>
        rw [if_pos rfl]
        have := ih (st ++ [(i : Int)]) (by rw [List.length_append, List.length_singleton]; omega)
        rw [List.append_assoc] at this
        exact hyes i st _ hi hst hf this
      | false =>
        rw [if_neg (by decide)]
        exact hno i st _ hi hst hf (ih st (by omega))
  have := H 0 [] (by omega) (by simp)
  rwa [List.nil_append] at this
end Go.Proofs.Ytodbkoipebnheaa.B
