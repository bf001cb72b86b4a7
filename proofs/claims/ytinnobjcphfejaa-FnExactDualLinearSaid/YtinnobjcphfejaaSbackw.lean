/- Lists copied and turned round by Go's library. -/
import Derived.Test.YtinnobjcphfejaaMwrd
import Derived.Test.YtinnobjcphfejaaB10
namespace Go.Proofs.Ytinnobjcphfejaa.B
open Go.RowKit Go.Proofs.Ytinnobjcphfejaa.M Go.Proofs.YtinnobjcphfejaaW.PrintWords Go.Proofs.YtinnobjcphfejaaW.PrintLast Go.Proofs.YtinnobjcphfejaaW.PrintMore
attribute [local irreducible] Go.bits shl shr sd
theorem clone_is (o : List Int) (ho : o.length ≤ 1048576) : slices_Clone_int_int.f o = some o := by
  unfold slices_Clone_int_int.f
  rw [Option.bind_some, if_pos (by simp; omega)]
  rfl
theorem rev_get (o : List Int) {t : Nat} (ht : t < o.length) : o.reverse.getD t 0 = o.getD (o.length - 1 - t) 0 := by
  rw [List.getD_eq_getElem?_getD, List.getD_eq_getElem?_getD, List.getElem?_reverse ht]
theorem set_get (o : List Int) (i j : Nat) (x : Int) (hi : i < o.length) : (o.set i x).getD j 0 = if i = j then x else o.getD j 0 := by
  rw [List.getD_eq_getElem?_getD, List.getElem?_set]
  by_cases h : i = j
  · subst h; rw [if_pos rfl, if_pos hi, if_pos rfl]; rfl
  · rw [if_neg h, if_neg h, ← List.getD_eq_getElem?_getD]
theorem list_ext_get {a b : List Int} (h : a.length = b.length) (hg : ∀ t, t < a.length → a.getD t 0 = b.getD t 0) : a = b := by
  apply List.ext_getElem h
  intro i h1 h2
  have := hg i h1
  rwa [List.getD_eq_getElem?_getD, List.getElem?_eq_getElem h1, Option.getD_some, List.getD_eq_getElem?_getD, List.getElem?_eq_getElem h2, Option.getD_some] at this
theorem reverse_l0 (o : List Int) (ho : o.length ≤ 1048576) : ∀ (d i : Nat) (st : List Int), o.length - 2 * i ≤ d → i ≤ o.length → st.length = o.length →
    (∀ t, t < o.length → st.getD t 0 = if t < i ∨ o.length ≤ t + i then o.getD (o.length - 1 - t) 0 else o.getD t 0) → Ev (fun k => slices_Reverse_int_int.l0 k st (i : Int) ((o.length : Int) - 1 - (i : Int))) o.reverse := by
  intro d
  induction d with
  | zero =>
    intro i st hd hi hl hg
    refine ev_eq (ev_step (Ev.now st) (fun k => by simp only [slices_Reverse_int_int.l0]; rw [if_neg (by omega)])) ?_
    refine list_ext_get (by rw [hl, List.length_reverse]) (fun t ht => ?_)
    rw [hl] at ht
    rw [hg t ht, rev_get o ht]
    split
    · rfl
    · rw [show o.length - 1 - t = t by omega]
  | succ d ih =>
    intro i st hd hi hl hg
    by_cases hlt : (i : Int) < (o.length : Int) - 1 - (i : Int)
    · obtain ⟨j, hj⟩ : ∃ j : Nat, (o.length : Int) - 1 - (i : Int) = (j : Int) := ⟨o.length - 1 - i, by omega⟩
      have hjn : j < o.length := by omega
      have c1 : 0 ≤ (j : Int) := by omega
      have c2 : (j : Int) < (st.length : Int) := by omega
      have c3 : 0 ≤ (i : Int) := by omega
      have c4 : (i : Int) < (st.length : Int) := by omega
      have w1 : wrap64 ((i : Int) + 1) = ((i + 1 : Nat) : Int) := by rw [wrap64_id (by omega) (by omega)]; omega
      have w2 : wrap64 ((j : Int) - 1) = (o.length : Int) - 1 - ((i + 1 : Nat) : Int) := by rw [wrap64_id (by omega) (by omega)]; omega
      have hin : i < o.length := by omega
      refine ev_step (ih (i + 1) ((st.set i (rd st (j : Int))).set j (rd st (i : Int))) (by omega) (by omega) (by rw [List.length_set, List.length_set]; exact hl) (fun t ht => ?_)) (fun k => ?_)
      · rw [set_get _ _ _ _ (by rw [List.length_set]; omega), set_get _ _ _ _ (by omega), rd_nat, rd_nat, hg i hin, hg j hjn]
        by_cases h1 : j = t
        · subst h1
          rw [if_pos rfl, if_neg (by omega), if_pos (by omega)]
          rw [show o.length - 1 - j = i by omega]
        · rw [if_neg h1]
          by_cases h2 : i = t
          · subst h2
            rw [if_pos rfl, if_neg (by omega), if_pos (by omega)]
            rw [show o.length - 1 - i = j by omega]
          · rw [if_neg h2, hg t ht]
            by_cases h3 : t < i ∨ o.length ≤ t + i
            · rw [if_pos h3, if_pos (by omega)]
            · rw [if_neg h3, if_neg (by omega)]
      · simp only [slices_Reverse_int_int.l0]
        rw [if_pos hlt, hj, if_pos c1, if_pos c2, if_pos c3, if_pos c4, Int.toNat_natCast, Int.toNat_natCast, w1, w2]
    · refine ev_eq (ev_step (Ev.now st) (fun k => by simp only [slices_Reverse_int_int.l0]; rw [if_neg hlt])) ?_
      refine list_ext_get (by rw [hl, List.length_reverse]) (fun t ht => ?_)
      rw [hl] at ht
      rw [hg t ht, rev_get o ht]
      split
      · rfl
      · rw [show o.length - 1 - t = t by omega]
theorem backwards_ev (o : List Int) (ho : o.length ≤ 1048576) : Ev (fun k => impl_backwards.f k o) o.reverse := by
  unfold impl_backwards.f slices_Reverse_int_int.f
  rw [clone_is o ho]
  simp only [Option.bind_some]
  refine Ev.bind ?_ (Ev.now _)
  have := reverse_l0 o ho o.length 0 o (by omega) (by omega) rfl (fun t ht => by rw [if_neg (by omega)])
  refine ev_as this (fun k => by rw [wrap64_id (by omega) (by omega)]; simp)
end Go.Proofs.Ytinnobjcphfejaa.B
