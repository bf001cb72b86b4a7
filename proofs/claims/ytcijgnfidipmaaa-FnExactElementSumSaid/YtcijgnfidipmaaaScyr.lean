/- Cycles of rowmotion, as the program gathers them. -/
import Derived.Test.YtcijgnfidipmaaaSrob
import Derived.Test.YtcijgnfidipmaaaB5
namespace Go.Proofs.Ytcijgnfidipmaaa.B
open Go.RowKit Go.Proofs.Ytcijgnfidipmaaa.M Go.Proofs.YtcijgnfidipmaaaW.PrintWords Go.Proofs.YtcijgnfidipmaaaW.PrintLast Go.Proofs.YtcijgnfidipmaaaW.PrintMore
attribute [local irreducible] Go.bits shl shr sd
theorem scyr_has (m : List Nat) (x : Nat) : mhas (cast m) (x : Int) = decide (x ∈ m) := by
  unfold mhas cast
  rw [decide_eq_decide, List.mem_map]
  exact ⟨fun ⟨y, h1, h2⟩ => by rw [← Int.ofNat_inj.1 h2]; exact h1, fun h => ⟨x, h, rfl⟩⟩
theorem scyr_put (m : List Nat) (x : Nat) (h : x ∉ m) : mput (cast m) (x : Int) = cast (m ++ [x]) := by
  have h1 := scyr_has m x
  rw [decide_eq_false h] at h1
  unfold mhas at h1
  unfold mput
  rw [if_neg (by simpa using h1)]
  unfold cast
  rw [List.map_append]
  rfl
theorem scyr_l1 {l : List Int} {P : List Nat} (hP : Good l P) (L : List Nat) (hL : L.length ≤ 1024) {i : Nat} (hi : i < L.length) {m : List Nat} (hm : Closed (rw_ P) (isId P) m) {s : Nat} (hs : (isId P) s) (hns : s ∉ m) (w : List (List Int)) (hw : w.length ≤ 1024) (r : List (List Int))
    (hnext : Ev (fun k => impl_cycles_int_at_impl_Poset_row.l0 k (w ++ [cast (orb (rw_ P) (2 ^ P.length) s)]) (cast L) ((cast L).length : Int) ((i : Int) + 1) l (cast (m ++ orb (rw_ P) (2 ^ P.length) s))) r) :
    ∀ d j, per (rw_ P) (2 ^ P.length) s - j = d → j ≤ per (rw_ P) (2 ^ P.length) s → Ev (fun k => impl_cycles_int_at_impl_Poset_row.l1 k w (cast (orbTo (rw_ P) s j)) ((iter (rw_ P) j s : Nat) : Int) (cast L) ((cast L).length : Int) (i : Int) l (cast (m ++ orbTo (rw_ P) s j))) r := by
  have hn := hP.n10
  have h24 : 2 ^ P.length ≤ 1024 := two_pow_le (j := 10) hn
  have hmo := row_motion hP
  obtain ⟨p1, p2, p3, p4⟩ := per_spec hmo hs
  have hw1 : wrap64 ((i : Int) + 1) = (i : Int) + 1 := wrap64_id (by omega) (by omega)
  intro d
  induction d with
  | zero =>
    intro j hd hj
    obtain rfl : j = per (rw_ P) (2 ^ P.length) s := by omega
    have hh : mhas (cast (m ++ orbTo (rw_ P) s (per (rw_ P) (2 ^ P.length) s))) ((iter (rw_ P) (per (rw_ P) (2 ^ P.length) s) s : Nat) : Int) = true := by rw [scyr_has]; exact decide_eq_true (back_orb hmo hs)
    exact ev_step hnext (fun k => by simp only [impl_cycles_int_at_impl_Poset_row.l1]; rw [if_pos hh, if_pos (by omega), hw1]; rfl)
  | succ d ih =>
    intro j hd hj
    have hin := iter_in hmo hs j
    have hno := out_orb hmo hm hs hns (show j < per (rw_ P) (2 ^ P.length) s by omega)
    have hh : ¬ mhas (cast (m ++ orbTo (rw_ P) s j)) ((iter (rw_ P) j s : Nat) : Int) = true := by rw [scyr_has, decide_eq_true_eq]; exact hno
    have hlen : (cast (orbTo (rw_ P) s j)).length < 17592186044416 := by unfold cast; rw [List.length_map, orbTo_length]; omega
    have happ : cast (orbTo (rw_ P) s j) ++ [((iter (rw_ P) j s : Nat) : Int)] = cast (orbTo (rw_ P) s (j + 1)) := by rw [orbTo_succ]; unfold cast; rw [List.map_append]; rfl
    have hput : mput (cast (m ++ orbTo (rw_ P) s j)) ((iter (rw_ P) j s : Nat) : Int) = cast (m ++ orbTo (rw_ P) s (j + 1)) := by rw [scyr_put _ _ hno, orbTo_succ, List.append_assoc]
    refine ev_stepb (row_ev hP (And.left hin)) ?_ (fun k => by simp only [impl_cycles_int_at_impl_Poset_row.l1]; rw [if_neg hh, if_pos hlen, happ, hput])
    exact ih (j + 1) (by omega) (by omega)
theorem scyr_ev {l : List Int} {P : List Nat} (hP : Good l P) (L : List Nat) (hL : L.length ≤ 1024) (hLS : ∀ s ∈ L, (isId P) s) : Ev (fun k => impl_cycles_int_at_impl_Poset_row.f k (cast L) l) ((cyc (rw_ P) (2 ^ P.length) [] L).map cast) := by
  have H : ∀ d i (m : List Nat) (w : List (List Int)), L.length - i = d → i ≤ L.length → Closed (rw_ P) (isId P) m → w.length ≤ i → Ev (fun k => impl_cycles_int_at_impl_Poset_row.l0 k w (cast L) ((cast L).length : Int) (i : Int) l (cast m)) (w ++ (cyc (rw_ P) (2 ^ P.length) m (L.drop i)).map cast) := by
    intro d
    induction d with
    | zero =>
      intro i m w hd hi _ _
      rw [show i = L.length by omega, List.drop_length]
      refine ev_eq (ev_step (Ev.now w) (fun k => by simp only [impl_cycles_int_at_impl_Poset_row.l0]; rw [if_neg (by rw [cast_length]; omega)])) ?_
      simp [cyc]
    | succ d ih =>
      intro i m w hd hi hm hw
      obtain ⟨s, he⟩ : ∃ s, L.getD i 0 = s := ⟨_, rfl⟩
      have hmem : s ∈ L := by rw [← he]; exact getD_memN (by omega)
      have hs := hLS s hmem
      have c1 : (i : Int) < ((cast L).length : Int) := by rw [cast_length]; omega
      have c2 : 0 ≤ (i : Int) := by omega
      have hr : rd (cast L) (i : Int) = (s : Int) := by rw [← he]; exact rd_cast L i
      have hw1 : wrap64 ((i : Int) + 1) = (i : Int) + 1 := wrap64_id (by omega) (by omega)
      rw [drop_step L 0 (by omega), he]
      unfold cyc
      by_cases hms : s ∈ m
      · rw [if_pos hms]
        have hh : mhas (cast m) (s : Int) = true := by rw [scyr_has]; exact decide_eq_true hms
        have h0 := ih (i + 1) m w (by omega) (by omega) hm (by omega)
        rw [show ((i + 1 : Nat) : Int) = (i : Int) + 1 by omega] at h0
        exact ev_step h0 (fun k => by simp only [impl_cycles_int_at_impl_Poset_row.l0]; rw [if_pos c1, if_pos c2, if_pos c1, hr, if_pos hh, hw1])
      · rw [if_neg hms]
        have hh : ¬ mhas (cast m) (s : Int) = true := by rw [scyr_has, decide_eq_true_eq]; exact hms
        have hmo := row_motion hP
        have h0 := ih (i + 1) (m ++ orb (rw_ P) (2 ^ P.length) s) (w ++ [cast (orb (rw_ P) (2 ^ P.length) s)]) (by omega) (by omega) (closed_orb hmo hm hs) (by rw [List.length_append, List.length_singleton]; omega)
        rw [show ((i + 1 : Nat) : Int) = (i : Int) + 1 by omega, List.append_assoc] at h0
        have h1 := scyr_l1 hP L hL (show i < L.length by omega) hm hs hms w (by omega) _ h0 _ 0 rfl (by omega)
        refine ev_eq (ev_step h1 (fun k => ?_)) ?_
        · simp only [impl_cycles_int_at_impl_Poset_row.l0]
          rw [if_pos c1, if_pos c2, if_pos c1, hr, if_neg hh]
          show _ = impl_cycles_int_at_impl_Poset_row.l1 k w (cast []) (s : Int) (cast L) ((cast L).length : Int) (i : Int) l (cast (m ++ []))
          rw [List.append_nil]
          rfl
        · rw [List.map_cons]; rfl
  have h0 := H _ 0 [] [] rfl (by omega) (fun x hx => by cases hx) (by simp)
  rw [List.drop_zero, List.nil_append] at h0
  unfold impl_cycles_int_at_impl_Poset_row.f
  exact h0
end Go.Proofs.Ytcijgnfidipmaaa.B
