-- Laid by our mk.py through the kit's print.py, out of the translation. Not trusted: Lean checks it.
import Derived.Test.YtkdddlkhildliaaB0
import Derived.Test.YtkdddlkhildliaaB7
import Derived.Test.YtkdddlkhildliaaB16
namespace Go.Proofs.Ytkdddlkhildliaa.B
open Go.RowKit Go.Proofs.YtkdddlkhildliaaW.PrintWords Go.Proofs.YtkdddlkhildliaaW.PrintLast Go.Proofs.YtkdddlkhildliaaW.PrintMore
attribute [local go_sem] max2_int min2_int max_two min_two max_three min_three max_four min_four   -- for this text's walks alone
set_option linter.unusedVariables false
set_option linter.unusedSimpArgs false

/-! ### impl_Poset_even_1_c: function 95 -/
def impl_Poset_even_1_c.f (k : Nat) (l0 : List Int)  (l2_0 : List (List Int)) (a3_0 : Int) : Option (Bool) := (impl_sum_at_impl_size.f k l0).bind fun t884 => (if 0 < (l2_0.length : Int) then (some ((wrap64 (t884 * ((rd_L1 l2_0 0).length : Int))) != (wrap64 (a3_0 * (l0.length : Int))))) else (none))
theorem impl_Poset_even_1_c.mono : ∀ a0 a1 a2 k, LeO (impl_Poset_even_1_c.f k a0 a1 a2) (impl_Poset_even_1_c.f (k + 1) a0 a1 a2) := by
  intro a0 a1 a2 k
  unfold impl_Poset_even_1_c.f
  repeat' first
      | (with_reducible exact impl_sum_at_impl_size.mono _ _)
      | (with_reducible exact LeO.refl _)
      | (with_reducible exact LeO.none _)
      | (with_reducible refine LeO.ite ?_ ?_)
      | (with_reducible refine LeO.bind ?_ (fun _ => ?_))
      | exact impl_sum_at_impl_size.mono _ _
      | exact LeO.none _
      | refine LeO.ite ?_ ?_
      | refine LeO.bind ?_ (fun _ => ?_)
def impl_Poset_even_1_c.T1 : Bool × List (List Nat × List Nat) := (true, [([], []), ([], []), ([0, 1], [0, 1]), ([], []), ([3], [3]), ([4], [4]), ([5], [5]), ([2, 6], [2, 6]), ([], []), ([], []), ([9], [9]), ([8, 10], [8, 10]), ([7, 11], [7, 11]), ([12, 2, 0, 1, 2, 3, 4, 5, 6, 7, 8, 9, 10, 11, 12], [12])])
def impl_Poset_even_1_c.B1 : List Nat := [0, 0, 3, 0, 8, 24, 56, 127, 0, 0, 512, 1792, 4095, 8191]
theorem impl_Poset_even_1_c.tab1 : rtab .any (opsOf Try.f95 1) = impl_Poset_even_1_c.T1 := by kernel_rfl
theorem impl_Poset_even_1_c.bits1 : waitsOk impl_Poset_even_1_c.T1.2 impl_Poset_even_1_c.B1 = true := by kernel_rfl
set_option maxHeartbeats 8000000 in
set_option maxRecDepth 100000 in
theorem impl_Poset_even_1_c.calls (k : Nat) (A0 : Option Addr) (c0 : Nat) (l0 : List Int) (g1_0 : Nat)  (g2_0 : Nat) (A2_0 : Option Addr) (c2_0 : Nat) (l2_0 : List (List Int)) (g3_0 : Nat) (a3_0 : Int) (r : Bool) (w : World) (hr0 : Kd.C (Kd.int .i64) w A0 l0.length l0) (hc0 : l0.length ≤ c0) (hb1_0 : w.heap[g1_0]? = some (.cells #[.func (.func 65) #[] #[]] 58 (0, 0))) (hb2_0 : w.heap[g2_0]? = some (.cells #[.slice A2_0 l2_0.length c2_0] 43 (0, 0))) (hr2_0 : Kd.C (Kd.slice 3 (Kd.int .i64)) w A2_0 l2_0.length l2_0) (hc2_0 : l2_0.length ≤ c2_0) (hb3_0 : w.heap[g3_0]? = some (.cells #[.int .i64 a3_0] 3 (0, 0))) (hx0_1 : g1_0 ≠ g2_0) (hx0_2 : g1_0 ≠ g3_0) (hx1_2 : g2_0 ≠ g3_0) (h : impl_Poset_even_1_c.f k l0 l2_0 a3_0 = some r) :
    Calls Try.prog 95 #[.slice A0 l0.length c0, .pointer (some ⟨g1_0, 0, none⟩), .pointer (some ⟨g2_0, 0, none⟩), .pointer (some ⟨g3_0, 0, none⟩)] w fun e w' => e = .returned (.bool r) ∧ Below w.heap.size w w' := by
  have HR0 := Aside0.mk hr0
  have HC0 := Aside0.mk hc0
  clear hr0 hc0
  have HR2_0 := Aside0.mk hr2_0
  have HC2_0 := Aside0.mk hc2_0
  clear hr2_0 hc2_0
  have BK881 := Aside0.mk hb1_0
  clear hb1_0
  have BK882 := Aside0.mk hb2_0
  clear hb2_0
  have BK883 := Aside0.mk hb3_0
  clear hb3_0
  have NB881_882 := Aside0.mk hx0_1
  have NB882_881 := Aside0.mk hx0_1.symm
  clear hx0_1
  have NB881_883 := Aside0.mk hx0_2
  have NB883_881 := Aside0.mk hx0_2.symm
  clear hx0_2
  have NB882_883 := Aside0.mk hx1_2
  have NB883_882 := Aside0.mk hx1_2.symm
  clear hx1_2
  have HB := Aside0.mk (Below.refl w.heap.size w)
  have H : ((impl_sum_at_impl_size.f k l0).bind fun t884 => (if 0 < (l2_0.length : Int) then (some ((wrap64 (t884 * ((rd_L1 l2_0 0).length : Int))) != (wrap64 (a3_0 * (l0.length : Int))))) else (none))) = some r := h
  clear h
  replace H := Option.bind_eq_some_iff.mp H
  obtain ⟨t884, A50, H⟩ := H
  replace H : (if 0 < (l2_0.length : Int) then (some ((wrap64 (t884 * ((rd_L1 l2_0 0).length : Int))) != (wrap64 (a3_0 * (l0.length : Int))))) else (none)) = some r := H
  have A5 := Aside0.mk A50
  clear A50
  by_cases c6 : 0 < (l2_0.length : Int)
  · rw [if_pos c6] at H
    have c6b0 : decide (0 < (l2_0.length : Int)) = true := decide_eq_true c6
    have c6b1 : decide (0 < l2_0.length) = true := decide_eq_true (by omega)
    clear c6
    obtain rfl := Option.some.inj H
    go_enter Try.func95, Try.ntmps95
    try go_wp2
    have n0_ := Aside0.mk (blk_drew BK881.out)
    have n1_ := Aside0.mk (blk_drew BK882.out)
    have n2_ := Aside0.mk (blk_drew BK883.out)
    have n3_ := Aside0.mk (below_drew1 HB.out)
    clear BK881
    clear BK882
    clear BK883
    clear HB
    have BK881 := n0_
    have BK882 := n1_
    have BK883 := n2_
    have HB := n3_
    clear n0_ n1_ n2_ n3_
    have p885 : 0 ≤ (0 : Int) := (by omega)
    have q885 : 0 < (l2_0.length : Int) := of_decide_eq_true (by first | (with_reducible assumption) | assumption)
    obtain ⟨ad885, A885_0, c885_0, e885, hx885_0, hl885_0, hi885_0⟩ := at_L1 HR2_0.out 0 p885 q885
    have hw885_0 := hx885_0
    (try rw [show ((0 : Int)).toNat = 0 from rfl] at hw885_0)
    (try rw [show 0 * 1 = 0 from rfl] at hw885_0)
    (try rw [Addr.add_zero'] at hw885_0)
    cases e885
    have qi885 : (0 < l2_0.length) = True := eq_true (by omega)
    (try rw [show ((0 : Int)).toNat = 0 from rfl] at hx885_0)
    (try rw [Addr.add_zero'] at hx885_0)
    replace hx885_0 := (HB.out.cell (World.block_lt_of_cell? w _ hx885_0)).trans hx885_0
    have HR885_0 := Aside0.mk hi885_0
    have HC885_0 := Aside0.mk hl885_0
    clear hi885_0 hl885_0
    replace p885 := eq_true p885
    replace q885 := eq_true q885
    refine start_ (n := 14) (S := fun w' => w'.cell? ⟨g1_0, 0, none⟩ = some (.func (.func 65) #[] #[]) ∧ w'.cell? ⟨g2_0, 0, none⟩ = some (.slice (some ad885) l2_0.length c2_0) ∧ w'.cell? ⟨g3_0, 0, none⟩ = some (.int .i64 a3_0) ∧ w'.cell? ad885 = some (.slice A885_0 (rd_L1 l2_0 0).length c885_0)) (ds := []) #[false, false, false, false, false, false, false, false, false, false, false, false, false, false] (by kernel_rfl) rfl rfl ⟨(blk_cell BK881.out 0).trans rfl, (blk_cell BK882.out 0).trans rfl, (blk_cell BK883.out 0).trans rfl, ((HB.out.cell (World.block_lt_of_cell? w _ hw885_0)).trans hw885_0)⟩ (fun hHeld => ?_); refine with_tabW impl_Poset_even_1_c.tab1 impl_Poset_even_1_c.bits1 (fun HT_ HW_ => ?_)
    generalize w.drew = w7 at BK881 BK882 BK883 HB HR885_0 hx885_0 hHeld ⊢
    refine pure_ (i := 0) (N := some 6) (v := ?_) (a' := ?_) #[true, false, false, false, false, false, false, false, false, false, false, false, false, false] rfl rfl (any_of HT_.out (by kernel_rfl)) (fun _ _ _ h => h) (Or.inl ⟨by rfl, ?_⟩) ?_ ?_
    rotate_left
    · intro w'
      go_simp
      with_reducible rfl
    rotate_left
    · simp only [Act.put, List.setIfInBounds_toArray, List.set_cons_zero, List.set_cons_succ, i64_w, i32_w]
      rfl
    refine pure_ (i := 9) (N := some 15) (v := ?_) (a' := ?_) #[true, false, false, false, false, false, false, false, false, true, false, false, false, false] rfl rfl (any_of HT_.out (by kernel_rfl)) (fun _ _ _ h => h) (Or.inl ⟨by rfl, ?_⟩) ?_ ?_
    rotate_left
    · intro w'
      go_simp
      with_reducible rfl
    rotate_left
    · simp only [Act.put, List.setIfInBounds_toArray, List.set_cons_zero, List.set_cons_succ, i64_w, i32_w]
      rfl
    refine pure_ (i := 10) (N := some 16) (v := ?_) (a' := ?_) #[true, false, false, false, false, false, false, false, false, true, true, false, false, false] rfl rfl (any_of HT_.out (by kernel_rfl)) (fun _ _ _ h => h) (Or.inl ⟨by rfl, ?_⟩) ?_ ?_
    rotate_left
    · intro w'
      go_simp
      with_reducible rfl
    rotate_left
    · simp only [Act.put, List.setIfInBounds_toArray, List.set_cons_zero, List.set_cons_succ, i64_w, i32_w]
      rfl
    refine take_ (i := 1) (N := some 7) (v := ?_) (a' := ?_) #[true, true, false, false, false, false, false, false, false, true, true, false, false, false] rfl rfl (take_ofW HT_.out HW_.out (by kernel_rfl)) (fun _ _ _ h => h) (Or.inl ⟨by rfl, ?_⟩) hHeld ?_ ?_
    rotate_left
    · rintro w' ⟨s0, s1, s2, s3⟩
      go_simp
      with_reducible rfl
    rotate_left
    · simp only [Act.put, List.setIfInBounds_toArray, List.set_cons_zero, List.set_cons_succ, i64_w, i32_w]
      rfl
    refine take_ (i := 3) (N := some 9) (v := ?_) (a' := ?_) #[true, true, false, true, false, false, false, false, false, true, true, false, false, false] rfl rfl (take_ofW HT_.out HW_.out (by kernel_rfl)) (fun _ _ _ h => h) (Or.inl ⟨by rfl, ?_⟩) hHeld ?_ ?_
    rotate_left
    · rintro w' ⟨s0, s1, s2, s3⟩
      go_simp
      with_reducible rfl
    rotate_left
    · simp only [Act.put, List.setIfInBounds_toArray, List.set_cons_zero, List.set_cons_succ, i64_w, i32_w]
      rfl
    refine pure_ (i := 4) (N := some 10) (v := ?_) (a' := ?_) #[true, true, false, true, true, false, false, false, false, true, true, false, false, false] rfl rfl (any_of HT_.out (by kernel_rfl)) (fun _ _ _ h => h) (Or.inl ⟨by rfl, ?_⟩) ?_ ?_
    rotate_left
    · intro w'
      go_simp
      with_reducible rfl
    rotate_left
    · simp only [Act.put, List.setIfInBounds_toArray, List.set_cons_zero, List.set_cons_succ, i64_w, i32_w]
      rfl
    refine take_ (i := 5) (N := some 11) (v := ?_) (a' := ?_) #[true, true, false, true, true, true, false, false, false, true, true, false, false, false] rfl rfl (take_ofW HT_.out HW_.out (by kernel_rfl)) (fun _ _ _ h => h) (Or.inl ⟨by rfl, ?_⟩) hHeld ?_ ?_
    rotate_left
    · rintro w' ⟨s0, s1, s2, s3⟩
      go_simp
      with_reducible rfl
    rotate_left
    · simp only [Act.put, List.setIfInBounds_toArray, List.set_cons_zero, List.set_cons_succ, i64_w, i32_w]
      rfl
    refine pure_ (i := 6) (N := some 12) (v := ?_) (a' := ?_) #[true, true, false, true, true, true, true, false, false, true, true, false, false, false] rfl rfl (any_of HT_.out (by kernel_rfl)) (fun _ _ _ h => h) (Or.inl ⟨by rfl, ?_⟩) ?_ ?_
    rotate_left
    · intro w'
      go_simp
      with_reducible rfl
    rotate_left
    · simp only [Act.put, List.setIfInBounds_toArray, List.set_cons_zero, List.set_cons_succ, i64_w, i32_w]
      rfl
    refine take_ (i := 8) (N := some 14) (v := ?_) (a' := ?_) #[true, true, false, true, true, true, true, false, true, true, true, false, false, false] rfl rfl (take_ofW HT_.out HW_.out (by kernel_rfl)) (fun _ _ _ h => h) (Or.inl ⟨by rfl, ?_⟩) hHeld ?_ ?_
    rotate_left
    · rintro w' ⟨s0, s1, s2, s3⟩
      go_simp
      with_reducible rfl
    rotate_left
    · simp only [Act.put, List.setIfInBounds_toArray, List.set_cons_zero, List.set_cons_succ, i64_w, i32_w]
      rfl
    refine pure_ (i := 11) (N := some 17) (v := ?_) (a' := ?_) #[true, true, false, true, true, true, true, false, true, true, true, true, false, false] rfl rfl (any_of HT_.out (by kernel_rfl)) (fun _ _ _ h => h) (Or.inl ⟨by rfl, ?_⟩) ?_ ?_
    rotate_left
    · intro w'
      go_simp
      with_reducible rfl
    rotate_left
    · simp only [Act.put, List.setIfInBounds_toArray, List.set_cons_zero, List.set_cons_succ, i64_w, i32_w]
      rfl
    refine one_ (i := 2) (N := some 8) #[true, true, true, true, true, true, true, false, true, true, true, true, false, false] rfl rfl (one_of HT_.out (by kernel_rfl)) (by decide) (fun K hK => ?_)
    refine goes_ Try.func93 (by kernel_rfl) rfl #[.slice A0 l0.length c0, .func (.func 65) #[] #[]] (by rfl) rfl rfl (by (try simp only [List.map_toArray, List.map_cons, List.map_nil]); first | done | rfl | (simp only [List.length_drop, List.length_take]; rfl)) ?_
    with_reducible refine (impl_sum_at_impl_size.calls k _ _ l0  t884 _ ?side1 ?side2 A5.out).mono ?_
    (case side1 => repeat (first | exact (Kd.C_below HR0.out HB.out) | (with_reducible refine Kd.C_alloc ?_ _) | (with_reducible refine Kd.C_drewN ?_ _) | (with_reducible refine Kd.C_drew ?_)))
    (case side2 => exact HC0.out)
    rintro e w8 ⟨rfl, hb⟩
    refine ⟨_, rfl, ?_⟩
    have n0_ := Aside0.mk (blk_below (g := g1_0) (o := .cells #[.func (.func 65) #[] #[]] 58 (0, 0)) (by (with_reducible repeat (first | refine blk_drewN ?_ _ | refine blk_drew ?_ | refine blk_alloc ?_ _)); exact BK881.out) hb)
    have n1_ := Aside0.mk (blk_below (g := g2_0) (o := .cells #[.slice (some ad885) l2_0.length c2_0] 43 (0, 0)) (by (with_reducible repeat (first | refine blk_drewN ?_ _ | refine blk_drew ?_ | refine blk_alloc ?_ _)); exact BK882.out) hb)
    have n2_ := Aside0.mk (blk_below (g := g3_0) (o := .cells #[.int .i64 a3_0] 3 (0, 0)) (by (with_reducible repeat (first | refine blk_drewN ?_ _ | refine blk_drew ?_ | refine blk_alloc ?_ _)); exact BK883.out) hb)
    have n3_ := Aside0.mk (below_step (by repeat (first | (with_reducible first | exact HB.out | apply below_alloc | apply pw_below_drewN | apply below_drew1 | refine below_set ?_ GE881.out | refine below_set ?_ GE882.out | refine below_set ?_ GE883.out) | exact HB.out)) hb)
    clear BK881
    clear BK882
    clear BK883
    clear HB
    have BK881 := n0_
    have BK882 := n1_
    have BK883 := n2_
    have HB := n3_
    clear n0_ n1_ n2_ n3_
    (try clear hb)
    (try clear hb2)
    (try clear hk)
    (try clear hi)
    refine hK.out _ _ ⟨(blk_cell BK881.out 0).trans rfl, (blk_cell BK882.out 0).trans rfl, (blk_cell BK883.out 0).trans rfl, ((HB.out.cell (World.block_lt_of_cell? w _ hw885_0)).trans hw885_0)⟩ (fun hHeld => ?_)
    clear hK K
    refine norm_ (a' := ?_) ?_ ?_
    rotate_left
    · show Act.put _ (some 8) _ = _
      simp only [Act.put, List.setIfInBounds_toArray, List.set_cons_zero, List.set_cons_succ, i64_w, i32_w]
      rfl
    refine pure_ (i := 7) (N := some 13) (v := ?_) (a' := ?_) #[true, true, true, true, true, true, true, true, true, true, true, true, false, false] rfl rfl (any_of HT_.out (by kernel_rfl)) (fun _ _ _ h => h) (Or.inl ⟨by rfl, ?_⟩) ?_ ?_
    rotate_left
    · intro w'
      go_simp
      with_reducible rfl
    rotate_left
    · simp only [Act.put, List.setIfInBounds_toArray, List.set_cons_zero, List.set_cons_succ, i64_w, i32_w]
      rfl
    refine pure_ (i := 12) (N := some 18) (v := ?_) (a' := ?_) #[true, true, true, true, true, true, true, true, true, true, true, true, true, false] rfl rfl (any_of HT_.out (by kernel_rfl)) (fun _ _ _ h => h) (Or.inl ⟨by rfl, ?_⟩) ?_ ?_
    rotate_left
    · intro w'
      go_simp
      with_reducible rfl
    rotate_left
    · simp only [Act.put, List.setIfInBounds_toArray, List.set_cons_zero, List.set_cons_succ, i64_w, i32_w]
      rfl
    refine pure_ (i := 13) (N := some 5) (v := ?_) (a' := ?_) #[true, true, true, true, true, true, true, true, true, true, true, true, true, true] rfl rfl (any_of HT_.out (by kernel_rfl)) (fun _ _ _ h => h) (Or.inl ⟨by rfl, ?_⟩) ?_ ?_
    rotate_left
    · intro w'
      go_simp
      with_reducible rfl
    rotate_left
    · simp only [Act.put, List.setIfInBounds_toArray, List.set_cons_zero, List.set_cons_succ, i64_w, i32_w]
      rfl
    refine done_ (done_of HT_.out (by kernel_rfl)) ?_
    try go_wp2
    go_ret
    exact ⟨by first | rfl | (simp [errW_none, errW_some] <;> rfl) | (simp [*, errW_none, errW_some] <;> rfl), by repeat (first | (with_reducible first | exact HB.out | apply below_alloc | apply pw_below_drewN | apply below_drew1 | refine below_set ?_ GE881.out | refine below_set ?_ GE882.out | refine below_set ?_ GE883.out) | exact HB.out)⟩
  · rw [if_neg c6] at H
    exact absurd H (by simp)

/-! ### slices_IndexFunc_int_int_at_impl_Poset_even_1: function 109 -/
def slices_IndexFunc_int_int_at_impl_Poset_even_1.l0 : Nat → List (List Int) → Int → Int → List (List Int) → Int → Option (Int)
  | 0, _, _, _, _, _ => none
  | k + 1, x0, x7, x8, x888000, x889000 => if x8 < x7 then (if 0 ≤ x8 then (if x8 < (x0.length : Int) then ((impl_Poset_even_1_c.f k (rd_L1 x0 x8) x888000 x889000).bind fun t890 => (if t890 = true then (some x8) else (slices_IndexFunc_int_int_at_impl_Poset_even_1.l0 k x0 x7 (wrap64 (x8 + 1)) x888000 x889000))) else (none)) else (none)) else (some (-1))
def slices_IndexFunc_int_int_at_impl_Poset_even_1.f (k : Nat) (l0 : List (List Int)) (l1_0 : List (List Int)) (a1_1 : Int) : Option (Int) := slices_IndexFunc_int_int_at_impl_Poset_even_1.l0 k l0 (l0.length : Int) 0 l1_0 a1_1
theorem slices_IndexFunc_int_int_at_impl_Poset_even_1.mono_l : ∀ k, (∀ y0 y1 y2 y3 y4, LeO (slices_IndexFunc_int_int_at_impl_Poset_even_1.l0 k y0 y1 y2 y3 y4) (slices_IndexFunc_int_int_at_impl_Poset_even_1.l0 (k + 1) y0 y1 y2 y3 y4))
  | 0 => fun _ _ _ _ _ r h => by simp [slices_IndexFunc_int_int_at_impl_Poset_even_1.l0] at h
  | k + 1 => by
    have ih0 := slices_IndexFunc_int_int_at_impl_Poset_even_1.mono_l k
    · intro y0 y1 y2 y3 y4
      unfold slices_IndexFunc_int_int_at_impl_Poset_even_1.l0
      repeat' first
      | (with_reducible exact ih0 _ _ _ _ _)
      | (with_reducible exact impl_Poset_even_1_c.mono _ _ _ _)
      | (with_reducible exact LeO.refl _)
      | (with_reducible exact LeO.none _)
      | (with_reducible refine LeO.ite ?_ ?_)
      | (with_reducible refine LeO.bind ?_ (fun _ => ?_))
      | exact ih0 _ _ _ _ _
      | exact impl_Poset_even_1_c.mono _ _ _ _
      | exact LeO.none _
      | refine LeO.ite ?_ ?_
      | refine LeO.bind ?_ (fun _ => ?_)
theorem slices_IndexFunc_int_int_at_impl_Poset_even_1.mono : ∀ a0 a1 a2 k, LeO (slices_IndexFunc_int_int_at_impl_Poset_even_1.f k a0 a1 a2) (slices_IndexFunc_int_int_at_impl_Poset_even_1.f (k + 1) a0 a1 a2) := by
  intro a0 a1 a2 k
  have ih0 := slices_IndexFunc_int_int_at_impl_Poset_even_1.mono_l k
  unfold slices_IndexFunc_int_int_at_impl_Poset_even_1.f
  repeat' first
      | (with_reducible exact ih0 _ _ _ _ _)
      | (with_reducible exact impl_Poset_even_1_c.mono _ _ _ _)
      | (with_reducible exact LeO.refl _)
      | (with_reducible exact LeO.none _)
      | (with_reducible refine LeO.ite ?_ ?_)
      | (with_reducible refine LeO.bind ?_ (fun _ => ?_))
      | exact ih0 _ _ _ _ _
      | exact impl_Poset_even_1_c.mono _ _ _ _
      | exact LeO.none _
      | refine LeO.ite ?_ ?_
      | refine LeO.bind ?_ (fun _ => ?_)
set_option maxHeartbeats 8000000 in
set_option maxRecDepth 100000 in
theorem slices_IndexFunc_int_int_at_impl_Poset_even_1.calls (k : Nat) (A0 : Option Addr) (c0 : Nat) (l0 : List (List Int)) (g1_0 : Nat) (g1_1 : Nat) (g1_2 : Nat) (A1_0 : Option Addr) (c1_0 : Nat) (l1_0 : List (List Int)) (a1_1 : Int) (r : Int) (w : World) (hr0 : Kd.C (Kd.slice 3 (Kd.int .i64)) w A0 l0.length l0) (hc0 : l0.length ≤ c0) (hb1_0 : w.heap[g1_0]? = some (.cells #[.func (.func 65) #[] #[]] 58 (0, 0))) (hb1_1 : w.heap[g1_1]? = some (.cells #[.slice A1_0 l1_0.length c1_0] 43 (0, 0))) (hb1_2 : w.heap[g1_2]? = some (.cells #[.int .i64 a1_1] 3 (0, 0))) (hr1_0 : Kd.C (Kd.slice 3 (Kd.int .i64)) w A1_0 l1_0.length l1_0) (hc1_0 : l1_0.length ≤ c1_0) (hx0_1 : g1_0 ≠ g1_1) (hx0_2 : g1_0 ≠ g1_2) (hx1_2 : g1_1 ≠ g1_2) (h : slices_IndexFunc_int_int_at_impl_Poset_even_1.f k l0 l1_0 a1_1 = some r) :
    Calls Try.prog 109 #[.slice A0 l0.length c0, .func (.func 95) #[] #[.pointer (some ⟨g1_0, 0, none⟩), .pointer (some ⟨g1_1, 0, none⟩), .pointer (some ⟨g1_2, 0, none⟩)]] w fun e w' => e = .returned (.int .i64 r) ∧ Below w.heap.size w w' := by
  have HR0 := Aside0.mk hr0
  have HC0 := Aside0.mk hc0
  clear hr0 hc0
  have HR1_0 := Aside0.mk hr1_0
  have HC1_0 := Aside0.mk hc1_0
  clear hr1_0 hc1_0
  have BK886 := Aside0.mk hb1_0
  clear hb1_0
  have BK887 := Aside0.mk hb1_1
  clear hb1_1
  have BK888 := Aside0.mk hb1_2
  clear hb1_2
  have NB886_887 := Aside0.mk hx0_1
  have NB887_886 := Aside0.mk hx0_1.symm
  clear hx0_1
  have NB886_888 := Aside0.mk hx0_2
  have NB888_886 := Aside0.mk hx0_2.symm
  clear hx0_2
  have NB887_888 := Aside0.mk hx1_2
  have NB888_887 := Aside0.mk hx1_2.symm
  clear hx1_2
  have HB := Aside0.mk (Below.refl w.heap.size w)
  have H : (slices_IndexFunc_int_int_at_impl_Poset_even_1.l0 k l0 (l0.length : Int) 0 l1_0 a1_1) = some r := h
  clear h
  have H' := Aside0.mk H
  clear H
  go_enter Try.func109, Try.ntmps109
  go_wp2
  go_loopg [8] k (fun kq v8 w' => ∃ (x8_1 : Int), v8 = .int .i64 x8_1 ∧ Aside0 (slices_IndexFunc_int_int_at_impl_Poset_even_1.l0 kq l0 (l0.length : Int) x8_1 l1_0 a1_1 = some r) ∧ Aside0 (kq ≤ k) ∧ Aside0 (w'.heap[g1_0]? = some (.cells #[.func (.func 65) #[] #[]] 58 (0, 0))) ∧ Aside0 (w'.heap[g1_1]? = some (.cells #[(.slice A1_0 l1_0.length c1_0)] 43 (0, 0))) ∧ Aside0 (w'.heap[g1_2]? = some (.cells #[.int .i64 a1_1] 3 (0, 0))) ∧ Aside0 (Below w.heap.size w w'))
  case atStart => exact ⟨(0), (by first | rfl | (simp; done) | (simp [*]; done)), H', ⟨Nat.le_refl _⟩, ⟨by (with_reducible repeat (first | refine blk_drewN ?_ _ | refine blk_drew ?_ | refine blk_alloc ?_ _)); exact BK886.out⟩, ⟨by (with_reducible repeat (first | refine blk_drewN ?_ _ | refine blk_drew ?_ | refine blk_alloc ?_ _)); exact BK887.out⟩, ⟨by (with_reducible repeat (first | refine blk_drewN ?_ _ | refine blk_drew ?_ | refine blk_alloc ?_ _)); exact BK888.out⟩, ⟨by repeat (first | (with_reducible first | exact HB.out | apply below_alloc | apply pw_below_drewN | apply below_drew1 | refine below_set ?_ GE886.out | refine below_set ?_ GE887.out | refine below_set ?_ GE888.out) | exact HB.out)⟩⟩
  case round =>
    clear H'
    try clear c1
    try clear hx1
    try clear p2
    try clear hx0_1
    try clear hx0_2
    try clear hx1_2
    obtain ⟨x8_1, rfl, HA, HK1, BK886, BK887, BK888, HB⟩ := hrel
    cases gk with
    | zero => exact absurd HA.out (by simp [slices_IndexFunc_int_int_at_impl_Poset_even_1.l0])
    | succ k1 =>
      have H := HA.out
      clear HA
      simp only [slices_IndexFunc_int_int_at_impl_Poset_even_1.l0] at H
      by_cases c3 : x8_1 < (l0.length : Int)
      · rw [if_pos c3] at H
        have c3b0 : decide (x8_1 < (l0.length : Int)) = true := decide_eq_true c3
        clear c3
        by_cases c4 : 0 ≤ x8_1
        · rw [if_pos c4] at H
          have c4b0 : decide (0 ≤ x8_1) = true := decide_eq_true c4
          clear c4
          by_cases c5 : x8_1 < (l0.length : Int)
          · rw [if_pos c5] at H
            have c5b0 : decide (x8_1 < (l0.length : Int)) = true := decide_eq_true c5
            clear c5
            replace H := Option.bind_eq_some_iff.mp H
            obtain ⟨t890, A60, H⟩ := H
            replace H : (if t890 = true then (some x8_1) else (slices_IndexFunc_int_int_at_impl_Poset_even_1.l0 k1 l0 (l0.length : Int) (wrap64 (x8_1 + 1)) l1_0 a1_1)) = some r := H
            have A6 := Aside0.mk A60
            clear A60
            by_cases c7 : t890 = true
            · subst c7
              have H1 : (some x8_1) = some r := by rw [if_pos rfl] at H; exact H
              clear H
              have H := H1
              clear H1
              obtain rfl := Option.some.inj H
              have p889 : 0 ≤ (x8_1 : Int) := of_decide_eq_true (by first | (with_reducible assumption) | assumption)
              have q889 : x8_1 < (l0.length : Int) := of_decide_eq_true (by first | (with_reducible assumption) | assumption)
              obtain ⟨ad889, A889_0, c889_0, e889, hx889_0, hl889_0, hi889_0⟩ := at_L1 HR0.out x8_1 p889 q889
              cases e889
              replace hx889_0 := (HB.out.cell (World.block_lt_of_cell? w _ hx889_0)).trans hx889_0
              have HR889_0 := Aside0.mk hi889_0
              have HC889_0 := Aside0.mk hl889_0
              clear hi889_0 hl889_0
              replace p889 := eq_true p889
              replace q889 := eq_true q889
              go_wp2_with (first | (go_at_call 95; (with_reducible refine (impl_Poset_even_1_c.calls k1 _ _ (rd_L1 l0 x8_1) g1_0 g1_1 A1_0 c1_0 l1_0 g1_2 a1_1 true _ ?side1 ?side2 ?side3 ?side4 ?side5 ?side6 ?side7 ?side8 ?side9 ?side10 A6.out).mono ?_); (case side1 => repeat (first | exact (Kd.C_below HR889_0.out HB.out) | (with_reducible refine Kd.C_alloc ?_ _) | (with_reducible refine Kd.C_drewN ?_ _) | (with_reducible refine Kd.C_drew ?_))); (case side2 => exact HC889_0.out); (case side3 => (with_reducible repeat (first | refine blk_drewN ?_ _ | refine blk_drew ?_ | refine blk_alloc ?_ _)); exact BK886.out); (case side4 => (with_reducible repeat (first | refine blk_drewN ?_ _ | refine blk_drew ?_ | refine blk_alloc ?_ _)); exact BK887.out); (case side5 => repeat (first | exact (Kd.C_below HR1_0.out HB.out) | (with_reducible refine Kd.C_alloc ?_ _) | (with_reducible refine Kd.C_drewN ?_ _) | (with_reducible refine Kd.C_drew ?_))); (case side6 => exact HC1_0.out); (case side7 => (with_reducible repeat (first | refine blk_drewN ?_ _ | refine blk_drew ?_ | refine blk_alloc ?_ _)); exact BK888.out); (case side8 => exact NB886_887.out); (case side9 => exact NB886_888.out); (case side10 => exact NB887_888.out); rintro e w8 ⟨rfl, hb⟩; have n0_ := Aside0.mk (blk_below (g := g1_0) (o := .cells #[.func (.func 65) #[] #[]] 58 (0, 0)) (by (with_reducible repeat (first | refine blk_drewN ?_ _ | refine blk_drew ?_ | refine blk_alloc ?_ _)); exact BK886.out) hb); have n1_ := Aside0.mk (blk_below (g := g1_1) (o := .cells #[.slice A1_0 l1_0.length c1_0] 43 (0, 0)) (by (with_reducible repeat (first | refine blk_drewN ?_ _ | refine blk_drew ?_ | refine blk_alloc ?_ _)); exact BK887.out) hb); have n2_ := Aside0.mk (blk_below (g := g1_2) (o := .cells #[.int .i64 a1_1] 3 (0, 0)) (by (with_reducible repeat (first | refine blk_drewN ?_ _ | refine blk_drew ?_ | refine blk_alloc ?_ _)); exact BK888.out) hb); have n3_ := Aside0.mk (below_step (by repeat (first | (with_reducible first | exact HB.out | apply below_alloc | apply pw_below_drewN | apply below_drew1 | refine below_set ?_ GE886.out | refine below_set ?_ GE887.out | refine below_set ?_ GE888.out) | exact HB.out)) hb); clear BK886; clear BK887; clear BK888; clear HB; have BK886 := n0_; have BK887 := n1_; have BK888 := n2_; have HB := n3_; clear n0_ n1_ n2_ n3_; (try clear hb); (try clear hb2); (try clear hk); (try clear hi)))
              go_ret
              exact ⟨by first | rfl | (simp [errW_none, errW_some] <;> rfl) | (simp [*, errW_none, errW_some] <;> rfl), by repeat (first | (with_reducible first | exact HB.out | apply below_alloc | apply pw_below_drewN | apply below_drew1 | refine below_set ?_ GE886.out | refine below_set ?_ GE887.out | refine below_set ?_ GE888.out) | exact HB.out)⟩
            · replace c7 := Bool.eq_false_iff.mpr c7
              subst c7
              have H1 : (slices_IndexFunc_int_int_at_impl_Poset_even_1.l0 k1 l0 (l0.length : Int) (wrap64 (x8_1 + 1)) l1_0 a1_1) = some r := by rw [if_neg (show ¬ (false = true) by decide)] at H; exact H
              clear H
              have H := H1
              clear H1
              have H' := Aside0.mk H
              clear H
              have p889 : 0 ≤ (x8_1 : Int) := of_decide_eq_true (by first | (with_reducible assumption) | assumption)
              have q889 : x8_1 < (l0.length : Int) := of_decide_eq_true (by first | (with_reducible assumption) | assumption)
              obtain ⟨ad889, A889_0, c889_0, e889, hx889_0, hl889_0, hi889_0⟩ := at_L1 HR0.out x8_1 p889 q889
              cases e889
              replace hx889_0 := (HB.out.cell (World.block_lt_of_cell? w _ hx889_0)).trans hx889_0
              have HR889_0 := Aside0.mk hi889_0
              have HC889_0 := Aside0.mk hl889_0
              clear hi889_0 hl889_0
              replace p889 := eq_true p889
              replace q889 := eq_true q889
              go_wp2_with (first | (go_at_call 95; (with_reducible refine (impl_Poset_even_1_c.calls k1 _ _ (rd_L1 l0 x8_1) g1_0 g1_1 A1_0 c1_0 l1_0 g1_2 a1_1 false _ ?side1 ?side2 ?side3 ?side4 ?side5 ?side6 ?side7 ?side8 ?side9 ?side10 A6.out).mono ?_); (case side1 => repeat (first | exact (Kd.C_below HR889_0.out HB.out) | (with_reducible refine Kd.C_alloc ?_ _) | (with_reducible refine Kd.C_drewN ?_ _) | (with_reducible refine Kd.C_drew ?_))); (case side2 => exact HC889_0.out); (case side3 => (with_reducible repeat (first | refine blk_drewN ?_ _ | refine blk_drew ?_ | refine blk_alloc ?_ _)); exact BK886.out); (case side4 => (with_reducible repeat (first | refine blk_drewN ?_ _ | refine blk_drew ?_ | refine blk_alloc ?_ _)); exact BK887.out); (case side5 => repeat (first | exact (Kd.C_below HR1_0.out HB.out) | (with_reducible refine Kd.C_alloc ?_ _) | (with_reducible refine Kd.C_drewN ?_ _) | (with_reducible refine Kd.C_drew ?_))); (case side6 => exact HC1_0.out); (case side7 => (with_reducible repeat (first | refine blk_drewN ?_ _ | refine blk_drew ?_ | refine blk_alloc ?_ _)); exact BK888.out); (case side8 => exact NB886_887.out); (case side9 => exact NB886_888.out); (case side10 => exact NB887_888.out); rintro e w9 ⟨rfl, hb⟩; have n0_ := Aside0.mk (blk_below (g := g1_0) (o := .cells #[.func (.func 65) #[] #[]] 58 (0, 0)) (by (with_reducible repeat (first | refine blk_drewN ?_ _ | refine blk_drew ?_ | refine blk_alloc ?_ _)); exact BK886.out) hb); have n1_ := Aside0.mk (blk_below (g := g1_1) (o := .cells #[.slice A1_0 l1_0.length c1_0] 43 (0, 0)) (by (with_reducible repeat (first | refine blk_drewN ?_ _ | refine blk_drew ?_ | refine blk_alloc ?_ _)); exact BK887.out) hb); have n2_ := Aside0.mk (blk_below (g := g1_2) (o := .cells #[.int .i64 a1_1] 3 (0, 0)) (by (with_reducible repeat (first | refine blk_drewN ?_ _ | refine blk_drew ?_ | refine blk_alloc ?_ _)); exact BK888.out) hb); have n3_ := Aside0.mk (below_step (by repeat (first | (with_reducible first | exact HB.out | apply below_alloc | apply pw_below_drewN | apply below_drew1 | refine below_set ?_ GE886.out | refine below_set ?_ GE887.out | refine below_set ?_ GE888.out) | exact HB.out)) hb); clear BK886; clear BK887; clear BK888; clear HB; have BK886 := n0_; have BK887 := n1_; have BK888 := n2_; have HB := n3_; clear n0_ n1_ n2_ n3_; (try clear hb); (try clear hb2); (try clear hk); (try clear hi)))
              go_roundg k1
              case measure => have := HK1.out; omega
              case rel => exact ⟨(wrap64 (x8_1 + 1)), (by first | rfl | (simp; done) | (simp [*]; done)), H', ⟨by have := HK1.out; omega⟩, ⟨by (with_reducible repeat (first | refine blk_drewN ?_ _ | refine blk_drew ?_ | refine blk_alloc ?_ _)); exact BK886.out⟩, ⟨by (with_reducible repeat (first | refine blk_drewN ?_ _ | refine blk_drew ?_ | refine blk_alloc ?_ _)); exact BK887.out⟩, ⟨by (with_reducible repeat (first | refine blk_drewN ?_ _ | refine blk_drew ?_ | refine blk_alloc ?_ _)); exact BK888.out⟩, ⟨by repeat (first | (with_reducible first | exact HB.out | apply below_alloc | apply pw_below_drewN | apply below_drew1 | refine below_set ?_ GE886.out | refine below_set ?_ GE887.out | refine below_set ?_ GE888.out) | exact HB.out)⟩⟩
          · rw [if_neg c5] at H
            exact absurd H (by simp)
        · rw [if_neg c4] at H
          exact absurd H (by simp)
      · rw [if_neg c3] at H
        have c3b0 : decide (x8_1 < (l0.length : Int)) = false := decide_eq_false c3
        clear c3
        obtain rfl := Option.some.inj H
        go_wp2
        go_ret
        exact ⟨by first | rfl | (simp [errW_none, errW_some] <;> rfl) | (simp [*, errW_none, errW_some] <;> rfl), by repeat (first | (with_reducible first | exact HB.out | apply below_alloc | apply pw_below_drewN | apply below_drew1 | refine below_set ?_ GE886.out | refine below_set ?_ GE887.out | refine below_set ?_ GE888.out) | exact HB.out)⟩

/-! ### slices_ContainsFunc_int_int_at_impl_Poset_even_1: function 94 -/
def slices_ContainsFunc_int_int_at_impl_Poset_even_1.f (k : Nat) (l0 : List (List Int)) (l1_0 : List (List Int)) (a1_1 : Int) : Option (Bool) := (slices_IndexFunc_int_int_at_impl_Poset_even_1.f k l0 l1_0 a1_1).bind fun t894 => (some (decide (t894 ≥ 0)))
theorem slices_ContainsFunc_int_int_at_impl_Poset_even_1.mono : ∀ a0 a1 a2 k, LeO (slices_ContainsFunc_int_int_at_impl_Poset_even_1.f k a0 a1 a2) (slices_ContainsFunc_int_int_at_impl_Poset_even_1.f (k + 1) a0 a1 a2) := by
  intro a0 a1 a2 k
  unfold slices_ContainsFunc_int_int_at_impl_Poset_even_1.f
  repeat' first
      | (with_reducible exact slices_IndexFunc_int_int_at_impl_Poset_even_1.mono _ _ _ _)
      | (with_reducible exact LeO.refl _)
      | (with_reducible exact LeO.none _)
      | (with_reducible refine LeO.ite ?_ ?_)
      | (with_reducible refine LeO.bind ?_ (fun _ => ?_))
      | exact slices_IndexFunc_int_int_at_impl_Poset_even_1.mono _ _ _ _
      | exact LeO.none _
      | refine LeO.ite ?_ ?_
      | refine LeO.bind ?_ (fun _ => ?_)
set_option maxHeartbeats 8000000 in
set_option maxRecDepth 100000 in
theorem slices_ContainsFunc_int_int_at_impl_Poset_even_1.calls (k : Nat) (A0 : Option Addr) (c0 : Nat) (l0 : List (List Int)) (g1_0 : Nat) (g1_1 : Nat) (g1_2 : Nat) (A1_0 : Option Addr) (c1_0 : Nat) (l1_0 : List (List Int)) (a1_1 : Int) (r : Bool) (w : World) (hr0 : Kd.C (Kd.slice 3 (Kd.int .i64)) w A0 l0.length l0) (hc0 : l0.length ≤ c0) (hb1_0 : w.heap[g1_0]? = some (.cells #[.func (.func 65) #[] #[]] 58 (0, 0))) (hb1_1 : w.heap[g1_1]? = some (.cells #[.slice A1_0 l1_0.length c1_0] 43 (0, 0))) (hb1_2 : w.heap[g1_2]? = some (.cells #[.int .i64 a1_1] 3 (0, 0))) (hr1_0 : Kd.C (Kd.slice 3 (Kd.int .i64)) w A1_0 l1_0.length l1_0) (hc1_0 : l1_0.length ≤ c1_0) (hx0_1 : g1_0 ≠ g1_1) (hx0_2 : g1_0 ≠ g1_2) (hx1_2 : g1_1 ≠ g1_2) (h : slices_ContainsFunc_int_int_at_impl_Poset_even_1.f k l0 l1_0 a1_1 = some r) :
    Calls Try.prog 94 #[.slice A0 l0.length c0, .func (.func 95) #[] #[.pointer (some ⟨g1_0, 0, none⟩), .pointer (some ⟨g1_1, 0, none⟩), .pointer (some ⟨g1_2, 0, none⟩)]] w fun e w' => e = .returned (.bool r) ∧ Below w.heap.size w w' := by
  have HR0 := Aside0.mk hr0
  have HC0 := Aside0.mk hc0
  clear hr0 hc0
  have HR1_0 := Aside0.mk hr1_0
  have HC1_0 := Aside0.mk hc1_0
  clear hr1_0 hc1_0
  have BK891 := Aside0.mk hb1_0
  clear hb1_0
  have BK892 := Aside0.mk hb1_1
  clear hb1_1
  have BK893 := Aside0.mk hb1_2
  clear hb1_2
  have NB891_892 := Aside0.mk hx0_1
  have NB892_891 := Aside0.mk hx0_1.symm
  clear hx0_1
  have NB891_893 := Aside0.mk hx0_2
  have NB893_891 := Aside0.mk hx0_2.symm
  clear hx0_2
  have NB892_893 := Aside0.mk hx1_2
  have NB893_892 := Aside0.mk hx1_2.symm
  clear hx1_2
  have HB := Aside0.mk (Below.refl w.heap.size w)
  have H : ((slices_IndexFunc_int_int_at_impl_Poset_even_1.f k l0 l1_0 a1_1).bind fun t894 => (some (decide (t894 ≥ 0)))) = some r := h
  clear h
  replace H := Option.bind_eq_some_iff.mp H
  obtain ⟨t894, A30, H⟩ := H
  replace H : (some (decide (t894 ≥ 0))) = some r := H
  have A3 := Aside0.mk A30
  clear A30
  obtain rfl := Option.some.inj H
  go_enter Try.func94, Try.ntmps94
  go_wp2_with (first | ((with_reducible refine gate_callee (f := 109) rfl ?_); refine goesL_ (some 7) rfl rfl Try.func109 (by kernel_rfl) rfl #[.slice A0 l0.length c0, .func (.func 95) #[] #[.pointer (some ⟨g1_0, 0, none⟩), .pointer (some ⟨g1_1, 0, none⟩), .pointer (some ⟨g1_2, 0, none⟩)]] rfl (by (try simp only [List.map_toArray, List.map_cons, List.map_nil]); first | done | rfl | (simp only [List.length_drop, List.length_take]; rfl)) ?_; (with_reducible refine (slices_IndexFunc_int_int_at_impl_Poset_even_1.calls k _ _ l0 g1_0 g1_1 g1_2 A1_0 c1_0 l1_0 a1_1 t894 _ ?side1 ?side2 ?side3 ?side4 ?side5 ?side6 ?side7 ?side8 ?side9 ?side10 A3.out).mono ?_); (case side1 => repeat (first | exact HR0.out | (with_reducible refine Kd.C_alloc ?_ _) | (with_reducible refine Kd.C_drewN ?_ _) | (with_reducible refine Kd.C_drew ?_))); (case side2 => exact HC0.out); (case side3 => (with_reducible repeat (first | refine blk_drewN ?_ _ | refine blk_drew ?_ | refine blk_alloc ?_ _)); exact BK891.out); (case side4 => (with_reducible repeat (first | refine blk_drewN ?_ _ | refine blk_drew ?_ | refine blk_alloc ?_ _)); exact BK892.out); (case side5 => (with_reducible repeat (first | refine blk_drewN ?_ _ | refine blk_drew ?_ | refine blk_alloc ?_ _)); exact BK893.out); (case side6 => repeat (first | exact HR1_0.out | (with_reducible refine Kd.C_alloc ?_ _) | (with_reducible refine Kd.C_drewN ?_ _) | (with_reducible refine Kd.C_drew ?_))); (case side7 => exact HC1_0.out); (case side8 => exact NB891_892.out); (case side9 => exact NB891_893.out); (case side10 => exact NB892_893.out); rintro e w4 ⟨rfl, hb⟩; refine ⟨_, rfl, ?_⟩; have n0_ := Aside0.mk (blk_below (g := g1_0) (o := .cells #[.func (.func 65) #[] #[]] 58 (0, 0)) (by (with_reducible repeat (first | refine blk_drewN ?_ _ | refine blk_drew ?_ | refine blk_alloc ?_ _)); exact BK891.out) hb); have n1_ := Aside0.mk (blk_below (g := g1_1) (o := .cells #[.slice A1_0 l1_0.length c1_0] 43 (0, 0)) (by (with_reducible repeat (first | refine blk_drewN ?_ _ | refine blk_drew ?_ | refine blk_alloc ?_ _)); exact BK892.out) hb); have n2_ := Aside0.mk (blk_below (g := g1_2) (o := .cells #[.int .i64 a1_1] 3 (0, 0)) (by (with_reducible repeat (first | refine blk_drewN ?_ _ | refine blk_drew ?_ | refine blk_alloc ?_ _)); exact BK893.out) hb); have n3_ := Aside0.mk (below_step (by repeat (first | (with_reducible first | exact HB.out | apply below_alloc | apply pw_below_drewN | apply below_drew1 | refine below_set ?_ GE891.out | refine below_set ?_ GE892.out | refine below_set ?_ GE893.out) | exact HB.out)) hb); clear BK891; clear BK892; clear BK893; clear HB; have BK891 := n0_; have BK892 := n1_; have BK893 := n2_; have HB := n3_; clear n0_ n1_ n2_ n3_; (try clear hb); (try clear hb2); (try clear hk); (try clear hi)))
  go_ret
  exact ⟨by first | rfl | (simp [errW_none, errW_some] <;> rfl) | (simp [*, errW_none, errW_some] <;> rfl), by repeat (first | (with_reducible first | exact HB.out | apply below_alloc | apply pw_below_drewN | apply below_drew1 | refine below_set ?_ GE891.out | refine below_set ?_ GE892.out | refine below_set ?_ GE893.out) | exact HB.out)⟩

/-! ### impl_Poset_even_at_impl_size: function 64 -/
def impl_Poset_even_at_impl_size.f (k : Nat) (l0_0 : List Int)  : Option (Bool) := (impl_Poset_orbits.f k l0_0).bind fun t897 => (if 0 < (t897.length : Int) then ((impl_sum_at_impl_size.f k (rd_L1 t897 0)).bind fun t902 => ((slices_ContainsFunc_int_int_at_impl_Poset_even_1.f k t897 t897 t902).bind fun t904 => (some (!t904)))) else (none))
theorem impl_Poset_even_at_impl_size.mono : ∀ a0 k, LeO (impl_Poset_even_at_impl_size.f k a0) (impl_Poset_even_at_impl_size.f (k + 1) a0) := by
  intro a0 k
  unfold impl_Poset_even_at_impl_size.f
  repeat' first
      | (with_reducible exact impl_Poset_orbits.mono _ _)
      | (with_reducible exact impl_sum_at_impl_size.mono _ _)
      | (with_reducible exact slices_ContainsFunc_int_int_at_impl_Poset_even_1.mono _ _ _ _)
      | (with_reducible exact LeO.refl _)
      | (with_reducible exact LeO.none _)
      | (with_reducible refine LeO.ite ?_ ?_)
      | (with_reducible refine LeO.bind ?_ (fun _ => ?_))
      | exact impl_Poset_orbits.mono _ _
      | exact impl_sum_at_impl_size.mono _ _
      | exact slices_ContainsFunc_int_int_at_impl_Poset_even_1.mono _ _ _ _
      | exact LeO.none _
      | refine LeO.ite ?_ ?_
      | refine LeO.bind ?_ (fun _ => ?_)
set_option maxHeartbeats 8000000 in
set_option maxRecDepth 100000 in
theorem impl_Poset_even_at_impl_size.calls (k : Nat) (A0_0 : Option Addr) (c0_0 : Nat) (l0_0 : List Int)  (r : Bool) (w : World) (hr0_0 : Kd.C (Kd.int .i64) w A0_0 l0_0.length l0_0) (hc0_0 : l0_0.length ≤ c0_0) (h : impl_Poset_even_at_impl_size.f k l0_0 = some r) :
    Calls Try.prog 64 #[.agg #[.slice A0_0 l0_0.length c0_0], .func (.func 65) #[] #[]] w fun e w' => e = .returned (.bool r) ∧ Below w.heap.size w w' := by
  have hu34 := Try.underlying34
  have hmf_ : ∀ (f_ : Fn) (fi_ ca_ : Array Value) (W : World), (Instr.makeFunc f_ fi_ ca_).run Try.prog W = .ok (.func f_ fi_ ca_) W := fun _ _ _ _ => rfl
  have HR0_0 := Aside0.mk hr0_0
  have HC0_0 := Aside0.mk hc0_0
  clear hr0_0 hc0_0
  have HB := Aside0.mk (Below.refl w.heap.size w)
  have H : ((impl_Poset_orbits.f k l0_0).bind fun t897 => (if 0 < (t897.length : Int) then ((impl_sum_at_impl_size.f k (rd_L1 t897 0)).bind fun t902 => ((slices_ContainsFunc_int_int_at_impl_Poset_even_1.f k t897 t897 t902).bind fun t904 => (some (!t904)))) else (none))) = some r := h
  clear h
  replace H := Option.bind_eq_some_iff.mp H
  obtain ⟨t897, A30, H⟩ := H
  replace H : (if 0 < (t897.length : Int) then ((impl_sum_at_impl_size.f k (rd_L1 t897 0)).bind fun t902 => ((slices_ContainsFunc_int_int_at_impl_Poset_even_1.f k t897 t897 t902).bind fun t904 => (some (!t904)))) else (none)) = some r := H
  have A3 := Aside0.mk A30
  clear A30
  by_cases c4 : 0 < (t897.length : Int)
  · rw [if_pos c4] at H
    have c4b0 : decide (0 < (t897.length : Int)) = true := decide_eq_true c4
    have c4b1 : decide (0 < t897.length) = true := decide_eq_true (by omega)
    clear c4
    replace H := Option.bind_eq_some_iff.mp H
    obtain ⟨t902, A50, H⟩ := H
    replace H : ((slices_ContainsFunc_int_int_at_impl_Poset_even_1.f k t897 t897 t902).bind fun t904 => (some (!t904))) = some r := H
    have A5 := Aside0.mk A50
    clear A50
    replace H := Option.bind_eq_some_iff.mp H
    obtain ⟨t904, A60, H⟩ := H
    replace H : (some (!t904)) = some r := H
    have A6 := Aside0.mk A60
    clear A60
    obtain rfl := Option.some.inj H
    go_enter Try.func64, Try.ntmps64
    try go_wp2_with (first | ((with_reducible refine gate_dst (N := 2) rfl ?_); refine box_event ?hg (N := 2) ?hd (cs := #[.slice A0_0 l0_0.length c0_0]) (t := 34) ?hr ?_; (case hd => rfl); (case hg => rfl); (case hr => first | (go_simp; done) | (go_simp; rfl)); intro gb895 hg w7 hbox hb; have n0_ := Aside0.mk (below_step (by repeat (first | (with_reducible first | exact HB.out | apply below_alloc | apply pw_below_drewN | apply below_drew1) | exact HB.out)) hb); have n1_ := Aside0.mk (hbox); have n2_ := Aside0.mk ((by rw [hg]; exact (below_size (by repeat (first | (with_reducible first | exact HB.out | apply below_alloc | apply pw_below_drewN | apply below_drew1) | exact HB.out))) : w.heap.size ≤ gb895)); have n3_ := Aside0.mk ((by rw [hg]; exact (below_size (by repeat (first | (with_reducible first | exact HB.out | apply below_alloc | apply pw_below_drewN | apply below_drew1) | exact HB.out))) : w.heap.size ≤ gb895)); clear HB; have HB := n0_; have BK895 := n1_; have GW895 := n2_; have GE895 := n3_; clear n0_ n1_ n2_ n3_; clear hb hbox hg) | ((with_reducible refine gate_dst (N := 3) rfl ?_); refine box_event ?hg (N := 3) ?hd (cs := #[.func (.func 65) #[] #[]]) (t := 58) ?hr ?_; (case hd => rfl); (case hg => rfl); (case hr => first | (go_simp; done) | (go_simp; rfl)); intro gb896 hg w8 hbox hb; have n0_ := Aside0.mk (blk_below (g := gb895) (o := .cells #[.slice A0_0 l0_0.length c0_0] 34 (0, 0)) (by (with_reducible repeat (first | refine blk_drewN ?_ _ | refine blk_drew ?_ | refine blk_alloc ?_ _)); exact BK895.out) hb); have n1_ := Aside0.mk (below_step (by repeat (first | (with_reducible first | exact HB.out | apply below_alloc | apply pw_below_drewN | apply below_drew1 | refine below_set ?_ GE895.out) | exact HB.out)) hb); have n2_ := Aside0.mk (hbox); have n3_ := Aside0.mk ((by rw [hg]; exact (below_size (by repeat (first | (with_reducible first | exact HB.out | apply below_alloc | apply pw_below_drewN | apply below_drew1 | refine below_set ?_ GE895.out) | exact HB.out))) : w.heap.size ≤ gb896)); have n4_ := Aside0.mk ((by rw [hg]; exact (below_size (by repeat (first | (with_reducible first | exact HB.out | apply below_alloc | apply pw_below_drewN | apply below_drew1 | refine below_set ?_ GE895.out) | exact HB.out))) : w.heap.size ≤ gb896)); have n5_ := Aside0.mk ((by rw [hg]; exact Nat.ne_of_lt (blk_lt (g := gb895) (o := .cells #[.slice A0_0 l0_0.length c0_0] 34 (0, 0)) (by (with_reducible repeat (first | refine blk_drewN ?_ _ | refine blk_drew ?_ | refine blk_alloc ?_ _)); exact BK895.out)) : gb895 ≠ gb896)); have n6_ := Aside0.mk ((by rw [hg]; exact Nat.ne_of_gt (blk_lt (g := gb895) (o := .cells #[.slice A0_0 l0_0.length c0_0] 34 (0, 0)) (by (with_reducible repeat (first | refine blk_drewN ?_ _ | refine blk_drew ?_ | refine blk_alloc ?_ _)); exact BK895.out)) : gb896 ≠ gb895)); clear BK895; clear HB; have BK895 := n0_; have HB := n1_; have BK896 := n2_; have GW896 := n3_; have GE896 := n4_; have NB895_896 := n5_; have NB896_895 := n6_; clear n0_ n1_ n2_ n3_ n4_ n5_ n6_; clear hb hbox hg; have hnb9 := NB895_896.out; have hnc9 := NB896_895.out; have hcz10_0 : w8.cell? ⟨gb895, 0, none⟩ = some (.slice A0_0 l0_0.length c0_0) := (blk_cell BK895.out 0).trans rfl; have hfz10_0 := blk_frozen BK895.out 0) | ((with_reducible refine gate_callee (f := 61) rfl ?_); refine goesL_ (some 8) rfl rfl Try.func61 (by kernel_rfl) rfl #[.agg #[.slice A0_0 l0_0.length c0_0]] rfl (by (try simp only [List.map_toArray, List.map_cons, List.map_nil]); first | done | rfl | (simp only [List.length_drop, List.length_take]; rfl)) ?_; (with_reducible refine (impl_Poset_orbits.calls k _ _ l0_0 t897 _ ?side1 ?side2 A3.out).mono ?_); (case side1 => repeat (first | exact (Kd.C_below HR0_0.out HB.out) | (with_reducible refine Kd.C_alloc ?_ _) | (with_reducible refine Kd.C_drewN ?_ _) | (with_reducible refine Kd.C_drew ?_))); (case side2 => exact HC0_0.out); rintro e w11 ⟨v898, rfl, ho0, hb⟩; refine ⟨_, rfl, ?_⟩; have n0_ := Aside0.mk (Kd.S_lower ho0 (below_size (by repeat (first | (with_reducible first | exact HB.out | apply below_alloc | apply pw_below_drewN | apply below_drew1 | refine below_set ?_ GE895.out | refine below_set ?_ GE896.out) | exact HB.out)))); have n1_ := Aside0.mk (blk_below (g := gb895) (o := .cells #[.slice A0_0 l0_0.length c0_0] 34 (0, 0)) (by (with_reducible repeat (first | refine blk_drewN ?_ _ | refine blk_drew ?_ | refine blk_alloc ?_ _)); exact BK895.out) hb); have n2_ := Aside0.mk (blk_below (g := gb896) (o := .cells #[.func (.func 65) #[] #[]] 58 (0, 0)) (by (with_reducible repeat (first | refine blk_drewN ?_ _ | refine blk_drew ?_ | refine blk_alloc ?_ _)); exact BK896.out) hb); have n3_ := Aside0.mk (below_step (by repeat (first | (with_reducible first | exact HB.out | apply below_alloc | apply pw_below_drewN | apply below_drew1 | refine below_set ?_ GE895.out | refine below_set ?_ GE896.out) | exact HB.out)) hb); clear BK895; clear BK896; clear HB; have HO899 := n0_; have BK895 := n1_; have BK896 := n2_; have HB := n3_; clear n0_ n1_ n2_ n3_; (try clear hb); (try clear hb2); (try clear hk); (try clear hi); (try clear ho0)) | ((with_reducible refine gate_dst (N := 5) rfl ?_); refine box_event ?hg (N := 5) ?hd (cs := #[.slice none 0 0]) (t := 43) ?hr ?_; (case hd => rfl); (case hg => rfl); (case hr => first | (go_simp; done) | (go_simp; rfl)); intro gb900 hg w12 hbox hb; have n0_ := Aside0.mk (Kd.S_below (by (with_reducible repeat (first | apply Kd.S_alloc | apply Kd.S_drewN | apply Kd.S_drew)); exact HO899.out) hb); have n1_ := Aside0.mk (blk_below (g := gb895) (o := .cells #[.slice A0_0 l0_0.length c0_0] 34 (0, 0)) (by (with_reducible repeat (first | refine blk_drewN ?_ _ | refine blk_drew ?_ | refine blk_alloc ?_ _)); exact BK895.out) hb); have n2_ := Aside0.mk (blk_below (g := gb896) (o := .cells #[.func (.func 65) #[] #[]] 58 (0, 0)) (by (with_reducible repeat (first | refine blk_drewN ?_ _ | refine blk_drew ?_ | refine blk_alloc ?_ _)); exact BK896.out) hb); have n3_ := Aside0.mk (below_step (by repeat (first | (with_reducible first | exact HB.out | apply below_alloc | apply pw_below_drewN | apply below_drew1 | refine below_set ?_ GE895.out | refine below_set ?_ GE896.out) | exact HB.out)) hb); have n4_ := Aside0.mk (hbox); have n5_ := Aside0.mk ((by rw [hg]; exact (below_size (by repeat (first | (with_reducible first | exact HB.out | apply below_alloc | apply pw_below_drewN | apply below_drew1 | refine below_set ?_ GE895.out | refine below_set ?_ GE896.out) | exact HB.out))) : w.heap.size ≤ gb900)); have n6_ := Aside0.mk ((by rw [hg]; exact (below_size (by repeat (first | (with_reducible first | exact HB.out | apply below_alloc | apply pw_below_drewN | apply below_drew1 | refine below_set ?_ GE895.out | refine below_set ?_ GE896.out) | exact HB.out))) : w.heap.size ≤ gb900)); have n7_ := Aside0.mk ((by rw [hg]; exact Nat.ne_of_lt (blk_lt (g := gb895) (o := .cells #[.slice A0_0 l0_0.length c0_0] 34 (0, 0)) (by (with_reducible repeat (first | refine blk_drewN ?_ _ | refine blk_drew ?_ | refine blk_alloc ?_ _)); exact BK895.out)) : gb895 ≠ gb900)); have n8_ := Aside0.mk ((by rw [hg]; exact Nat.ne_of_gt (blk_lt (g := gb895) (o := .cells #[.slice A0_0 l0_0.length c0_0] 34 (0, 0)) (by (with_reducible repeat (first | refine blk_drewN ?_ _ | refine blk_drew ?_ | refine blk_alloc ?_ _)); exact BK895.out)) : gb900 ≠ gb895)); have n9_ := Aside0.mk ((by rw [hg]; exact Nat.ne_of_lt (blk_lt (g := gb896) (o := .cells #[.func (.func 65) #[] #[]] 58 (0, 0)) (by (with_reducible repeat (first | refine blk_drewN ?_ _ | refine blk_drew ?_ | refine blk_alloc ?_ _)); exact BK896.out)) : gb896 ≠ gb900)); have n10_ := Aside0.mk ((by rw [hg]; exact Nat.ne_of_gt (blk_lt (g := gb896) (o := .cells #[.func (.func 65) #[] #[]] 58 (0, 0)) (by (with_reducible repeat (first | refine blk_drewN ?_ _ | refine blk_drew ?_ | refine blk_alloc ?_ _)); exact BK896.out)) : gb900 ≠ gb896)); clear HO899; clear BK895; clear BK896; clear HB; have HO899 := n0_; have BK895 := n1_; have BK896 := n2_; have HB := n3_; have BK900 := n4_; have GW900 := n5_; have GE900 := n6_; have NB895_900 := n7_; have NB900_895 := n8_; have NB896_900 := n9_; have NB900_896 := n10_; clear n0_ n1_ n2_ n3_ n4_ n5_ n6_ n7_ n8_ n9_ n10_; clear hb hbox hg; obtain ⟨Ao13, co13, eo13⟩ := Kd.S_slice HO899.out; subst eo13; have hnb14 := NB900_895.out; have hnc14 := NB895_900.out; have hnb15 := NB900_896.out; have hnc15 := NB896_900.out; have hcz16_0 : w12.cell? ⟨gb900, 0, none⟩ = some (.slice none 0 0) := (blk_cell BK900.out 0).trans rfl; have hfz16_0 := blk_frozen BK900.out 0))
    have n0_ : Aside0 (Kd.S (Kd.slice 3 (Kd.int .i64)) 22 (w12.setCell ⟨gb900, 0, none⟩ (.slice Ao13 t897.length co13)) w.heap.size (fun _ => True) (.slice Ao13 t897.length co13) t897) := ⟨by (with_reducible repeat (first | apply Kd.S_alloc | apply Kd.S_drewN | apply Kd.S_drew)); exact Kd.S_mono (Kd.S_far (p := ⟨gb900, 0, none⟩) (Kd.S_types HO899.out BK900.out (by decide)) (fun _ hk => hk.2) (.slice Ao13 t897.length co13)) (fun _ hk => trivial)⟩
    have n1_ : Aside0 ((w12.setCell ⟨gb900, 0, none⟩ (.slice Ao13 t897.length co13)).heap[gb895]? = some (.cells #[.slice A0_0 l0_0.length c0_0] 34 (0, 0))) := ⟨by (with_reducible repeat (first | refine blk_drewN ?_ _ | refine blk_drew ?_ | refine blk_alloc ?_ _)); refine blk_far ?_ NB895_900.out _; (with_reducible repeat (first | refine blk_drewN ?_ _ | refine blk_drew ?_ | refine blk_alloc ?_ _)); exact BK895.out⟩
    have n2_ : Aside0 ((w12.setCell ⟨gb900, 0, none⟩ (.slice Ao13 t897.length co13)).heap[gb896]? = some (.cells #[.func (.func 65) #[] #[]] 58 (0, 0))) := ⟨by (with_reducible repeat (first | refine blk_drewN ?_ _ | refine blk_drew ?_ | refine blk_alloc ?_ _)); refine blk_far ?_ NB896_900.out _; (with_reducible repeat (first | refine blk_drewN ?_ _ | refine blk_drew ?_ | refine blk_alloc ?_ _)); exact BK896.out⟩
    have n3_ : Aside0 ((w12.setCell ⟨gb900, 0, none⟩ (.slice Ao13 t897.length co13)).heap[gb900]? = some (.cells #[.slice Ao13 t897.length co13] 43 (0, 0))) := ⟨by (with_reducible repeat (first | refine blk_drewN ?_ _ | refine blk_drew ?_ | refine blk_alloc ?_ _)); refine blk_put (cs := #[.slice none 0 0]) ?_ 0 _ rfl; (with_reducible repeat (first | refine blk_drewN ?_ _ | refine blk_drew ?_ | refine blk_alloc ?_ _)); exact BK900.out⟩
    have n4_ : Aside0 (Below w.heap.size w (w12.setCell ⟨gb900, 0, none⟩ (.slice Ao13 t897.length co13))) := ⟨by repeat (first | (with_reducible first | exact HB.out | apply below_alloc | apply pw_below_drewN | apply below_drew1 | refine below_set ?_ GE895.out | refine below_set ?_ GE896.out | refine below_set ?_ GE900.out) | exact HB.out)⟩
    (try clear HO899)
    (try clear BK895)
    (try clear BK896)
    (try clear BK900)
    (try clear HB)
    generalize (w12.setCell ⟨gb900, 0, none⟩ (.slice Ao13 t897.length co13)) = w17 at n0_ n1_ n2_ n3_ n4_ ⊢
    have HO899 := n0_
    have BK895 := n1_
    have BK896 := n2_
    have BK900 := n3_
    have HB := n4_
    clear n0_ n1_ n2_ n3_ n4_
    have n0_ := Aside0.mk (Kd.S_drew HO899.out)
    have n1_ := Aside0.mk (blk_drew BK895.out)
    have n2_ := Aside0.mk (blk_drew BK896.out)
    have n3_ := Aside0.mk (blk_drew BK900.out)
    have n4_ := Aside0.mk (below_drew1 HB.out)
    clear HO899
    clear BK895
    clear BK896
    clear BK900
    clear HB
    have HO899 := n0_
    have BK895 := n1_
    have BK896 := n2_
    have BK900 := n3_
    have HB := n4_
    clear n0_ n1_ n2_ n3_ n4_
    have p901 : 0 ≤ (0 : Int) := (by omega)
    have q901 : 0 < (t897.length : Int) := of_decide_eq_true (by first | (with_reducible assumption) | assumption)
    obtain ⟨ad901, A901_0, c901_0, e901, hx901_0, hl901_0, hi901_0⟩ := at_L1 (Kd.S_reads' HO899.out).2.2 0 p901 q901
    cases e901
    obtain ⟨ce901, hce901, hMe901, hcc901⟩ := Kd.S_get HO899.out [] 0 p901 (by first | exact q901 | exact of_decide_eq_true (by first | (with_reducible assumption) | assumption) | (have e_ := (Kd.S_reads' HO899.out).1; omega))
    obtain ⟨ve901_0, rfl, ge901_0⟩ := hMe901
    have hv901_0 := hcc901 0 _ rfl
    rw [Nat.add_zero, show ((Kd.slice 3 (Kd.int .i64))).sz = 1 from rfl, Nat.mul_one] at hv901_0
    replace hv901_0 := Option.some.inj (hv901_0.symm.trans hx901_0)
    rw [hv901_0] at ge901_0
    have HL901_0 := Aside0.mk (show Kd.R (Kd.int .i64) 3 _ _ _ _ (rd_L1 t897 0) from ge901_0)
    clear hv901_0 ge901_0
    clear hcc901 hce901
    have qi901 : (0 < t897.length) = True := eq_true (by omega)
    (try rw [show ((0 : Int)).toNat = 0 from rfl] at hx901_0)
    (try rw [Addr.add_zero'] at hx901_0)
    have HR901_0 := Aside0.mk hi901_0
    have HC901_0 := Aside0.mk hl901_0
    clear hi901_0 hl901_0
    replace p901 := eq_true p901
    replace q901 := eq_true q901
    refine start_ (n := 7) (S := fun w' => w'.cell? ⟨gb900, 0, none⟩ = some (.slice (some ad901) t897.length co13) ∧ w'.cell? ⟨gb896, 0, none⟩ = some (.func (.func 65) #[] #[]) ∧ w'.cell? ad901 = some (.slice A901_0 (rd_L1 t897 0).length c901_0)) (ds := []) #[false, false, false, false, false, false, false] (by kernel_rfl) rfl rfl ⟨(blk_cell BK900.out 0).trans rfl, (blk_cell BK896.out 0).trans rfl, hx901_0⟩ (fun hHeld => ?_)
    generalize w17.drew = w18 at HO899 BK895 BK896 BK900 HB HL901_0 HR901_0 hx901_0 hHeld ⊢
    refine take_ (i := 0) (N := some 9) (v := ?_) (a' := ?_) #[true, false, false, false, false, false, false] rfl rfl (by kernel_rfl) (fun _ _ _ h => h) (Or.inl ⟨by rfl, ?_⟩) hHeld ?_ ?_
    rotate_left
    · rintro w' ⟨s0, s1, s2⟩
      go_simp
      with_reducible rfl
    rotate_left
    · simp only [Act.put, List.setIfInBounds_toArray, List.set_cons_zero, List.set_cons_succ, i64_w, i32_w]
      rfl
    refine pure_ (i := 1) (N := some 10) (v := ?_) (a' := ?_) #[true, true, false, false, false, false, false] rfl rfl (by kernel_rfl) (fun _ _ _ h => h) (Or.inl ⟨by rfl, ?_⟩) ?_ ?_
    rotate_left
    · intro w'
      go_simp
      with_reducible rfl
    rotate_left
    · simp only [Act.put, List.setIfInBounds_toArray, List.set_cons_zero, List.set_cons_succ, i64_w, i32_w]
      rfl
    refine take_ (i := 2) (N := some 11) (v := ?_) (a' := ?_) #[true, true, true, false, false, false, false] rfl rfl (by kernel_rfl) (fun _ _ _ h => h) (Or.inl ⟨by rfl, ?_⟩) hHeld ?_ ?_
    rotate_left
    · rintro w' ⟨s0, s1, s2⟩
      go_simp
      with_reducible rfl
    rotate_left
    · simp only [Act.put, List.setIfInBounds_toArray, List.set_cons_zero, List.set_cons_succ, i64_w, i32_w]
      rfl
    refine take_ (i := 3) (N := some 12) (v := ?_) (a' := ?_) #[true, true, true, true, false, false, false] rfl rfl (by kernel_rfl) (fun _ _ _ h => h) (Or.inl ⟨by rfl, ?_⟩) hHeld ?_ ?_
    rotate_left
    · rintro w' ⟨s0, s1, s2⟩
      go_simp
      with_reducible rfl
    rotate_left
    · simp only [Act.put, List.setIfInBounds_toArray, List.set_cons_zero, List.set_cons_succ, i64_w, i32_w]
      rfl
    refine join_ (σ := Nat) 1 #[true, true, true, true, true, true, false] (fun s_ => [(13, .int .i64 t902), (6, .pointer (some ⟨s_, 0, none⟩))]) (fun s_ w' => (w'.cell? ⟨gb900, 0, none⟩ = some (.slice (some ad901) t897.length co13) ∧ w'.cell? ⟨gb896, 0, none⟩ = some (.func (.func 65) #[] #[]) ∧ w'.cell? ad901 = some (.slice A901_0 (rd_L1 t897 0).length c901_0)) ∧ (Kd.R (Kd.int .i64) 3 w' w.heap.size (fun k_ => some k_ ≠ (.slice (some ad901) t897.length co13 : Value).ownBlock ∧ k_ ≠ s_) (.slice A901_0 (rd_L1 t897 0).length c901_0) (rd_L1 t897 0)) ∧ (Kd.S (Kd.slice 3 (Kd.int .i64)) 22 w' w.heap.size (fun k_ => k_ ≠ s_) (.slice (some ad901) t897.length co13) t897) ∧ (w'.heap[gb895]? = some (.cells #[.slice A0_0 l0_0.length c0_0] 34 (0, 0))) ∧ (w'.heap[gb896]? = some (.cells #[.func (.func 65) #[] #[]] 58 (0, 0))) ∧ (w'.heap[gb900]? = some (.cells #[.slice (some ad901) t897.length co13] 43 (0, 0))) ∧ (w'.heap[s_]? = some (.cells #[.int .i64 0] 3 (0, 0))) ∧ (w.heap.size ≤ s_) ∧ (w.heap.size ≤ s_) ∧ (gb895 ≠ s_) ∧ (s_ ≠ gb895) ∧ (gb896 ≠ s_) ∧ (s_ ≠ gb896) ∧ (gb900 ≠ s_) ∧ (s_ ≠ gb900) ∧ (Below w.heap.size w w')) ?_ ?_
    rotate_left
    · intro hCont
      refine two_ (i := 4) (j := 5) (Ni := some 13) (Nj := some 6) #[true, true, true, true, true, false, false] #[true, true, true, true, false, true, false] rfl rfl rfl rfl (by kernel_rfl) (by decide) (by decide) (fun K hK => ?_) (fun K hK => ?_)
      · skip
        refine goes_ Try.func93 (by kernel_rfl) rfl #[.slice A901_0 (rd_L1 t897 0).length c901_0, .func (.func 65) #[] #[]] (by rfl) rfl rfl (by (try simp only [List.map_toArray, List.map_cons, List.map_nil]); first | done | rfl | (simp only [List.length_drop, List.length_take]; rfl)) ?_
        with_reducible refine (impl_sum_at_impl_size.calls k _ _ (rd_L1 t897 0)  t902 _ ?side1 ?side2 A5.out).mono ?_
        (case side1 => repeat (first | exact (by repeat (first | (with_reducible exact HR901_0.out) | (with_reducible refine Kd.C_alloc ?_ _) | (with_reducible refine Kd.C_drewN ?_ _) | (with_reducible refine Kd.C_drew ?_) | exact HR901_0.out)) | (with_reducible refine Kd.C_alloc ?_ _) | (with_reducible refine Kd.C_drewN ?_ _) | (with_reducible refine Kd.C_drew ?_)))
        (case side2 => exact HC901_0.out)
        rintro e w19 ⟨rfl, hb⟩
        have HS2_ := (hb.cell (World.block_lt_of_cell? _ _ (hHeld.2.2))).trans (hHeld.2.2)
        refine ⟨_, rfl, ?_⟩
        have n0_ := Aside0.mk (Kd.S_below (by (with_reducible repeat (first | apply Kd.S_alloc | apply Kd.S_drewN | apply Kd.S_drew)); exact HO899.out) hb)
        have n1_ := Aside0.mk (Kd.R_below (by (with_reducible repeat (first | apply Kd.R_alloc | apply Kd.R_drewN | apply Kd.R_drew)); exact HL901_0.out) hb)
        have n2_ := Aside0.mk (blk_below (g := gb895) (o := .cells #[.slice A0_0 l0_0.length c0_0] 34 (0, 0)) (by (with_reducible repeat (first | refine blk_drewN ?_ _ | refine blk_drew ?_ | refine blk_alloc ?_ _)); exact BK895.out) hb)
        have n3_ := Aside0.mk (blk_below (g := gb896) (o := .cells #[.func (.func 65) #[] #[]] 58 (0, 0)) (by (with_reducible repeat (first | refine blk_drewN ?_ _ | refine blk_drew ?_ | refine blk_alloc ?_ _)); exact BK896.out) hb)
        have n4_ := Aside0.mk (blk_below (g := gb900) (o := .cells #[.slice (some ad901) t897.length co13] 43 (0, 0)) (by (with_reducible repeat (first | refine blk_drewN ?_ _ | refine blk_drew ?_ | refine blk_alloc ?_ _)); exact BK900.out) hb)
        have n5_ := Aside0.mk (Kd.C_below (by repeat (first | (with_reducible exact HR901_0.out) | (with_reducible refine Kd.C_alloc ?_ _) | (with_reducible refine Kd.C_drewN ?_ _) | (with_reducible refine Kd.C_drew ?_) | exact HR901_0.out)) hb)
        have n6_ := Aside0.mk (below_step (by repeat (first | (with_reducible first | exact HB.out | apply below_alloc | apply pw_below_drewN | apply below_drew1 | refine below_set ?_ GE895.out | refine below_set ?_ GE896.out | refine below_set ?_ GE900.out) | exact HB.out)) hb)
        clear HO899
        clear HL901_0
        clear BK895
        clear BK896
        clear BK900
        clear HR901_0
        clear HB
        have HO899 := n0_
        have HL901_0 := n1_
        have BK895 := n2_
        have BK896 := n3_
        have BK900 := n4_
        have HR901_0 := n5_
        have HB := n6_
        clear n0_ n1_ n2_ n3_ n4_ n5_ n6_
        (try clear hb)
        (try clear hb2)
        (try clear hk)
        (try clear hi)
        refine hK.out _ _ ⟨(blk_cell BK900.out 0).trans rfl, (blk_cell BK896.out 0).trans rfl, HS2_⟩ (fun hHeld => ?_)
        clear hK K
        refine norm_ (a' := ?_) ?_ ?_
        rotate_left
        · show Act.put _ (some 13) _ = _
          simp only [Act.put, List.setIfInBounds_toArray, List.set_cons_zero, List.set_cons_succ, i64_w, i32_w]
          rfl
        refine one_ (i := 5) (N := some 6) #[true, true, true, true, true, true, false] rfl rfl (by kernel_rfl) (by decide) (fun K hK => ?_)
        refine box_step ?hg (N := 6) ?hd (cs := #[.int .i64 0]) (t := 3) ?hr ?_; (case hd => rfl); (case hg => rfl); (case hr => first | (go_simp; done) | (go_simp; rfl))
        intro gb903 hg w20 hbox hb
        have HS2_ := (hb.cell (World.block_lt_of_cell? _ _ (hHeld.2.2))).trans (hHeld.2.2)
        have n0_ := Aside0.mk (Kd.S_below (Kd.S_elderB (by (with_reducible repeat (first | apply Kd.S_alloc | apply Kd.S_drewN | apply Kd.S_drew)); exact HO899.out) gb903 (Nat.le_of_eq hg.symm)) hb)
        have n1_ := Aside0.mk (Kd.R_below (Kd.R_elderB (by (with_reducible repeat (first | apply Kd.R_alloc | apply Kd.R_drewN | apply Kd.R_drew)); exact HL901_0.out) gb903 (Nat.le_of_eq hg.symm)) hb)
        have n2_ := Aside0.mk (blk_below (g := gb895) (o := .cells #[.slice A0_0 l0_0.length c0_0] 34 (0, 0)) (by (with_reducible repeat (first | refine blk_drewN ?_ _ | refine blk_drew ?_ | refine blk_alloc ?_ _)); exact BK895.out) hb)
        have n3_ := Aside0.mk (blk_below (g := gb896) (o := .cells #[.func (.func 65) #[] #[]] 58 (0, 0)) (by (with_reducible repeat (first | refine blk_drewN ?_ _ | refine blk_drew ?_ | refine blk_alloc ?_ _)); exact BK896.out) hb)
        have n4_ := Aside0.mk (blk_below (g := gb900) (o := .cells #[.slice (some ad901) t897.length co13] 43 (0, 0)) (by (with_reducible repeat (first | refine blk_drewN ?_ _ | refine blk_drew ?_ | refine blk_alloc ?_ _)); exact BK900.out) hb)
        have n5_ := Aside0.mk (Kd.C_below (by repeat (first | (with_reducible exact HR901_0.out) | (with_reducible refine Kd.C_alloc ?_ _) | (with_reducible refine Kd.C_drewN ?_ _) | (with_reducible refine Kd.C_drew ?_) | exact HR901_0.out)) hb)
        have n6_ := Aside0.mk (below_step (by repeat (first | (with_reducible first | exact HB.out | apply below_alloc | apply pw_below_drewN | apply below_drew1 | refine below_set ?_ GE895.out | refine below_set ?_ GE896.out | refine below_set ?_ GE900.out) | exact HB.out)) hb)
        have n7_ := Aside0.mk (hbox)
        have n8_ := Aside0.mk ((by rw [hg]; exact (below_size (by repeat (first | (with_reducible first | exact HB.out | apply below_alloc | apply pw_below_drewN | apply below_drew1 | refine below_set ?_ GE895.out | refine below_set ?_ GE896.out | refine below_set ?_ GE900.out) | exact HB.out))) : w.heap.size ≤ gb903))
        have n9_ := Aside0.mk ((by rw [hg]; exact (below_size (by repeat (first | (with_reducible first | exact HB.out | apply below_alloc | apply pw_below_drewN | apply below_drew1 | refine below_set ?_ GE895.out | refine below_set ?_ GE896.out | refine below_set ?_ GE900.out) | exact HB.out))) : w.heap.size ≤ gb903))
        have n10_ := Aside0.mk ((by rw [hg]; exact Nat.ne_of_lt (blk_lt (g := gb895) (o := .cells #[.slice A0_0 l0_0.length c0_0] 34 (0, 0)) (by (with_reducible repeat (first | refine blk_drewN ?_ _ | refine blk_drew ?_ | refine blk_alloc ?_ _)); exact BK895.out)) : gb895 ≠ gb903))
        have n11_ := Aside0.mk ((by rw [hg]; exact Nat.ne_of_gt (blk_lt (g := gb895) (o := .cells #[.slice A0_0 l0_0.length c0_0] 34 (0, 0)) (by (with_reducible repeat (first | refine blk_drewN ?_ _ | refine blk_drew ?_ | refine blk_alloc ?_ _)); exact BK895.out)) : gb903 ≠ gb895))
        have n12_ := Aside0.mk ((by rw [hg]; exact Nat.ne_of_lt (blk_lt (g := gb896) (o := .cells #[.func (.func 65) #[] #[]] 58 (0, 0)) (by (with_reducible repeat (first | refine blk_drewN ?_ _ | refine blk_drew ?_ | refine blk_alloc ?_ _)); exact BK896.out)) : gb896 ≠ gb903))
        have n13_ := Aside0.mk ((by rw [hg]; exact Nat.ne_of_gt (blk_lt (g := gb896) (o := .cells #[.func (.func 65) #[] #[]] 58 (0, 0)) (by (with_reducible repeat (first | refine blk_drewN ?_ _ | refine blk_drew ?_ | refine blk_alloc ?_ _)); exact BK896.out)) : gb903 ≠ gb896))
        have n14_ := Aside0.mk ((by rw [hg]; exact Nat.ne_of_lt (blk_lt (g := gb900) (o := .cells #[.slice (some ad901) t897.length co13] 43 (0, 0)) (by (with_reducible repeat (first | refine blk_drewN ?_ _ | refine blk_drew ?_ | refine blk_alloc ?_ _)); exact BK900.out)) : gb900 ≠ gb903))
        have n15_ := Aside0.mk ((by rw [hg]; exact Nat.ne_of_gt (blk_lt (g := gb900) (o := .cells #[.slice (some ad901) t897.length co13] 43 (0, 0)) (by (with_reducible repeat (first | refine blk_drewN ?_ _ | refine blk_drew ?_ | refine blk_alloc ?_ _)); exact BK900.out)) : gb903 ≠ gb900))
        clear HO899
        clear HL901_0
        clear BK895
        clear BK896
        clear BK900
        clear HR901_0
        clear HB
        have HO899 := n0_
        have HL901_0 := n1_
        have BK895 := n2_
        have BK896 := n3_
        have BK900 := n4_
        have HR901_0 := n5_
        have HB := n6_
        have BK903 := n7_
        have GW903 := n8_
        have GE903 := n9_
        have NB895_903 := n10_
        have NB903_895 := n11_
        have NB896_903 := n12_
        have NB903_896 := n13_
        have NB900_903 := n14_
        have NB903_900 := n15_
        clear n0_ n1_ n2_ n3_ n4_ n5_ n6_ n7_ n8_ n9_ n10_ n11_ n12_ n13_ n14_ n15_
        clear hb hbox hg
        refine hK.out _ _ ⟨(blk_cell BK900.out 0).trans rfl, (blk_cell BK896.out 0).trans rfl, HS2_⟩ (fun hHeld => ?_)
        clear hK K
        refine norm_ (a' := ?_) ?_ ?_
        rotate_left
        · show Act.put _ (some 6) _ = _
          simp only [Act.put, List.setIfInBounds_toArray, List.set_cons_zero, List.set_cons_succ, i64_w, i32_w]
          rfl
        exact norm_ (by simp only [putAll, Act.put, List.setIfInBounds_toArray, List.set_cons_zero, List.set_cons_succ]) (hCont (gb903) _ ⟨hHeld, (by (with_reducible repeat (first | apply Kd.R_alloc | apply Kd.R_drewN | apply Kd.R_drew)); exact Kd.R_mono HL901_0.out (fun _ hk => ⟨hk.1.2, hk.2⟩)), (by (with_reducible repeat (first | apply Kd.S_alloc | apply Kd.S_drewN | apply Kd.S_drew)); exact Kd.S_mono HO899.out (fun _ hk => hk.2)), (by (with_reducible repeat (first | refine blk_drewN ?_ _ | refine blk_drew ?_ | refine blk_alloc ?_ _)); exact BK895.out), (by (with_reducible repeat (first | refine blk_drewN ?_ _ | refine blk_drew ?_ | refine blk_alloc ?_ _)); exact BK896.out), (by (with_reducible repeat (first | refine blk_drewN ?_ _ | refine blk_drew ?_ | refine blk_alloc ?_ _)); exact BK900.out), (by (with_reducible repeat (first | refine blk_drewN ?_ _ | refine blk_drew ?_ | refine blk_alloc ?_ _)); exact BK903.out), GW903.out, GE903.out, NB895_903.out, NB903_895.out, NB896_903.out, NB903_896.out, NB900_903.out, NB903_900.out, (by repeat (first | (with_reducible first | exact HB.out | apply below_alloc | apply pw_below_drewN | apply below_drew1 | refine below_set ?_ GE895.out | refine below_set ?_ GE896.out | refine below_set ?_ GE900.out | refine below_set ?_ GE903.out) | exact HB.out))⟩)
      · skip
        refine box_step ?hg (N := 6) ?hd (cs := #[.int .i64 0]) (t := 3) ?hr ?_; (case hd => rfl); (case hg => rfl); (case hr => first | (go_simp; done) | (go_simp; rfl))
        intro gb903 hg w19 hbox hb
        have HS2_ := (hb.cell (World.block_lt_of_cell? _ _ (hHeld.2.2))).trans (hHeld.2.2)
        have n0_ := Aside0.mk (Kd.S_below (Kd.S_elderB (by (with_reducible repeat (first | apply Kd.S_alloc | apply Kd.S_drewN | apply Kd.S_drew)); exact HO899.out) gb903 (Nat.le_of_eq hg.symm)) hb)
        have n1_ := Aside0.mk (Kd.R_below (Kd.R_elderB (by (with_reducible repeat (first | apply Kd.R_alloc | apply Kd.R_drewN | apply Kd.R_drew)); exact HL901_0.out) gb903 (Nat.le_of_eq hg.symm)) hb)
        have n2_ := Aside0.mk (blk_below (g := gb895) (o := .cells #[.slice A0_0 l0_0.length c0_0] 34 (0, 0)) (by (with_reducible repeat (first | refine blk_drewN ?_ _ | refine blk_drew ?_ | refine blk_alloc ?_ _)); exact BK895.out) hb)
        have n3_ := Aside0.mk (blk_below (g := gb896) (o := .cells #[.func (.func 65) #[] #[]] 58 (0, 0)) (by (with_reducible repeat (first | refine blk_drewN ?_ _ | refine blk_drew ?_ | refine blk_alloc ?_ _)); exact BK896.out) hb)
        have n4_ := Aside0.mk (blk_below (g := gb900) (o := .cells #[.slice (some ad901) t897.length co13] 43 (0, 0)) (by (with_reducible repeat (first | refine blk_drewN ?_ _ | refine blk_drew ?_ | refine blk_alloc ?_ _)); exact BK900.out) hb)
        have n5_ := Aside0.mk (Kd.C_below (by repeat (first | (with_reducible exact HR901_0.out) | (with_reducible refine Kd.C_alloc ?_ _) | (with_reducible refine Kd.C_drewN ?_ _) | (with_reducible refine Kd.C_drew ?_) | exact HR901_0.out)) hb)
        have n6_ := Aside0.mk (below_step (by repeat (first | (with_reducible first | exact HB.out | apply below_alloc | apply pw_below_drewN | apply below_drew1 | refine below_set ?_ GE895.out | refine below_set ?_ GE896.out | refine below_set ?_ GE900.out) | exact HB.out)) hb)
        have n7_ := Aside0.mk (hbox)
        have n8_ := Aside0.mk ((by rw [hg]; exact (below_size (by repeat (first | (with_reducible first | exact HB.out | apply below_alloc | apply pw_below_drewN | apply below_drew1 | refine below_set ?_ GE895.out | refine below_set ?_ GE896.out | refine below_set ?_ GE900.out) | exact HB.out))) : w.heap.size ≤ gb903))
        have n9_ := Aside0.mk ((by rw [hg]; exact (below_size (by repeat (first | (with_reducible first | exact HB.out | apply below_alloc | apply pw_below_drewN | apply below_drew1 | refine below_set ?_ GE895.out | refine below_set ?_ GE896.out | refine below_set ?_ GE900.out) | exact HB.out))) : w.heap.size ≤ gb903))
        have n10_ := Aside0.mk ((by rw [hg]; exact Nat.ne_of_lt (blk_lt (g := gb895) (o := .cells #[.slice A0_0 l0_0.length c0_0] 34 (0, 0)) (by (with_reducible repeat (first | refine blk_drewN ?_ _ | refine blk_drew ?_ | refine blk_alloc ?_ _)); exact BK895.out)) : gb895 ≠ gb903))
        have n11_ := Aside0.mk ((by rw [hg]; exact Nat.ne_of_gt (blk_lt (g := gb895) (o := .cells #[.slice A0_0 l0_0.length c0_0] 34 (0, 0)) (by (with_reducible repeat (first | refine blk_drewN ?_ _ | refine blk_drew ?_ | refine blk_alloc ?_ _)); exact BK895.out)) : gb903 ≠ gb895))
        have n12_ := Aside0.mk ((by rw [hg]; exact Nat.ne_of_lt (blk_lt (g := gb896) (o := .cells #[.func (.func 65) #[] #[]] 58 (0, 0)) (by (with_reducible repeat (first | refine blk_drewN ?_ _ | refine blk_drew ?_ | refine blk_alloc ?_ _)); exact BK896.out)) : gb896 ≠ gb903))
        have n13_ := Aside0.mk ((by rw [hg]; exact Nat.ne_of_gt (blk_lt (g := gb896) (o := .cells #[.func (.func 65) #[] #[]] 58 (0, 0)) (by (with_reducible repeat (first | refine blk_drewN ?_ _ | refine blk_drew ?_ | refine blk_alloc ?_ _)); exact BK896.out)) : gb903 ≠ gb896))
        have n14_ := Aside0.mk ((by rw [hg]; exact Nat.ne_of_lt (blk_lt (g := gb900) (o := .cells #[.slice (some ad901) t897.length co13] 43 (0, 0)) (by (with_reducible repeat (first | refine blk_drewN ?_ _ | refine blk_drew ?_ | refine blk_alloc ?_ _)); exact BK900.out)) : gb900 ≠ gb903))
        have n15_ := Aside0.mk ((by rw [hg]; exact Nat.ne_of_gt (blk_lt (g := gb900) (o := .cells #[.slice (some ad901) t897.length co13] 43 (0, 0)) (by (with_reducible repeat (first | refine blk_drewN ?_ _ | refine blk_drew ?_ | refine blk_alloc ?_ _)); exact BK900.out)) : gb903 ≠ gb900))
        clear HO899
        clear HL901_0
        clear BK895
        clear BK896
        clear BK900
        clear HR901_0
        clear HB
        have HO899 := n0_
        have HL901_0 := n1_
        have BK895 := n2_
        have BK896 := n3_
        have BK900 := n4_
        have HR901_0 := n5_
        have HB := n6_
        have BK903 := n7_
        have GW903 := n8_
        have GE903 := n9_
        have NB895_903 := n10_
        have NB903_895 := n11_
        have NB896_903 := n12_
        have NB903_896 := n13_
        have NB900_903 := n14_
        have NB903_900 := n15_
        clear n0_ n1_ n2_ n3_ n4_ n5_ n6_ n7_ n8_ n9_ n10_ n11_ n12_ n13_ n14_ n15_
        clear hb hbox hg
        refine hK.out _ _ ⟨(blk_cell BK900.out 0).trans rfl, (blk_cell BK896.out 0).trans rfl, HS2_⟩ (fun hHeld => ?_)
        clear hK K
        refine norm_ (a' := ?_) ?_ ?_
        rotate_left
        · show Act.put _ (some 6) _ = _
          simp only [Act.put, List.setIfInBounds_toArray, List.set_cons_zero, List.set_cons_succ, i64_w, i32_w]
          rfl
        refine one_ (i := 4) (N := some 13) #[true, true, true, true, true, true, false] rfl rfl (by kernel_rfl) (by decide) (fun K hK => ?_)
        refine goes_ Try.func93 (by kernel_rfl) rfl #[.slice A901_0 (rd_L1 t897 0).length c901_0, .func (.func 65) #[] #[]] (by rfl) rfl rfl (by (try simp only [List.map_toArray, List.map_cons, List.map_nil]); first | done | rfl | (simp only [List.length_drop, List.length_take]; rfl)) ?_
        with_reducible refine (impl_sum_at_impl_size.calls k _ _ (rd_L1 t897 0)  t902 _ ?side1 ?side2 A5.out).mono ?_
        (case side1 => repeat (first | exact (by repeat (first | (with_reducible exact HR901_0.out) | (with_reducible refine Kd.C_alloc ?_ _) | (with_reducible refine Kd.C_drewN ?_ _) | (with_reducible refine Kd.C_drew ?_) | exact HR901_0.out)) | (with_reducible refine Kd.C_alloc ?_ _) | (with_reducible refine Kd.C_drewN ?_ _) | (with_reducible refine Kd.C_drew ?_)))
        (case side2 => exact HC901_0.out)
        rintro e w20 ⟨rfl, hb⟩
        have HS2_ := (hb.cell (World.block_lt_of_cell? _ _ (hHeld.2.2))).trans (hHeld.2.2)
        refine ⟨_, rfl, ?_⟩
        have n0_ := Aside0.mk (Kd.S_below (by (with_reducible repeat (first | apply Kd.S_alloc | apply Kd.S_drewN | apply Kd.S_drew)); exact HO899.out) hb)
        have n1_ := Aside0.mk (Kd.R_below (by (with_reducible repeat (first | apply Kd.R_alloc | apply Kd.R_drewN | apply Kd.R_drew)); exact HL901_0.out) hb)
        have n2_ := Aside0.mk (blk_below (g := gb895) (o := .cells #[.slice A0_0 l0_0.length c0_0] 34 (0, 0)) (by (with_reducible repeat (first | refine blk_drewN ?_ _ | refine blk_drew ?_ | refine blk_alloc ?_ _)); exact BK895.out) hb)
        have n3_ := Aside0.mk (blk_below (g := gb896) (o := .cells #[.func (.func 65) #[] #[]] 58 (0, 0)) (by (with_reducible repeat (first | refine blk_drewN ?_ _ | refine blk_drew ?_ | refine blk_alloc ?_ _)); exact BK896.out) hb)
        have n4_ := Aside0.mk (blk_below (g := gb900) (o := .cells #[.slice (some ad901) t897.length co13] 43 (0, 0)) (by (with_reducible repeat (first | refine blk_drewN ?_ _ | refine blk_drew ?_ | refine blk_alloc ?_ _)); exact BK900.out) hb)
        have n5_ := Aside0.mk (Kd.C_below (by repeat (first | (with_reducible exact HR901_0.out) | (with_reducible refine Kd.C_alloc ?_ _) | (with_reducible refine Kd.C_drewN ?_ _) | (with_reducible refine Kd.C_drew ?_) | exact HR901_0.out)) hb)
        have n6_ := Aside0.mk (blk_below (g := gb903) (o := .cells #[.int .i64 0] 3 (0, 0)) (by (with_reducible repeat (first | refine blk_drewN ?_ _ | refine blk_drew ?_ | refine blk_alloc ?_ _)); exact BK903.out) hb)
        have n7_ := Aside0.mk (below_step (by repeat (first | (with_reducible first | exact HB.out | apply below_alloc | apply pw_below_drewN | apply below_drew1 | refine below_set ?_ GE895.out | refine below_set ?_ GE896.out | refine below_set ?_ GE900.out | refine below_set ?_ GE903.out) | exact HB.out)) hb)
        clear HO899
        clear HL901_0
        clear BK895
        clear BK896
        clear BK900
        clear HR901_0
        clear BK903
        clear HB
        have HO899 := n0_
        have HL901_0 := n1_
        have BK895 := n2_
        have BK896 := n3_
        have BK900 := n4_
        have HR901_0 := n5_
        have BK903 := n6_
        have HB := n7_
        clear n0_ n1_ n2_ n3_ n4_ n5_ n6_ n7_
        (try clear hb)
        (try clear hb2)
        (try clear hk)
        (try clear hi)
        refine hK.out _ _ ⟨(blk_cell BK900.out 0).trans rfl, (blk_cell BK896.out 0).trans rfl, HS2_⟩ (fun hHeld => ?_)
        clear hK K
        refine norm_ (a' := ?_) ?_ ?_
        rotate_left
        · show Act.put _ (some 13) _ = _
          simp only [Act.put, List.setIfInBounds_toArray, List.set_cons_zero, List.set_cons_succ, i64_w, i32_w]
          rfl
        exact norm_ (by simp only [putAll, Act.put, List.setIfInBounds_toArray, List.set_cons_zero, List.set_cons_succ]) (hCont (gb903) _ ⟨hHeld, (by (with_reducible repeat (first | apply Kd.R_alloc | apply Kd.R_drewN | apply Kd.R_drew)); exact Kd.R_mono HL901_0.out (fun _ hk => ⟨hk.1.2, hk.2⟩)), (by (with_reducible repeat (first | apply Kd.S_alloc | apply Kd.S_drewN | apply Kd.S_drew)); exact Kd.S_mono HO899.out (fun _ hk => hk.2)), (by (with_reducible repeat (first | refine blk_drewN ?_ _ | refine blk_drew ?_ | refine blk_alloc ?_ _)); exact BK895.out), (by (with_reducible repeat (first | refine blk_drewN ?_ _ | refine blk_drew ?_ | refine blk_alloc ?_ _)); exact BK896.out), (by (with_reducible repeat (first | refine blk_drewN ?_ _ | refine blk_drew ?_ | refine blk_alloc ?_ _)); exact BK900.out), (by (with_reducible repeat (first | refine blk_drewN ?_ _ | refine blk_drew ?_ | refine blk_alloc ?_ _)); exact BK903.out), GW903.out, GE903.out, NB895_903.out, NB903_895.out, NB896_903.out, NB903_896.out, NB900_903.out, NB903_900.out, (by repeat (first | (with_reducible first | exact HB.out | apply below_alloc | apply pw_below_drewN | apply below_drew1 | refine below_set ?_ GE895.out | refine below_set ?_ GE896.out | refine below_set ?_ GE900.out | refine below_set ?_ GE903.out) | exact HB.out))⟩)
    rintro gb903 w21 ⟨hS_, h0_, h1_, h2_, h3_, h4_, h5_, h6_, h7_, h8_, h9_, h10_, h11_, h12_, h13_, h14_⟩
    have n0_ : Aside0 (Kd.R (Kd.int .i64) 3 w21 w.heap.size (fun k_ => some k_ ≠ (.slice (some ad901) t897.length co13 : Value).ownBlock ∧ k_ ≠ gb903) (.slice A901_0 (rd_L1 t897 0).length c901_0) (rd_L1 t897 0)) := ⟨h0_⟩
    have n1_ : Aside0 (Kd.S (Kd.slice 3 (Kd.int .i64)) 22 w21 w.heap.size (fun k_ => k_ ≠ gb903) (.slice (some ad901) t897.length co13) t897) := ⟨h1_⟩
    have n2_ : Aside0 (w21.heap[gb895]? = some (.cells #[.slice A0_0 l0_0.length c0_0] 34 (0, 0))) := ⟨h2_⟩
    have n3_ : Aside0 (w21.heap[gb896]? = some (.cells #[.func (.func 65) #[] #[]] 58 (0, 0))) := ⟨h3_⟩
    have n4_ : Aside0 (w21.heap[gb900]? = some (.cells #[.slice (some ad901) t897.length co13] 43 (0, 0))) := ⟨h4_⟩
    have n5_ : Aside0 (w21.heap[gb903]? = some (.cells #[.int .i64 0] 3 (0, 0))) := ⟨h5_⟩
    have n6_ : Aside0 (w.heap.size ≤ gb903) := ⟨h6_⟩
    have n7_ : Aside0 (w.heap.size ≤ gb903) := ⟨h7_⟩
    have n8_ : Aside0 (gb895 ≠ gb903) := ⟨h8_⟩
    have n9_ : Aside0 (gb903 ≠ gb895) := ⟨h9_⟩
    have n10_ : Aside0 (gb896 ≠ gb903) := ⟨h10_⟩
    have n11_ : Aside0 (gb903 ≠ gb896) := ⟨h11_⟩
    have n12_ : Aside0 (gb900 ≠ gb903) := ⟨h12_⟩
    have n13_ : Aside0 (gb903 ≠ gb900) := ⟨h13_⟩
    have n14_ : Aside0 (Below w.heap.size w w21) := ⟨h14_⟩
    clear HO899
    clear BK895
    clear BK896
    clear BK900
    clear HB
    clear h0_ h1_ h2_ h3_ h4_ h5_ h6_ h7_ h8_ h9_ h10_ h11_ h12_ h13_ h14_
    have HL901_0 := n0_
    have HO899 := n1_
    have BK895 := n2_
    have BK896 := n3_
    have BK900 := n4_
    have BK903 := n5_
    have GW903 := n6_
    have GE903 := n7_
    have NB895_903 := n8_
    have NB903_895 := n9_
    have NB896_903 := n10_
    have NB903_896 := n11_
    have NB900_903 := n12_
    have NB903_900 := n13_
    have HB := n14_
    clear n0_ n1_ n2_ n3_ n4_ n5_ n6_ n7_ n8_ n9_ n10_ n11_ n12_ n13_ n14_
    have hHeld : w21.cell? ⟨gb900, 0, none⟩ = some (.slice (some ad901) t897.length co13) ∧ w21.cell? ⟨gb896, 0, none⟩ = some (.func (.func 65) #[] #[]) ∧ w21.cell? ad901 = some (.slice A901_0 (rd_L1 t897 0).length c901_0) := hS_
    refine norm_ (a' := ?_) ?_ ?_
    rotate_left
    · simp only [putAll, Act.put, List.setIfInBounds_toArray, List.set_cons_zero, List.set_cons_succ]
      rfl
    refine one_ (i := 6) (N := none) #[true, true, true, true, true, true, true] rfl rfl (by kernel_rfl) (by decide) (fun K hK => ?_)
    have hs22 : w21.cell? ⟨gb903, 0, none⟩ = some (.int .i64 0) := (blk_cell BK903.out 0).trans rfl
    have hfs22 := blk_frozen BK903.out 0
    have hns22_0 := NB895_903.out
    have hns22_1 := NB896_903.out
    have hns22_2 := NB900_903.out
    have hms22_0 := NB903_895.out
    have hms22_1 := NB903_896.out
    have hms22_2 := NB903_900.out
    refine skip_ (w1 := ?_) (by rfl) rfl ?_ ?_
    rotate_left
    · go_simp
      rfl
    refine hK.out _ _ ⟨((cell_far (p := ⟨gb903, _, none⟩) NB900_903.out _).trans (hHeld.1)), ((cell_far (p := ⟨gb903, _, none⟩) NB896_903.out _).trans (hHeld.2.1)), ((cell_far (p := ⟨gb903, _, none⟩) (by first | exact Kd.own_blk (Kd.S_away HO899.out (fun _ hk => hk)) | (rw [add_block]; exact Kd.own_blk (Kd.S_away HO899.out (fun _ hk => hk))) | (show (Addr.add _ _).block ≠ _; rw [add_block]; exact Kd.own_blk (Kd.S_away HO899.out (fun _ hk => hk))) | (dsimp only; exact Kd.own_blk (Kd.S_away HO899.out (fun _ hk => hk)))) _).trans (hHeld.2.2))⟩ (fun hHeld => ?_)
    clear hK K
    refine done_ (by kernel_rfl) ?_
    have hnb23 := NB900_903.out
    have hnc23 := NB903_900.out
    have hcz24_0 : w21.cell? ⟨gb900, 0, none⟩ = some (.slice (some ad901) t897.length co13) := (blk_cell BK900.out 0).trans rfl
    have hfz24_0 := blk_frozen BK900.out 0
    try go_wp2_with (first | ((with_reducible refine gate_callee (f := 94) rfl ?_); refine goesL_ (some 16) rfl rfl Try.func94 (by kernel_rfl) rfl #[.slice (some ad901) t897.length co13, .func (.func 95) #[] #[.pointer (some ⟨gb896, 0, none⟩), .pointer (some ⟨gb900, 0, none⟩), .pointer (some ⟨gb903, 0, none⟩)]] rfl (by (try simp only [List.map_toArray, List.map_cons, List.map_nil]); first | done | rfl | (simp only [List.length_drop, List.length_take]; rfl)) ?_; (with_reducible refine (slices_ContainsFunc_int_int_at_impl_Poset_even_1.calls k _ _ t897 gb896 gb900 gb903 (some ad901) co13 t897 t902 t904 _ ?side1 ?side2 ?side3 ?side4 ?side5 ?side6 ?side7 ?side8 ?side9 ?side10 A6.out).mono ?_); (case side1 => refine (Kd.S_reads' (e := 22) (base := w.heap.size) (ok := fun k_ => k_ ≠ gb903) (n := t897.length) (c := co13) ?_).2.2; exact (by (with_reducible repeat (first | apply Kd.S_alloc | apply Kd.S_drewN | apply Kd.S_drew)); exact (Kd.S_mono (Kd.S_far (p := ⟨gb903, 0, none⟩) (Kd.S_mono HO899.out (fun k_ hk => (⟨hk, hk⟩ : _ ∧ k_ ≠ gb903))) (fun _ hk => hk.2) (.int .i64 t902)) (fun _ h_ => h_.1)))); (case side2 => exact (Kd.S_reads' HO899.out).2.1); (case side3 => (with_reducible repeat (first | refine blk_drewN ?_ _ | refine blk_drew ?_ | refine blk_alloc ?_ _)); refine blk_far ?_ NB896_903.out _; (with_reducible repeat (first | refine blk_drewN ?_ _ | refine blk_drew ?_ | refine blk_alloc ?_ _)); exact BK896.out); (case side4 => (with_reducible repeat (first | refine blk_drewN ?_ _ | refine blk_drew ?_ | refine blk_alloc ?_ _)); refine blk_far ?_ NB900_903.out _; (with_reducible repeat (first | refine blk_drewN ?_ _ | refine blk_drew ?_ | refine blk_alloc ?_ _)); exact BK900.out); (case side5 => (with_reducible repeat (first | refine blk_drewN ?_ _ | refine blk_drew ?_ | refine blk_alloc ?_ _)); refine blk_put (cs := #[.int .i64 0]) ?_ 0 _ rfl; (with_reducible repeat (first | refine blk_drewN ?_ _ | refine blk_drew ?_ | refine blk_alloc ?_ _)); exact BK903.out); (case side6 => refine (Kd.S_reads' (e := 22) (base := w.heap.size) (ok := fun k_ => k_ ≠ gb903) (n := t897.length) (c := co13) ?_).2.2; exact (by (with_reducible repeat (first | apply Kd.S_alloc | apply Kd.S_drewN | apply Kd.S_drew)); exact (Kd.S_mono (Kd.S_far (p := ⟨gb903, 0, none⟩) (Kd.S_mono HO899.out (fun k_ hk => (⟨hk, hk⟩ : _ ∧ k_ ≠ gb903))) (fun _ hk => hk.2) (.int .i64 t902)) (fun _ h_ => h_.1)))); (case side7 => exact (Kd.S_reads' HO899.out).2.1); (case side8 => exact NB896_900.out); (case side9 => exact NB896_903.out); (case side10 => exact NB900_903.out); rintro e w25 ⟨rfl, hb⟩; refine ⟨_, rfl, ?_⟩; have n0_ := Aside0.mk (Kd.S_below (by (with_reducible repeat (first | apply Kd.S_alloc | apply Kd.S_drewN | apply Kd.S_drew)); exact (Kd.S_mono (Kd.S_far (p := ⟨gb903, 0, none⟩) (Kd.S_mono HO899.out (fun k_ hk => (⟨hk, hk⟩ : _ ∧ k_ ≠ gb903))) (fun _ hk => hk.2) (.int .i64 t902)) (fun _ h_ => h_.1))) hb); have n1_ := Aside0.mk (Kd.R_below (by (with_reducible repeat (first | apply Kd.R_alloc | apply Kd.R_drewN | apply Kd.R_drew)); exact (Kd.R_mono (Kd.R_far (p := ⟨gb903, 0, none⟩) (Kd.R_mono HL901_0.out (fun k_ hk => (⟨hk, hk.2⟩ : _ ∧ k_ ≠ gb903))) (fun _ hk => hk.2) (.int .i64 t902)) (fun _ h_ => h_.1))) hb); have n2_ := Aside0.mk (blk_below (g := gb895) (o := .cells #[.slice A0_0 l0_0.length c0_0] 34 (0, 0)) (by (with_reducible repeat (first | refine blk_drewN ?_ _ | refine blk_drew ?_ | refine blk_alloc ?_ _)); refine blk_far ?_ NB895_903.out _; (with_reducible repeat (first | refine blk_drewN ?_ _ | refine blk_drew ?_ | refine blk_alloc ?_ _)); exact BK895.out) hb); have n3_ := Aside0.mk (blk_below (g := gb896) (o := .cells #[.func (.func 65) #[] #[]] 58 (0, 0)) (by (with_reducible repeat (first | refine blk_drewN ?_ _ | refine blk_drew ?_ | refine blk_alloc ?_ _)); refine blk_far ?_ NB896_903.out _; (with_reducible repeat (first | refine blk_drewN ?_ _ | refine blk_drew ?_ | refine blk_alloc ?_ _)); exact BK896.out) hb); have n4_ := Aside0.mk (blk_below (g := gb900) (o := .cells #[.slice (some ad901) t897.length co13] 43 (0, 0)) (by (with_reducible repeat (first | refine blk_drewN ?_ _ | refine blk_drew ?_ | refine blk_alloc ?_ _)); refine blk_far ?_ NB900_903.out _; (with_reducible repeat (first | refine blk_drewN ?_ _ | refine blk_drew ?_ | refine blk_alloc ?_ _)); exact BK900.out) hb); have n5_ := Aside0.mk (blk_below (g := gb903) (o := .cells #[.int .i64 t902] 3 (0, 0)) (by (with_reducible repeat (first | refine blk_drewN ?_ _ | refine blk_drew ?_ | refine blk_alloc ?_ _)); refine blk_put (cs := #[.int .i64 0]) ?_ 0 _ rfl; (with_reducible repeat (first | refine blk_drewN ?_ _ | refine blk_drew ?_ | refine blk_alloc ?_ _)); exact BK903.out) hb); have n6_ := Aside0.mk (below_step (by repeat (first | (with_reducible first | exact HB.out | apply below_alloc | apply pw_below_drewN | apply below_drew1 | refine below_set ?_ GE895.out | refine below_set ?_ GE896.out | refine below_set ?_ GE900.out | refine below_set ?_ GE903.out) | exact HB.out)) hb); clear HO899; clear HL901_0; clear BK895; clear BK896; clear BK900; clear BK903; clear HB; have HO899 := n0_; have HL901_0 := n1_; have BK895 := n2_; have BK896 := n3_; have BK900 := n4_; have BK903 := n5_; have HB := n6_; clear n0_ n1_ n2_ n3_ n4_ n5_ n6_; (try clear hb); (try clear hb2); (try clear hk); (try clear hi)))
    go_ret
    exact ⟨by first | rfl | (simp [errW_none, errW_some] <;> rfl) | (simp [*, errW_none, errW_some] <;> rfl), by repeat (first | (with_reducible first | exact HB.out | apply below_alloc | apply pw_below_drewN | apply below_drew1 | refine below_set ?_ GE895.out | refine below_set ?_ GE896.out | refine below_set ?_ GE900.out | refine below_set ?_ GE903.out) | exact HB.out)⟩
  · rw [if_neg c4] at H
    exact absurd H (by simp)

end Go.Proofs.Ytkdddlkhildliaa.B
