-- Laid by our mk.py through the kit's print.py, out of the translation. Not trusted: Lean checks it.
import Derived.Test.YtkdddlkhildliaaB0
import Derived.Test.YtkdddlkhildliaaB1
import Derived.Test.YtkdddlkhildliaaB2
import Derived.Test.YtkdddlkhildliaaB16
namespace Go.Proofs.Ytkdddlkhildliaa.B
open Go.RowKit Go.Proofs.YtkdddlkhildliaaW.PrintWords Go.Proofs.YtkdddlkhildliaaW.PrintLast Go.Proofs.YtkdddlkhildliaaW.PrintMore
attribute [local go_sem] max2_int min2_int max_two min_two max_three min_three max_four min_four   -- for this text's walks alone
set_option linter.unusedVariables false
set_option linter.unusedSimpArgs false

/-! ### spec_AntichainIsEven: function 36 -/
def spec_AntichainIsEven.f (k : Nat) (l0_0 : List Int) : Option (Bool × Bool) := (spec_poGood.f k l0_0).bind fun t926 => (if t926 = true then ((spec_obEven.f k l0_0 true).bind fun t927 => (some (t927, true))) else (some (false, false)))
theorem spec_AntichainIsEven.mono : ∀ a0 k, LeO (spec_AntichainIsEven.f k a0) (spec_AntichainIsEven.f (k + 1) a0) := by
  intro a0 k
  unfold spec_AntichainIsEven.f
  repeat' first
      | (with_reducible exact spec_obEven.mono _ _ _)
      | (with_reducible exact spec_poGood.mono _ _)
      | (with_reducible exact LeO.refl _)
      | (with_reducible exact LeO.none _)
      | (with_reducible refine LeO.ite ?_ ?_)
      | (with_reducible refine LeO.bind ?_ (fun _ => ?_))
      | exact spec_obEven.mono _ _ _
      | exact spec_poGood.mono _ _
      | exact LeO.none _
      | refine LeO.ite ?_ ?_
      | refine LeO.bind ?_ (fun _ => ?_)
set_option maxHeartbeats 8000000 in
set_option maxRecDepth 100000 in
theorem spec_AntichainIsEven.calls (k : Nat) (A0_0 : Option Addr) (c0_0 : Nat) (l0_0 : List Int) (r1 : Bool) (r2 : Bool) (w : World) (hr0_0 : Kd.C (Kd.int .i64) w A0_0 l0_0.length l0_0) (hc0_0 : l0_0.length ≤ c0_0) (h : spec_AntichainIsEven.f k l0_0 = some (r1, r2)) :
    Calls Try.prog 36 #[.agg #[.slice A0_0 l0_0.length c0_0]] w fun e w' => e = .returned (.tuple #[.bool r1, .bool r2]) ∧ Below w.heap.size w w' := by
  have hu34 := Try.underlying34
  have HR0_0 := Aside0.mk hr0_0
  have HC0_0 := Aside0.mk hc0_0
  clear hr0_0 hc0_0
  have HB := Aside0.mk (Below.refl w.heap.size w)
  have H : ((spec_poGood.f k l0_0).bind fun t926 => (if t926 = true then ((spec_obEven.f k l0_0 true).bind fun t927 => (some (t927, true))) else (some (false, false)))) = some (r1, r2) := h
  clear h
  replace H := Option.bind_eq_some_iff.mp H
  obtain ⟨t926, A20, H⟩ := H
  replace H : (if t926 = true then ((spec_obEven.f k l0_0 true).bind fun t927 => (some (t927, true))) else (some (false, false))) = some (r1, r2) := H
  have A2 := Aside0.mk A20
  clear A20
  by_cases c3 : t926 = true
  · subst c3
    have H1 : ((spec_obEven.f k l0_0 true).bind fun t927 => (some (t927, true))) = some (r1, r2) := by rw [if_pos rfl] at H; exact H
    clear H
    have H := H1
    clear H1
    replace H := Option.bind_eq_some_iff.mp H
    obtain ⟨t927, A40, H⟩ := H
    replace H : (some (t927, true)) = some (r1, r2) := H
    have A4 := Aside0.mk A40
    clear A40
    simp only [Option.some.injEq, Prod.mk.injEq] at H
    obtain ⟨rfl, rfl⟩ := H
    go_enter Try.func36, Try.ntmps36
    go_wp2_with (first | ((with_reducible refine gate_dst (N := 1) rfl ?_); refine box_event ?hg (N := 1) ?hd (cs := #[.slice A0_0 l0_0.length c0_0]) (t := 34) ?hr ?_; (case hd => rfl); (case hg => rfl); (case hr => first | (go_simp; done) | (go_simp; rfl)); intro gb925 hg w5 hbox hb; have n0_ := Aside0.mk (below_step (by repeat (first | (with_reducible first | exact HB.out | apply below_alloc | apply pw_below_drewN | apply below_drew1) | exact HB.out)) hb); have n1_ := Aside0.mk (hbox); have n2_ := Aside0.mk ((by rw [hg]; exact (below_size (by repeat (first | (with_reducible first | exact HB.out | apply below_alloc | apply pw_below_drewN | apply below_drew1) | exact HB.out))) : w.heap.size ≤ gb925)); have n3_ := Aside0.mk ((by rw [hg]; exact (below_size (by repeat (first | (with_reducible first | exact HB.out | apply below_alloc | apply pw_below_drewN | apply below_drew1) | exact HB.out))) : w.heap.size ≤ gb925)); clear HB; have HB := n0_; have BK925 := n1_; have GW925 := n2_; have GE925 := n3_; clear n0_ n1_ n2_ n3_; clear hb hbox hg; have hcz6_0 : w5.cell? ⟨gb925, 0, none⟩ = some (.slice A0_0 l0_0.length c0_0) := (blk_cell BK925.out 0).trans rfl; have hfz6_0 := blk_frozen BK925.out 0) | ((with_reducible refine gate_callee (f := 53) rfl ?_); refine goesL_ (some 5) rfl rfl Try.func53 (by kernel_rfl) rfl #[.agg #[.slice A0_0 l0_0.length c0_0]] rfl (by (try simp only [List.map_toArray, List.map_cons, List.map_nil]); first | done | rfl | (simp only [List.length_drop, List.length_take]; rfl)) ?_; (with_reducible refine (spec_poGood.calls k _ _ l0_0 true _ ?side1 ?side2 A2.out).mono ?_); (case side1 => repeat (first | exact (Kd.C_below HR0_0.out HB.out) | (with_reducible refine Kd.C_alloc ?_ _) | (with_reducible refine Kd.C_drewN ?_ _) | (with_reducible refine Kd.C_drew ?_))); (case side2 => exact HC0_0.out); rintro e w7 ⟨rfl, hb⟩; refine ⟨_, rfl, ?_⟩; have n0_ := Aside0.mk (blk_below (g := gb925) (o := .cells #[.slice A0_0 l0_0.length c0_0] 34 (0, 0)) (by (with_reducible repeat (first | refine blk_drewN ?_ _ | refine blk_drew ?_ | refine blk_alloc ?_ _)); exact BK925.out) hb); have n1_ := Aside0.mk (below_step (by repeat (first | (with_reducible first | exact HB.out | apply below_alloc | apply pw_below_drewN | apply below_drew1 | refine below_set ?_ GE925.out) | exact HB.out)) hb); clear BK925; clear HB; have BK925 := n0_; have HB := n1_; clear n0_ n1_; (try clear hb); (try clear hb2); (try clear hk); (try clear hi); have hcz8_0 : w7.cell? ⟨gb925, 0, none⟩ = some (.slice A0_0 l0_0.length c0_0) := (blk_cell BK925.out 0).trans rfl; have hfz8_0 := blk_frozen BK925.out 0) | ((with_reducible refine gate_callee (f := 63) rfl ?_); refine goesL_ (some 8) rfl rfl Try.func63 (by kernel_rfl) rfl #[.agg #[.slice A0_0 l0_0.length c0_0], .bool true] rfl (by (try simp only [List.map_toArray, List.map_cons, List.map_nil]); first | done | rfl | (simp only [List.length_drop, List.length_take]; rfl)) ?_; (with_reducible refine (spec_obEven.calls k _ _ l0_0 true t927 _ ?side1 ?side2 A4.out).mono ?_); (case side1 => repeat (first | exact (Kd.C_below HR0_0.out HB.out) | (with_reducible refine Kd.C_alloc ?_ _) | (with_reducible refine Kd.C_drewN ?_ _) | (with_reducible refine Kd.C_drew ?_))); (case side2 => exact HC0_0.out); rintro e w9 ⟨rfl, hb⟩; refine ⟨_, rfl, ?_⟩; have n0_ := Aside0.mk (blk_below (g := gb925) (o := .cells #[.slice A0_0 l0_0.length c0_0] 34 (0, 0)) (by (with_reducible repeat (first | refine blk_drewN ?_ _ | refine blk_drew ?_ | refine blk_alloc ?_ _)); exact BK925.out) hb); have n1_ := Aside0.mk (below_step (by repeat (first | (with_reducible first | exact HB.out | apply below_alloc | apply pw_below_drewN | apply below_drew1 | refine below_set ?_ GE925.out) | exact HB.out)) hb); clear BK925; clear HB; have BK925 := n0_; have HB := n1_; clear n0_ n1_; (try clear hb); (try clear hb2); (try clear hk); (try clear hi)))
    go_ret2
    exact ⟨by first | rfl | (simp [errW_none, errW_some] <;> rfl) | (simp [*, errW_none, errW_some] <;> rfl), by repeat (first | (with_reducible first | exact HB.out | apply below_alloc | apply pw_below_drewN | apply below_drew1 | refine below_set ?_ GE925.out) | exact HB.out)⟩
  · replace c3 := Bool.eq_false_iff.mpr c3
    subst c3
    have H1 : (some (false, false)) = some (r1, r2) := by rw [if_neg (show ¬ (false = true) by decide)] at H; exact H
    clear H
    have H := H1
    clear H1
    simp only [Option.some.injEq, Prod.mk.injEq] at H
    obtain ⟨rfl, rfl⟩ := H
    go_enter Try.func36, Try.ntmps36
    go_wp2_with (first | ((with_reducible refine gate_dst (N := 1) rfl ?_); refine box_event ?hg (N := 1) ?hd (cs := #[.slice A0_0 l0_0.length c0_0]) (t := 34) ?hr ?_; (case hd => rfl); (case hg => rfl); (case hr => first | (go_simp; done) | (go_simp; rfl)); intro gb925 hg w10 hbox hb; have n0_ := Aside0.mk (below_step (by repeat (first | (with_reducible first | exact HB.out | apply below_alloc | apply pw_below_drewN | apply below_drew1) | exact HB.out)) hb); have n1_ := Aside0.mk (hbox); have n2_ := Aside0.mk ((by rw [hg]; exact (below_size (by repeat (first | (with_reducible first | exact HB.out | apply below_alloc | apply pw_below_drewN | apply below_drew1) | exact HB.out))) : w.heap.size ≤ gb925)); have n3_ := Aside0.mk ((by rw [hg]; exact (below_size (by repeat (first | (with_reducible first | exact HB.out | apply below_alloc | apply pw_below_drewN | apply below_drew1) | exact HB.out))) : w.heap.size ≤ gb925)); clear HB; have HB := n0_; have BK925 := n1_; have GW925 := n2_; have GE925 := n3_; clear n0_ n1_ n2_ n3_; clear hb hbox hg; have hcz11_0 : w10.cell? ⟨gb925, 0, none⟩ = some (.slice A0_0 l0_0.length c0_0) := (blk_cell BK925.out 0).trans rfl; have hfz11_0 := blk_frozen BK925.out 0) | ((with_reducible refine gate_callee (f := 53) rfl ?_); refine goesL_ (some 5) rfl rfl Try.func53 (by kernel_rfl) rfl #[.agg #[.slice A0_0 l0_0.length c0_0]] rfl (by (try simp only [List.map_toArray, List.map_cons, List.map_nil]); first | done | rfl | (simp only [List.length_drop, List.length_take]; rfl)) ?_; (with_reducible refine (spec_poGood.calls k _ _ l0_0 false _ ?side1 ?side2 A2.out).mono ?_); (case side1 => repeat (first | exact (Kd.C_below HR0_0.out HB.out) | (with_reducible refine Kd.C_alloc ?_ _) | (with_reducible refine Kd.C_drewN ?_ _) | (with_reducible refine Kd.C_drew ?_))); (case side2 => exact HC0_0.out); rintro e w12 ⟨rfl, hb⟩; refine ⟨_, rfl, ?_⟩; have n0_ := Aside0.mk (blk_below (g := gb925) (o := .cells #[.slice A0_0 l0_0.length c0_0] 34 (0, 0)) (by (with_reducible repeat (first | refine blk_drewN ?_ _ | refine blk_drew ?_ | refine blk_alloc ?_ _)); exact BK925.out) hb); have n1_ := Aside0.mk (below_step (by repeat (first | (with_reducible first | exact HB.out | apply below_alloc | apply pw_below_drewN | apply below_drew1 | refine below_set ?_ GE925.out) | exact HB.out)) hb); clear BK925; clear HB; have BK925 := n0_; have HB := n1_; clear n0_ n1_; (try clear hb); (try clear hb2); (try clear hk); (try clear hi)))
    go_ret2
    exact ⟨by first | rfl | (simp [errW_none, errW_some] <;> rfl) | (simp [*, errW_none, errW_some] <;> rfl), by repeat (first | (with_reducible first | exact HB.out | apply below_alloc | apply pw_below_drewN | apply below_drew1 | refine below_set ?_ GE925.out) | exact HB.out)⟩

/-! ### impl_Poset_top: function 97 -/
def impl_Poset_top.l0 : Nat → Int → List Int → Int → Int → List Int → Option (Int)
  | 0, _, _, _, _, _ => none
  | k + 1, x5, x10, x11, x12, x929000 => if x12 < x11 then (if 0 ≤ x12 then (if x12 < (x10.length : Int) then (if 0 ≤ (rd x10 x12) then (if (rd x10 x12) < (x929000.length : Int) then (impl_Poset_top.l0 k (Go.bits .andNot .i64 x5 (rd x929000 (rd x10 x12))) x10 x11 (wrap64 (x12 + 1)) x929000) else (none)) else (none)) else (none)) else (none)) else (some x5)
def impl_Poset_top.f (k : Nat) (l0_0 : List Int) (a1 : Int) : Option (Int) := (impl_items.f k a1).bind fun t929 => (impl_Poset_top.l0 k a1 t929 (t929.length : Int) 0 l0_0)
theorem impl_Poset_top.mono_l : ∀ k, (∀ y0 y1 y2 y3 y4, LeO (impl_Poset_top.l0 k y0 y1 y2 y3 y4) (impl_Poset_top.l0 (k + 1) y0 y1 y2 y3 y4))
  | 0 => fun _ _ _ _ _ r h => by simp [impl_Poset_top.l0] at h
  | k + 1 => by
    have ih0 := impl_Poset_top.mono_l k
    · intro y0 y1 y2 y3 y4
      unfold impl_Poset_top.l0
      repeat' first
      | (with_reducible exact ih0 _ _ _ _ _)
      | (with_reducible exact impl_items.mono _ _)
      | (with_reducible exact LeO.refl _)
      | (with_reducible exact LeO.none _)
      | (with_reducible refine LeO.ite ?_ ?_)
      | (with_reducible refine LeO.bind ?_ (fun _ => ?_))
      | exact ih0 _ _ _ _ _
      | exact impl_items.mono _ _
      | exact LeO.none _
      | refine LeO.ite ?_ ?_
      | refine LeO.bind ?_ (fun _ => ?_)
theorem impl_Poset_top.mono : ∀ a0 a1 k, LeO (impl_Poset_top.f k a0 a1) (impl_Poset_top.f (k + 1) a0 a1) := by
  intro a0 a1 k
  have ih0 := impl_Poset_top.mono_l k
  unfold impl_Poset_top.f
  repeat' first
      | (with_reducible exact ih0 _ _ _ _ _)
      | (with_reducible exact impl_items.mono _ _)
      | (with_reducible exact LeO.refl _)
      | (with_reducible exact LeO.none _)
      | (with_reducible refine LeO.ite ?_ ?_)
      | (with_reducible refine LeO.bind ?_ (fun _ => ?_))
      | exact ih0 _ _ _ _ _
      | exact impl_items.mono _ _
      | exact LeO.none _
      | refine LeO.ite ?_ ?_
      | refine LeO.bind ?_ (fun _ => ?_)
set_option maxHeartbeats 8000000 in
set_option maxRecDepth 100000 in
theorem impl_Poset_top.calls (k : Nat) (A0_0 : Option Addr) (c0_0 : Nat) (l0_0 : List Int) (a1 : Int) (r : Int) (w : World) (hr0_0 : Kd.C (Kd.int .i64) w A0_0 l0_0.length l0_0) (hc0_0 : l0_0.length ≤ c0_0) (h : impl_Poset_top.f k l0_0 a1 = some r) :
    Calls Try.prog 97 #[.agg #[.slice A0_0 l0_0.length c0_0], .int .i64 a1] w fun e w' => e = .returned (.int .i64 r) ∧ Below w.heap.size w w' := by
  have hu34 := Try.underlying34
  have HR0_0 := Aside0.mk hr0_0
  have HC0_0 := Aside0.mk hc0_0
  clear hr0_0 hc0_0
  have HB := Aside0.mk (Below.refl w.heap.size w)
  have H : ((impl_items.f k a1).bind fun t929 => (impl_Poset_top.l0 k a1 t929 (t929.length : Int) 0 l0_0)) = some r := h
  clear h
  replace H := Option.bind_eq_some_iff.mp H
  obtain ⟨t929, A30, H⟩ := H
  replace H : (impl_Poset_top.l0 k a1 t929 (t929.length : Int) 0 l0_0) = some r := H
  have A3 := Aside0.mk A30
  clear A30
  have H' := Aside0.mk H
  clear H
  go_enter Try.func97, Try.ntmps97
  go_wp2_with (first | ((with_reducible refine gate_dst (N := 2) rfl ?_); refine box_event ?hg (N := 2) ?hd (cs := #[.slice A0_0 l0_0.length c0_0]) (t := 34) ?hr ?_; (case hd => rfl); (case hg => rfl); (case hr => first | (go_simp; done) | (go_simp; rfl)); intro gb928 hg w4 hbox hb; have n0_ := Aside0.mk (below_step (by repeat (first | (with_reducible first | exact HB.out | apply below_alloc | apply pw_below_drewN | apply below_drew1) | exact HB.out)) hb); have n1_ := Aside0.mk (hbox); have n2_ := Aside0.mk ((by rw [hg]; exact (below_size (by repeat (first | (with_reducible first | exact HB.out | apply below_alloc | apply pw_below_drewN | apply below_drew1) | exact HB.out))) : w.heap.size ≤ gb928)); have n3_ := Aside0.mk ((by rw [hg]; exact (below_size (by repeat (first | (with_reducible first | exact HB.out | apply below_alloc | apply pw_below_drewN | apply below_drew1) | exact HB.out))) : w.heap.size ≤ gb928)); clear HB; have HB := n0_; have BK928 := n1_; have GW928 := n2_; have GE928 := n3_; clear n0_ n1_ n2_ n3_; clear hb hbox hg) | ((with_reducible refine gate_callee (f := 51) rfl ?_); refine goesL_ (some 10) rfl rfl Try.func51 (by kernel_rfl) rfl #[.int .i64 a1] rfl (by (try simp only [List.map_toArray, List.map_cons, List.map_nil]); first | done | rfl | (simp only [List.length_drop, List.length_take]; rfl)) ?_; (with_reducible refine (impl_items.calls k a1 t929 _ A3.out).mono ?_); rintro e w5 ⟨v930, rfl, ho0, hb⟩; refine ⟨_, rfl, ?_⟩; have n0_ := Aside0.mk (Kd.R_lower ho0 (below_size (by repeat (first | (with_reducible first | exact HB.out | apply below_alloc | apply pw_below_drewN | apply below_drew1 | refine below_set ?_ GE928.out) | exact HB.out)))); have n1_ := Aside0.mk (blk_below (g := gb928) (o := .cells #[.slice A0_0 l0_0.length c0_0] 34 (0, 0)) (by (with_reducible repeat (first | refine blk_drewN ?_ _ | refine blk_drew ?_ | refine blk_alloc ?_ _)); exact BK928.out) hb); have n2_ := Aside0.mk (below_step (by repeat (first | (with_reducible first | exact HB.out | apply below_alloc | apply pw_below_drewN | apply below_drew1 | refine below_set ?_ GE928.out) | exact HB.out)) hb); clear BK928; clear HB; have HO931 := n0_; have BK928 := n1_; have HB := n2_; clear n0_ n1_ n2_; (try clear hb); (try clear hb2); (try clear hk); (try clear hi); (try clear ho0); obtain ⟨Ao6, co6, eo6⟩ := Kd.R_slice HO931.out; subst eo6))
  go_loopg [5, 12] k (fun kq v5 v12 w' => ∃ (x5_1 : Int) (x12_1 : Int), v5 = .int .i64 x5_1 ∧ v12 = .int .i64 x12_1 ∧ Aside0 (impl_Poset_top.l0 kq x5_1 t929 (t929.length : Int) x12_1 l0_0 = some r) ∧ Aside0 (kq ≤ k) ∧ Aside0 (Kd.R (Kd.int .i64) 3 w' w.heap.size (fun _ => True) (.slice Ao6 t929.length co6) t929) ∧ Aside0 (w'.heap[gb928]? = some (.cells #[(.slice A0_0 l0_0.length c0_0)] 34 (0, 0))) ∧ Aside0 (Below w.heap.size w w'))
  case atStart => exact ⟨(a1), (0), (by first | rfl | (simp; done) | (simp [*]; done)), (by first | rfl | (simp; done) | (simp [*]; done)), H', ⟨Nat.le_refl _⟩, ⟨by (with_reducible repeat (first | apply Kd.R_alloc | apply Kd.R_drewN | apply Kd.R_drew)); exact HO931.out⟩, ⟨by (with_reducible repeat (first | refine blk_drewN ?_ _ | refine blk_drew ?_ | refine blk_alloc ?_ _)); exact BK928.out⟩, ⟨by repeat (first | (with_reducible first | exact HB.out | apply below_alloc | apply pw_below_drewN | apply below_drew1 | refine below_set ?_ GE928.out) | exact HB.out)⟩⟩
  case round =>
    clear H'
    try clear p2
    try clear c5
    obtain ⟨x5_1, x12_1, rfl, rfl, HA, HK1, HO_10, BK928, HB⟩ := hrel
    cases gk with
    | zero => exact absurd HA.out (by simp [impl_Poset_top.l0])
    | succ k1 =>
      have H := HA.out
      clear HA
      simp only [impl_Poset_top.l0] at H
      by_cases c7 : x12_1 < (t929.length : Int)
      · rw [if_pos c7] at H
        have c7b0 : decide (x12_1 < (t929.length : Int)) = true := decide_eq_true c7
        clear c7
        by_cases c8 : 0 ≤ x12_1
        · rw [if_pos c8] at H
          have c8b0 : decide (0 ≤ x12_1) = true := decide_eq_true c8
          clear c8
          by_cases c9 : x12_1 < (t929.length : Int)
          · rw [if_pos c9] at H
            have c9b0 : decide (x12_1 < (t929.length : Int)) = true := decide_eq_true c9
            clear c9
            by_cases c10 : 0 ≤ (rd t929 x12_1)
            · rw [if_pos c10] at H
              have c10b0 : decide (0 ≤ (rd t929 x12_1)) = true := decide_eq_true c10
              clear c10
              by_cases c11 : (rd t929 x12_1) < (l0_0.length : Int)
              · rw [if_pos c11] at H
                have c11b0 : decide ((rd t929 x12_1) < (l0_0.length : Int)) = true := decide_eq_true c11
                clear c11
                have H' := Aside0.mk H
                clear H
                have p932 : 0 ≤ (x12_1 : Int) := of_decide_eq_true (by first | (with_reducible assumption) | assumption)
                have q932 : x12_1 < (t929.length : Int) := of_decide_eq_true (by first | (with_reducible assumption) | assumption)
                obtain ⟨ad932, e932, hx932_0⟩ := Kd.at_int (Kd.R_reads' HO_10.out).2.2 x12_1 p932 q932
                cases e932
                replace p932 := eq_true p932
                replace q932 := eq_true q932
                have hcz12_0 : wr.cell? ⟨gb928, 0, none⟩ = some (.slice A0_0 l0_0.length c0_0) := (blk_cell BK928.out 0).trans rfl
                have hfz12_0 := blk_frozen BK928.out 0
                have p933 : 0 ≤ ((rd t929 x12_1) : Int) := of_decide_eq_true (by first | (with_reducible assumption) | assumption)
                have q933 : (rd t929 x12_1) < (l0_0.length : Int) := of_decide_eq_true (by first | (with_reducible assumption) | assumption)
                obtain ⟨ad933, e933, hx933_0⟩ := Kd.at_int HR0_0.out (rd t929 x12_1) p933 q933
                cases e933
                replace hx933_0 := (HB.out.cell (World.block_lt_of_cell? w _ hx933_0)).trans hx933_0
                replace p933 := eq_true p933
                replace q933 := eq_true q933
                go_wp2
                go_roundg k1
                case measure => have := HK1.out; omega
                case rel => exact ⟨(Go.bits .andNot .i64 x5_1 (rd l0_0 (rd t929 x12_1))), (wrap64 (x12_1 + 1)), (by first | rfl | (simp; done) | (simp [*]; done)), (by first | rfl | (simp; done) | (simp [*]; done)), H', ⟨by have := HK1.out; omega⟩, ⟨by (with_reducible repeat (first | apply Kd.R_alloc | apply Kd.R_drewN | apply Kd.R_drew)); exact HO_10.out⟩, ⟨by (with_reducible repeat (first | refine blk_drewN ?_ _ | refine blk_drew ?_ | refine blk_alloc ?_ _)); exact BK928.out⟩, ⟨by repeat (first | (with_reducible first | exact HB.out | apply below_alloc | apply pw_below_drewN | apply below_drew1 | refine below_set ?_ GE928.out) | exact HB.out)⟩⟩
              · rw [if_neg c11] at H
                exact absurd H (by simp)
            · rw [if_neg c10] at H
              exact absurd H (by simp)
          · rw [if_neg c9] at H
            exact absurd H (by simp)
        · rw [if_neg c8] at H
          exact absurd H (by simp)
      · rw [if_neg c7] at H
        have c7b0 : decide (x12_1 < (t929.length : Int)) = false := decide_eq_false c7
        clear c7
        obtain rfl := Option.some.inj H
        go_wp2
        go_ret
        exact ⟨by first | rfl | (simp [errW_none, errW_some] <;> rfl) | (simp [*, errW_none, errW_some] <;> rfl), by repeat (first | (with_reducible first | exact HB.out | apply below_alloc | apply pw_below_drewN | apply below_drew1 | refine below_set ?_ GE928.out) | exact HB.out)⟩

/-! ### impl_Poset_topSize: function 66 -/
def impl_Poset_topSize.f (k : Nat) (l0_0 : List Int) (a1 : Int) : Option (Int) := (impl_Poset_top.f k l0_0 a1).bind fun t935 => ((impl_size.f t935).bind fun t936 => (some t936))
theorem impl_Poset_topSize.mono : ∀ a0 a1 k, LeO (impl_Poset_topSize.f k a0 a1) (impl_Poset_topSize.f (k + 1) a0 a1) := by
  intro a0 a1 k
  unfold impl_Poset_topSize.f
  repeat' first
      | (with_reducible exact impl_Poset_top.mono _ _ _)
      | (with_reducible exact LeO.refl _)
      | (with_reducible exact LeO.none _)
      | (with_reducible refine LeO.ite ?_ ?_)
      | (with_reducible refine LeO.bind ?_ (fun _ => ?_))
      | exact impl_Poset_top.mono _ _ _
      | exact LeO.none _
      | refine LeO.ite ?_ ?_
      | refine LeO.bind ?_ (fun _ => ?_)
set_option maxHeartbeats 8000000 in
set_option maxRecDepth 100000 in
theorem impl_Poset_topSize.calls (k : Nat) (A0_0 : Option Addr) (c0_0 : Nat) (l0_0 : List Int) (a1 : Int) (r : Int) (w : World) (hr0_0 : Kd.C (Kd.int .i64) w A0_0 l0_0.length l0_0) (hc0_0 : l0_0.length ≤ c0_0) (h : impl_Poset_topSize.f k l0_0 a1 = some r) :
    Calls Try.prog 66 #[.agg #[.slice A0_0 l0_0.length c0_0], .int .i64 a1] w fun e w' => e = .returned (.int .i64 r) ∧ Below w.heap.size w w' := by
  have hu34 := Try.underlying34
  have HR0_0 := Aside0.mk hr0_0
  have HC0_0 := Aside0.mk hc0_0
  clear hr0_0 hc0_0
  have HB := Aside0.mk (Below.refl w.heap.size w)
  have H : ((impl_Poset_top.f k l0_0 a1).bind fun t935 => ((impl_size.f t935).bind fun t936 => (some t936))) = some r := h
  clear h
  replace H := Option.bind_eq_some_iff.mp H
  obtain ⟨t935, A30, H⟩ := H
  replace H : ((impl_size.f t935).bind fun t936 => (some t936)) = some r := H
  have A3 := Aside0.mk A30
  clear A30
  replace H := Option.bind_eq_some_iff.mp H
  obtain ⟨t936, A40, H⟩ := H
  replace H : (some t936) = some r := H
  have A4 := Aside0.mk A40
  clear A40
  obtain rfl := Option.some.inj H
  go_enter Try.func66, Try.ntmps66
  go_wp2_with (first | ((with_reducible refine gate_dst (N := 2) rfl ?_); refine box_event ?hg (N := 2) ?hd (cs := #[.slice A0_0 l0_0.length c0_0]) (t := 34) ?hr ?_; (case hd => rfl); (case hg => rfl); (case hr => first | (go_simp; done) | (go_simp; rfl)); intro gb934 hg w5 hbox hb; have n0_ := Aside0.mk (below_step (by repeat (first | (with_reducible first | exact HB.out | apply below_alloc | apply pw_below_drewN | apply below_drew1) | exact HB.out)) hb); have n1_ := Aside0.mk (hbox); have n2_ := Aside0.mk ((by rw [hg]; exact (below_size (by repeat (first | (with_reducible first | exact HB.out | apply below_alloc | apply pw_below_drewN | apply below_drew1) | exact HB.out))) : w.heap.size ≤ gb934)); have n3_ := Aside0.mk ((by rw [hg]; exact (below_size (by repeat (first | (with_reducible first | exact HB.out | apply below_alloc | apply pw_below_drewN | apply below_drew1) | exact HB.out))) : w.heap.size ≤ gb934)); clear HB; have HB := n0_; have BK934 := n1_; have GW934 := n2_; have GE934 := n3_; clear n0_ n1_ n2_ n3_; clear hb hbox hg; have hcz6_0 : w5.cell? ⟨gb934, 0, none⟩ = some (.slice A0_0 l0_0.length c0_0) := (blk_cell BK934.out 0).trans rfl; have hfz6_0 := blk_frozen BK934.out 0) | ((with_reducible refine gate_callee (f := 97) rfl ?_); refine goesL_ (some 7) rfl rfl Try.func97 (by kernel_rfl) rfl #[.agg #[.slice A0_0 l0_0.length c0_0], .int .i64 a1] rfl (by (try simp only [List.map_toArray, List.map_cons, List.map_nil]); first | done | rfl | (simp only [List.length_drop, List.length_take]; rfl)) ?_; (with_reducible refine (impl_Poset_top.calls k _ _ l0_0 a1 t935 _ ?side1 ?side2 A3.out).mono ?_); (case side1 => repeat (first | exact (Kd.C_below HR0_0.out HB.out) | (with_reducible refine Kd.C_alloc ?_ _) | (with_reducible refine Kd.C_drewN ?_ _) | (with_reducible refine Kd.C_drew ?_))); (case side2 => exact HC0_0.out); rintro e w7 ⟨rfl, hb⟩; refine ⟨_, rfl, ?_⟩; have n0_ := Aside0.mk (blk_below (g := gb934) (o := .cells #[.slice A0_0 l0_0.length c0_0] 34 (0, 0)) (by (with_reducible repeat (first | refine blk_drewN ?_ _ | refine blk_drew ?_ | refine blk_alloc ?_ _)); exact BK934.out) hb); have n1_ := Aside0.mk (below_step (by repeat (first | (with_reducible first | exact HB.out | apply below_alloc | apply pw_below_drewN | apply below_drew1 | refine below_set ?_ GE934.out) | exact HB.out)) hb); clear BK934; clear HB; have BK934 := n0_; have HB := n1_; clear n0_ n1_; (try clear hb); (try clear hb2); (try clear hk); (try clear hi)) | ((with_reducible refine gate_callee (f := 65) rfl ?_); refine goesL_ (some 8) rfl rfl Try.func65 (by kernel_rfl) rfl #[.int .i64 t935] rfl (by (try simp only [List.map_toArray, List.map_cons, List.map_nil]); first | done | rfl | (simp only [List.length_drop, List.length_take]; rfl)) ?_; (with_reducible refine (impl_size.calls t935 t936 _ A4.out).mono ?_); rintro e w8 ⟨rfl, hb⟩; refine ⟨_, rfl, ?_⟩; have n0_ := Aside0.mk (blk_below (g := gb934) (o := .cells #[.slice A0_0 l0_0.length c0_0] 34 (0, 0)) (by (with_reducible repeat (first | refine blk_drewN ?_ _ | refine blk_drew ?_ | refine blk_alloc ?_ _)); exact BK934.out) hb); have n1_ := Aside0.mk (below_step (by repeat (first | (with_reducible first | exact HB.out | apply below_alloc | apply pw_below_drewN | apply below_drew1 | refine below_set ?_ GE934.out) | exact HB.out)) hb); clear BK934; clear HB; have BK934 := n0_; have HB := n1_; clear n0_ n1_; (try clear hb); (try clear hb2); (try clear hk); (try clear hi)))
  go_ret
  exact ⟨by first | rfl | (simp [errW_none, errW_some] <;> rfl) | (simp [*, errW_none, errW_some] <;> rfl), by repeat (first | (with_reducible first | exact HB.out | apply below_alloc | apply pw_below_drewN | apply below_drew1 | refine below_set ?_ GE934.out) | exact HB.out)⟩

/-! ### impl_sum_at_impl_Poset_topSize: function 93 -/
def impl_sum_at_impl_Poset_topSize.l0 : Nat → Int → List Int → Int → Int → List Int → Option (Int)
  | 0, _, _, _, _, _ => none
  | k + 1, x5, x8, x9, x10, x820 => if x10 < x9 then (if 0 ≤ x10 then (if x10 < (x8.length : Int) then ((impl_Poset_topSize.f k x820 (rd x8 x10)).bind fun t947 => (impl_sum_at_impl_Poset_topSize.l0 k (wrap64 (x5 + t947)) x8 x9 (wrap64 (x10 + 1)) x820)) else (none)) else (none)) else (some x5)
def impl_sum_at_impl_Poset_topSize.f (k : Nat) (l0 : List Int) (l1_0 : List Int) : Option (Int) := impl_sum_at_impl_Poset_topSize.l0 k 0 l0 (l0.length : Int) 0 l1_0
theorem impl_sum_at_impl_Poset_topSize.mono_l : ∀ k, (∀ y0 y1 y2 y3 y4, LeO (impl_sum_at_impl_Poset_topSize.l0 k y0 y1 y2 y3 y4) (impl_sum_at_impl_Poset_topSize.l0 (k + 1) y0 y1 y2 y3 y4))
  | 0 => fun _ _ _ _ _ r h => by simp [impl_sum_at_impl_Poset_topSize.l0] at h
  | k + 1 => by
    have ih0 := impl_sum_at_impl_Poset_topSize.mono_l k
    · intro y0 y1 y2 y3 y4
      unfold impl_sum_at_impl_Poset_topSize.l0
      repeat' first
      | (with_reducible exact ih0 _ _ _ _ _)
      | (with_reducible exact impl_Poset_topSize.mono _ _ _)
      | (with_reducible exact LeO.refl _)
      | (with_reducible exact LeO.none _)
      | (with_reducible refine LeO.ite ?_ ?_)
      | (with_reducible refine LeO.bind ?_ (fun _ => ?_))
      | exact ih0 _ _ _ _ _
      | exact impl_Poset_topSize.mono _ _ _
      | exact LeO.none _
      | refine LeO.ite ?_ ?_
      | refine LeO.bind ?_ (fun _ => ?_)
theorem impl_sum_at_impl_Poset_topSize.mono : ∀ a0 a1 k, LeO (impl_sum_at_impl_Poset_topSize.f k a0 a1) (impl_sum_at_impl_Poset_topSize.f (k + 1) a0 a1) := by
  intro a0 a1 k
  have ih0 := impl_sum_at_impl_Poset_topSize.mono_l k
  unfold impl_sum_at_impl_Poset_topSize.f
  repeat' first
      | (with_reducible exact ih0 _ _ _ _ _)
      | (with_reducible exact impl_Poset_topSize.mono _ _ _)
      | (with_reducible exact LeO.refl _)
      | (with_reducible exact LeO.none _)
      | (with_reducible refine LeO.ite ?_ ?_)
      | (with_reducible refine LeO.bind ?_ (fun _ => ?_))
      | exact ih0 _ _ _ _ _
      | exact impl_Poset_topSize.mono _ _ _
      | exact LeO.none _
      | refine LeO.ite ?_ ?_
      | refine LeO.bind ?_ (fun _ => ?_)
set_option maxHeartbeats 8000000 in
set_option maxRecDepth 100000 in
theorem impl_sum_at_impl_Poset_topSize.calls (k : Nat) (A0 : Option Addr) (c0 : Nat) (l0 : List Int) (A1_0 : Option Addr) (c1_0 : Nat) (l1_0 : List Int) (r : Int) (w : World) (hr0 : Kd.C (Kd.int .i64) w A0 l0.length l0) (hc0 : l0.length ≤ c0) (hr1_0 : Kd.C (Kd.int .i64) w A1_0 l1_0.length l1_0) (hc1_0 : l1_0.length ≤ c1_0) (h : impl_sum_at_impl_Poset_topSize.f k l0 l1_0 = some r) :
    Calls Try.prog 93 #[.slice A0 l0.length c0, .func (.func 66) #[(.agg #[.slice A1_0 l1_0.length c1_0])] #[]] w fun e w' => e = .returned (.int .i64 r) ∧ Below w.heap.size w w' := by
  have HR0 := Aside0.mk hr0
  have HC0 := Aside0.mk hc0
  clear hr0 hc0
  have HR1_0 := Aside0.mk hr1_0
  have HC1_0 := Aside0.mk hc1_0
  clear hr1_0 hc1_0
  have HB := Aside0.mk (Below.refl w.heap.size w)
  have H : (impl_sum_at_impl_Poset_topSize.l0 k 0 l0 (l0.length : Int) 0 l1_0) = some r := h
  clear h
  have H' := Aside0.mk H
  clear H
  go_enter Try.func93, Try.ntmps93
  go_wp2
  go_loopg [5, 10] k (fun kq v5 v10 w' => ∃ (x5_1 : Int) (x10_1 : Int), v5 = .int .i64 x5_1 ∧ v10 = .int .i64 x10_1 ∧ Aside0 (impl_sum_at_impl_Poset_topSize.l0 kq x5_1 l0 (l0.length : Int) x10_1 l1_0 = some r) ∧ Aside0 (kq ≤ k) ∧ Aside0 (Below w.heap.size w w'))
  case atStart => exact ⟨(0), (0), (by first | rfl | (simp; done) | (simp [*]; done)), (by first | rfl | (simp; done) | (simp [*]; done)), H', ⟨Nat.le_refl _⟩, ⟨by repeat (first | (with_reducible first | exact HB.out | apply below_alloc | apply pw_below_drewN | apply below_drew1) | exact HB.out)⟩⟩
  case round =>
    clear H'
    try clear c1
    try clear p2
    obtain ⟨x5_1, x10_1, rfl, rfl, HA, HK1, HB⟩ := hrel
    cases gk with
    | zero => exact absurd HA.out (by simp [impl_sum_at_impl_Poset_topSize.l0])
    | succ k1 =>
      have H := HA.out
      clear HA
      simp only [impl_sum_at_impl_Poset_topSize.l0] at H
      by_cases c3 : x10_1 < (l0.length : Int)
      · rw [if_pos c3] at H
        have c3b0 : decide (x10_1 < (l0.length : Int)) = true := decide_eq_true c3
        clear c3
        by_cases c4 : 0 ≤ x10_1
        · rw [if_pos c4] at H
          have c4b0 : decide (0 ≤ x10_1) = true := decide_eq_true c4
          clear c4
          by_cases c5 : x10_1 < (l0.length : Int)
          · rw [if_pos c5] at H
            have c5b0 : decide (x10_1 < (l0.length : Int)) = true := decide_eq_true c5
            clear c5
            replace H := Option.bind_eq_some_iff.mp H
            obtain ⟨t947, A60, H⟩ := H
            replace H : (impl_sum_at_impl_Poset_topSize.l0 k1 (wrap64 (x5_1 + t947)) l0 (l0.length : Int) (wrap64 (x10_1 + 1)) l1_0) = some r := H
            have A6 := Aside0.mk A60
            clear A60
            have H' := Aside0.mk H
            clear H
            have p946 : 0 ≤ (x10_1 : Int) := of_decide_eq_true (by first | (with_reducible assumption) | assumption)
            have q946 : x10_1 < (l0.length : Int) := of_decide_eq_true (by first | (with_reducible assumption) | assumption)
            obtain ⟨ad946, e946, hx946_0⟩ := Kd.at_int HR0.out x10_1 p946 q946
            cases e946
            replace hx946_0 := (HB.out.cell (World.block_lt_of_cell? w _ hx946_0)).trans hx946_0
            replace p946 := eq_true p946
            replace q946 := eq_true q946
            go_wp2_with (first | (go_at_call 66; (with_reducible refine (impl_Poset_topSize.calls k1 _ _ l1_0 (rd l0 x10_1) t947 _ ?side1 ?side2 A6.out).mono ?_); (case side1 => repeat (first | exact (Kd.C_below HR1_0.out HB.out) | (with_reducible refine Kd.C_alloc ?_ _) | (with_reducible refine Kd.C_drewN ?_ _) | (with_reducible refine Kd.C_drew ?_))); (case side2 => exact HC1_0.out); rintro e w7 ⟨rfl, hb⟩; have n0_ := Aside0.mk (below_step (by repeat (first | (with_reducible first | exact HB.out | apply below_alloc | apply pw_below_drewN | apply below_drew1) | exact HB.out)) hb); clear HB; have HB := n0_; clear n0_; (try clear hb); (try clear hb2); (try clear hk); (try clear hi)))
            go_roundg k1
            case measure => have := HK1.out; omega
            case rel => exact ⟨(wrap64 (x5_1 + t947)), (wrap64 (x10_1 + 1)), (by first | rfl | (simp; done) | (simp [*]; done)), (by first | rfl | (simp; done) | (simp [*]; done)), H', ⟨by have := HK1.out; omega⟩, ⟨by repeat (first | (with_reducible first | exact HB.out | apply below_alloc | apply pw_below_drewN | apply below_drew1) | exact HB.out)⟩⟩
          · rw [if_neg c5] at H
            exact absurd H (by simp)
        · rw [if_neg c4] at H
          exact absurd H (by simp)
      · rw [if_neg c3] at H
        have c3b0 : decide (x10_1 < (l0.length : Int)) = false := decide_eq_false c3
        clear c3
        obtain rfl := Option.some.inj H
        go_wp2
        go_ret
        exact ⟨by first | rfl | (simp [errW_none, errW_some] <;> rfl) | (simp [*, errW_none, errW_some] <;> rfl), by repeat (first | (with_reducible first | exact HB.out | apply below_alloc | apply pw_below_drewN | apply below_drew1) | exact HB.out)⟩

/-! ### impl_Poset_even_1_c_v2: function 95 -/
def impl_Poset_even_1_c_v2.f (k : Nat) (l0 : List Int) (l1_0 : List Int) (l2_0 : List (List Int)) (a3_0 : Int) : Option (Bool) := (impl_sum_at_impl_Poset_topSize.f k l0 l1_0).bind fun t967 => (if 0 < (l2_0.length : Int) then (some ((wrap64 (t967 * ((rd_L1 l2_0 0).length : Int))) != (wrap64 (a3_0 * (l0.length : Int))))) else (none))
theorem impl_Poset_even_1_c_v2.mono : ∀ a0 a1 a2 a3 k, LeO (impl_Poset_even_1_c_v2.f k a0 a1 a2 a3) (impl_Poset_even_1_c_v2.f (k + 1) a0 a1 a2 a3) := by
  intro a0 a1 a2 a3 k
  unfold impl_Poset_even_1_c_v2.f
  repeat' first
      | (with_reducible exact impl_sum_at_impl_Poset_topSize.mono _ _ _)
      | (with_reducible exact LeO.refl _)
      | (with_reducible exact LeO.none _)
      | (with_reducible refine LeO.ite ?_ ?_)
      | (with_reducible refine LeO.bind ?_ (fun _ => ?_))
      | exact impl_sum_at_impl_Poset_topSize.mono _ _ _
      | exact LeO.none _
      | refine LeO.ite ?_ ?_
      | refine LeO.bind ?_ (fun _ => ?_)
def impl_Poset_even_1_c_v2.T1 : Bool × List (List Nat × List Nat) := (true, [([], []), ([], []), ([0, 1], [0, 1]), ([], []), ([3], [3]), ([4], [4]), ([5], [5]), ([2, 6], [2, 6]), ([], []), ([], []), ([9], [9]), ([8, 10], [8, 10]), ([7, 11], [7, 11]), ([12, 2, 0, 1, 2, 3, 4, 5, 6, 7, 8, 9, 10, 11, 12], [12])])
def impl_Poset_even_1_c_v2.B1 : List Nat := [0, 0, 3, 0, 8, 24, 56, 127, 0, 0, 512, 1792, 4095, 8191]
theorem impl_Poset_even_1_c_v2.tab1 : rtab .any (opsOf Try.f95 1) = impl_Poset_even_1_c_v2.T1 := by kernel_rfl
theorem impl_Poset_even_1_c_v2.bits1 : waitsOk impl_Poset_even_1_c_v2.T1.2 impl_Poset_even_1_c_v2.B1 = true := by kernel_rfl
set_option maxHeartbeats 8000000 in
set_option maxRecDepth 100000 in
theorem impl_Poset_even_1_c_v2.calls (k : Nat) (A0 : Option Addr) (c0 : Nat) (l0 : List Int) (g1_0 : Nat) (A1_0 : Option Addr) (c1_0 : Nat) (l1_0 : List Int) (g2_0 : Nat) (A2_0 : Option Addr) (c2_0 : Nat) (l2_0 : List (List Int)) (g3_0 : Nat) (a3_0 : Int) (r : Bool) (w : World) (hr0 : Kd.C (Kd.int .i64) w A0 l0.length l0) (hc0 : l0.length ≤ c0) (hb1_0 : w.heap[g1_0]? = some (.cells #[.func (.func 66) #[(.agg #[.slice A1_0 l1_0.length c1_0])] #[]] 58 (0, 0))) (hr1_0 : Kd.C (Kd.int .i64) w A1_0 l1_0.length l1_0) (hc1_0 : l1_0.length ≤ c1_0) (hb2_0 : w.heap[g2_0]? = some (.cells #[.slice A2_0 l2_0.length c2_0] 43 (0, 0))) (hr2_0 : Kd.C (Kd.slice 3 (Kd.int .i64)) w A2_0 l2_0.length l2_0) (hc2_0 : l2_0.length ≤ c2_0) (hb3_0 : w.heap[g3_0]? = some (.cells #[.int .i64 a3_0] 3 (0, 0))) (hx0_1 : g1_0 ≠ g2_0) (hx0_2 : g1_0 ≠ g3_0) (hx1_2 : g2_0 ≠ g3_0) (h : impl_Poset_even_1_c_v2.f k l0 l1_0 l2_0 a3_0 = some r) :
    Calls Try.prog 95 #[.slice A0 l0.length c0, .pointer (some ⟨g1_0, 0, none⟩), .pointer (some ⟨g2_0, 0, none⟩), .pointer (some ⟨g3_0, 0, none⟩)] w fun e w' => e = .returned (.bool r) ∧ Below w.heap.size w w' := by
  have HR0 := Aside0.mk hr0
  have HC0 := Aside0.mk hc0
  clear hr0 hc0
  have HR1_0 := Aside0.mk hr1_0
  have HC1_0 := Aside0.mk hc1_0
  clear hr1_0 hc1_0
  have HR2_0 := Aside0.mk hr2_0
  have HC2_0 := Aside0.mk hc2_0
  clear hr2_0 hc2_0
  have BK964 := Aside0.mk hb1_0
  clear hb1_0
  have BK965 := Aside0.mk hb2_0
  clear hb2_0
  have BK966 := Aside0.mk hb3_0
  clear hb3_0
  have NB964_965 := Aside0.mk hx0_1
  have NB965_964 := Aside0.mk hx0_1.symm
  clear hx0_1
  have NB964_966 := Aside0.mk hx0_2
  have NB966_964 := Aside0.mk hx0_2.symm
  clear hx0_2
  have NB965_966 := Aside0.mk hx1_2
  have NB966_965 := Aside0.mk hx1_2.symm
  clear hx1_2
  have HB := Aside0.mk (Below.refl w.heap.size w)
  have H : ((impl_sum_at_impl_Poset_topSize.f k l0 l1_0).bind fun t967 => (if 0 < (l2_0.length : Int) then (some ((wrap64 (t967 * ((rd_L1 l2_0 0).length : Int))) != (wrap64 (a3_0 * (l0.length : Int))))) else (none))) = some r := h
  clear h
  replace H := Option.bind_eq_some_iff.mp H
  obtain ⟨t967, A50, H⟩ := H
  replace H : (if 0 < (l2_0.length : Int) then (some ((wrap64 (t967 * ((rd_L1 l2_0 0).length : Int))) != (wrap64 (a3_0 * (l0.length : Int))))) else (none)) = some r := H
  have A5 := Aside0.mk A50
  clear A50
  by_cases c6 : 0 < (l2_0.length : Int)
  · rw [if_pos c6] at H
    have c6b0 : decide (0 < (l2_0.length : Int)) = true := decide_eq_true c6
    have c6b1 : decide (0 < l2_0.length) = true := decide_eq_true (by omega)
    clear c6
    obtain rfl := Option.some.inj H
    go_enter Try.func95, Try.ntmps95
    try go_wp2
    have n0_ := Aside0.mk (blk_drew BK964.out)
    have n1_ := Aside0.mk (blk_drew BK965.out)
    have n2_ := Aside0.mk (blk_drew BK966.out)
    have n3_ := Aside0.mk (below_drew1 HB.out)
    clear BK964
    clear BK965
    clear BK966
    clear HB
    have BK964 := n0_
    have BK965 := n1_
    have BK966 := n2_
    have HB := n3_
    clear n0_ n1_ n2_ n3_
    have p968 : 0 ≤ (0 : Int) := (by omega)
    have q968 : 0 < (l2_0.length : Int) := of_decide_eq_true (by first | (with_reducible assumption) | assumption)
    obtain ⟨ad968, A968_0, c968_0, e968, hx968_0, hl968_0, hi968_0⟩ := at_L1 HR2_0.out 0 p968 q968
    have hw968_0 := hx968_0
    (try rw [show ((0 : Int)).toNat = 0 from rfl] at hw968_0)
    (try rw [show 0 * 1 = 0 from rfl] at hw968_0)
    (try rw [Addr.add_zero'] at hw968_0)
    cases e968
    have qi968 : (0 < l2_0.length) = True := eq_true (by omega)
    (try rw [show ((0 : Int)).toNat = 0 from rfl] at hx968_0)
    (try rw [Addr.add_zero'] at hx968_0)
    replace hx968_0 := (HB.out.cell (World.block_lt_of_cell? w _ hx968_0)).trans hx968_0
    have HR968_0 := Aside0.mk hi968_0
    have HC968_0 := Aside0.mk hl968_0
    clear hi968_0 hl968_0
    replace p968 := eq_true p968
    replace q968 := eq_true q968
    refine start_ (n := 14) (S := fun w' => w'.cell? ⟨g1_0, 0, none⟩ = some (.func (.func 66) #[(.agg #[.slice A1_0 l1_0.length c1_0])] #[]) ∧ w'.cell? ⟨g2_0, 0, none⟩ = some (.slice (some ad968) l2_0.length c2_0) ∧ w'.cell? ⟨g3_0, 0, none⟩ = some (.int .i64 a3_0) ∧ w'.cell? ad968 = some (.slice A968_0 (rd_L1 l2_0 0).length c968_0)) (ds := []) #[false, false, false, false, false, false, false, false, false, false, false, false, false, false] (by kernel_rfl) rfl rfl ⟨(blk_cell BK964.out 0).trans rfl, (blk_cell BK965.out 0).trans rfl, (blk_cell BK966.out 0).trans rfl, ((HB.out.cell (World.block_lt_of_cell? w _ hw968_0)).trans hw968_0)⟩ (fun hHeld => ?_); refine with_tabW impl_Poset_even_1_c_v2.tab1 impl_Poset_even_1_c_v2.bits1 (fun HT_ HW_ => ?_)
    generalize w.drew = w7 at BK964 BK965 BK966 HB HR968_0 hx968_0 hHeld ⊢
    refine pure_ (i := 0) (N := some 6) (v := ?_) (a' := ?_) #[true, false, false, false, false, false, false, false, false, false, false, false, false, false] rfl rfl (any_of HT_.out (by kernel_rfl)) (fun _ _ _ h => h) (Or.inl ⟨by rfl, ?_⟩) ?_ ?_
    rotate_left
    · intro w'
      go_simp
      with_reducible rfl
    rotate_left
    · simp only [Act.put, List.setIfInBounds_toArray, List.set_cons_zero, List.set_cons_succ, i64_w, i32_w]
      rfl
    refine pure_ (i := 9) (N := some 15) (v := ?_) (a' := ?_) #[true, false, false, false, false, false, false, false, false, true, false, false, false, false] rfl rfl (any_of HT_.out (by kernel_rfl)) (fun _ _ _ h => h) (Or.inl ⟨by rfl, ?_⟩) ?_ ?_
    rotate_left
    · intro w'
      go_simp
      with_reducible rfl
    rotate_left
    · simp only [Act.put, List.setIfInBounds_toArray, List.set_cons_zero, List.set_cons_succ, i64_w, i32_w]
      rfl
    refine pure_ (i := 10) (N := some 16) (v := ?_) (a' := ?_) #[true, false, false, false, false, false, false, false, false, true, true, false, false, false] rfl rfl (any_of HT_.out (by kernel_rfl)) (fun _ _ _ h => h) (Or.inl ⟨by rfl, ?_⟩) ?_ ?_
    rotate_left
    · intro w'
      go_simp
      with_reducible rfl
    rotate_left
    · simp only [Act.put, List.setIfInBounds_toArray, List.set_cons_zero, List.set_cons_succ, i64_w, i32_w]
      rfl
    refine take_ (i := 1) (N := some 7) (v := ?_) (a' := ?_) #[true, true, false, false, false, false, false, false, false, true, true, false, false, false] rfl rfl (take_ofW HT_.out HW_.out (by kernel_rfl)) (fun _ _ _ h => h) (Or.inl ⟨by rfl, ?_⟩) hHeld ?_ ?_
    rotate_left
    · rintro w' ⟨s0, s1, s2, s3⟩
      go_simp
      with_reducible rfl
    rotate_left
    · simp only [Act.put, List.setIfInBounds_toArray, List.set_cons_zero, List.set_cons_succ, i64_w, i32_w]
      rfl
    refine take_ (i := 3) (N := some 9) (v := ?_) (a' := ?_) #[true, true, false, true, false, false, false, false, false, true, true, false, false, false] rfl rfl (take_ofW HT_.out HW_.out (by kernel_rfl)) (fun _ _ _ h => h) (Or.inl ⟨by rfl, ?_⟩) hHeld ?_ ?_
    rotate_left
    · rintro w' ⟨s0, s1, s2, s3⟩
      go_simp
      with_reducible rfl
    rotate_left
    · simp only [Act.put, List.setIfInBounds_toArray, List.set_cons_zero, List.set_cons_succ, i64_w, i32_w]
      rfl
    refine pure_ (i := 4) (N := some 10) (v := ?_) (a' := ?_) #[true, true, false, true, true, false, false, false, false, true, true, false, false, false] rfl rfl (any_of HT_.out (by kernel_rfl)) (fun _ _ _ h => h) (Or.inl ⟨by rfl, ?_⟩) ?_ ?_
    rotate_left
    · intro w'
      go_simp
      with_reducible rfl
    rotate_left
    · simp only [Act.put, List.setIfInBounds_toArray, List.set_cons_zero, List.set_cons_succ, i64_w, i32_w]
      rfl
    refine take_ (i := 5) (N := some 11) (v := ?_) (a' := ?_) #[true, true, false, true, true, true, false, false, false, true, true, false, false, false] rfl rfl (take_ofW HT_.out HW_.out (by kernel_rfl)) (fun _ _ _ h => h) (Or.inl ⟨by rfl, ?_⟩) hHeld ?_ ?_
    rotate_left
    · rintro w' ⟨s0, s1, s2, s3⟩
      go_simp
      with_reducible rfl
    rotate_left
    · simp only [Act.put, List.setIfInBounds_toArray, List.set_cons_zero, List.set_cons_succ, i64_w, i32_w]
      rfl
    refine pure_ (i := 6) (N := some 12) (v := ?_) (a' := ?_) #[true, true, false, true, true, true, true, false, false, true, true, false, false, false] rfl rfl (any_of HT_.out (by kernel_rfl)) (fun _ _ _ h => h) (Or.inl ⟨by rfl, ?_⟩) ?_ ?_
    rotate_left
    · intro w'
      go_simp
      with_reducible rfl
    rotate_left
    · simp only [Act.put, List.setIfInBounds_toArray, List.set_cons_zero, List.set_cons_succ, i64_w, i32_w]
      rfl
    refine take_ (i := 8) (N := some 14) (v := ?_) (a' := ?_) #[true, true, false, true, true, true, true, false, true, true, true, false, false, false] rfl rfl (take_ofW HT_.out HW_.out (by kernel_rfl)) (fun _ _ _ h => h) (Or.inl ⟨by rfl, ?_⟩) hHeld ?_ ?_
    rotate_left
    · rintro w' ⟨s0, s1, s2, s3⟩
      go_simp
      with_reducible rfl
    rotate_left
    · simp only [Act.put, List.setIfInBounds_toArray, List.set_cons_zero, List.set_cons_succ, i64_w, i32_w]
      rfl
    refine pure_ (i := 11) (N := some 17) (v := ?_) (a' := ?_) #[true, true, false, true, true, true, true, false, true, true, true, true, false, false] rfl rfl (any_of HT_.out (by kernel_rfl)) (fun _ _ _ h => h) (Or.inl ⟨by rfl, ?_⟩) ?_ ?_
    rotate_left
    · intro w'
      go_simp
      with_reducible rfl
    rotate_left
    · simp only [Act.put, List.setIfInBounds_toArray, List.set_cons_zero, List.set_cons_succ, i64_w, i32_w]
      rfl
    refine one_ (i := 2) (N := some 8) #[true, true, true, true, true, true, true, false, true, true, true, true, false, false] rfl rfl (one_of HT_.out (by kernel_rfl)) (by decide) (fun K hK => ?_)
    refine goes_ Try.func93 (by kernel_rfl) rfl #[.slice A0 l0.length c0, .func (.func 66) #[(.agg #[.slice A1_0 l1_0.length c1_0])] #[]] (by rfl) rfl rfl (by (try simp only [List.map_toArray, List.map_cons, List.map_nil]); first | done | rfl | (simp only [List.length_drop, List.length_take]; rfl)) ?_
    with_reducible refine (impl_sum_at_impl_Poset_topSize.calls k _ _ l0 A1_0 c1_0 l1_0 t967 _ ?side1 ?side2 ?side3 ?side4 A5.out).mono ?_
    (case side1 => repeat (first | exact (Kd.C_below HR0.out HB.out) | (with_reducible refine Kd.C_alloc ?_ _) | (with_reducible refine Kd.C_drewN ?_ _) | (with_reducible refine Kd.C_drew ?_)))
    (case side2 => exact HC0.out)
    (case side3 => repeat (first | exact (Kd.C_below HR1_0.out HB.out) | (with_reducible refine Kd.C_alloc ?_ _) | (with_reducible refine Kd.C_drewN ?_ _) | (with_reducible refine Kd.C_drew ?_)))
    (case side4 => exact HC1_0.out)
    rintro e w8 ⟨rfl, hb⟩
    refine ⟨_, rfl, ?_⟩
    have n0_ := Aside0.mk (blk_below (g := g1_0) (o := .cells #[.func (.func 66) #[(.agg #[.slice A1_0 l1_0.length c1_0])] #[]] 58 (0, 0)) (by (with_reducible repeat (first | refine blk_drewN ?_ _ | refine blk_drew ?_ | refine blk_alloc ?_ _)); exact BK964.out) hb)
    have n1_ := Aside0.mk (blk_below (g := g2_0) (o := .cells #[.slice (some ad968) l2_0.length c2_0] 43 (0, 0)) (by (with_reducible repeat (first | refine blk_drewN ?_ _ | refine blk_drew ?_ | refine blk_alloc ?_ _)); exact BK965.out) hb)
    have n2_ := Aside0.mk (blk_below (g := g3_0) (o := .cells #[.int .i64 a3_0] 3 (0, 0)) (by (with_reducible repeat (first | refine blk_drewN ?_ _ | refine blk_drew ?_ | refine blk_alloc ?_ _)); exact BK966.out) hb)
    have n3_ := Aside0.mk (below_step (by repeat (first | (with_reducible first | exact HB.out | apply below_alloc | apply pw_below_drewN | apply below_drew1 | refine below_set ?_ GE964.out | refine below_set ?_ GE965.out | refine below_set ?_ GE966.out) | exact HB.out)) hb)
    clear BK964
    clear BK965
    clear BK966
    clear HB
    have BK964 := n0_
    have BK965 := n1_
    have BK966 := n2_
    have HB := n3_
    clear n0_ n1_ n2_ n3_
    (try clear hb)
    (try clear hb2)
    (try clear hk)
    (try clear hi)
    refine hK.out _ _ ⟨(blk_cell BK964.out 0).trans rfl, (blk_cell BK965.out 0).trans rfl, (blk_cell BK966.out 0).trans rfl, ((HB.out.cell (World.block_lt_of_cell? w _ hw968_0)).trans hw968_0)⟩ (fun hHeld => ?_)
    clear hK K
    refine norm_ (a' := ?_) ?_ ?_
    rotate_left
    · show Act.put _ (some 8) _ = _
      simp only [Act.put, List.setIfInBounds_toArray, List.set_cons_zero, List.set_cons_succ, i64_w, i32_w]
      rfl
    refine pure_ (i := 7) (N := some 13) (v := ?_) (a' := ?_) #[true, true, true, true, true, true, true, true, true, true, true, true, false, false] rfl rfl (any_of HT_.out (by kernel_rfl)) (fun _ _ _ h => h) (Or.inl ⟨by rfl, ?_⟩) ?_ ?_
    rotate_left
    · intro w'
      go_simp
      with_reducible rfl
    rotate_left
    · simp only [Act.put, List.setIfInBounds_toArray, List.set_cons_zero, List.set_cons_succ, i64_w, i32_w]
      rfl
    refine pure_ (i := 12) (N := some 18) (v := ?_) (a' := ?_) #[true, true, true, true, true, true, true, true, true, true, true, true, true, false] rfl rfl (any_of HT_.out (by kernel_rfl)) (fun _ _ _ h => h) (Or.inl ⟨by rfl, ?_⟩) ?_ ?_
    rotate_left
    · intro w'
      go_simp
      with_reducible rfl
    rotate_left
    · simp only [Act.put, List.setIfInBounds_toArray, List.set_cons_zero, List.set_cons_succ, i64_w, i32_w]
      rfl
    refine pure_ (i := 13) (N := some 5) (v := ?_) (a' := ?_) #[true, true, true, true, true, true, true, true, true, true, true, true, true, true] rfl rfl (any_of HT_.out (by kernel_rfl)) (fun _ _ _ h => h) (Or.inl ⟨by rfl, ?_⟩) ?_ ?_
    rotate_left
    · intro w'
      go_simp
      with_reducible rfl
    rotate_left
    · simp only [Act.put, List.setIfInBounds_toArray, List.set_cons_zero, List.set_cons_succ, i64_w, i32_w]
      rfl
    refine done_ (done_of HT_.out (by kernel_rfl)) ?_
    try go_wp2
    go_ret
    exact ⟨by first | rfl | (simp [errW_none, errW_some] <;> rfl) | (simp [*, errW_none, errW_some] <;> rfl), by repeat (first | (with_reducible first | exact HB.out | apply below_alloc | apply pw_below_drewN | apply below_drew1 | refine below_set ?_ GE964.out | refine below_set ?_ GE965.out | refine below_set ?_ GE966.out) | exact HB.out)⟩
  · rw [if_neg c6] at H
    exact absurd H (by simp)

/-! ### slices_IndexFunc_int_int_at_impl_Poset_even_1_v2: function 109 -/
def slices_IndexFunc_int_int_at_impl_Poset_even_1_v2.l0 : Nat → List (List Int) → Int → Int → List Int → List (List Int) → Int → Option (Int)
  | 0, _, _, _, _, _, _ => none
  | k + 1, x0, x7, x8, x970000, x971000, x972000 => if x8 < x7 then (if 0 ≤ x8 then (if x8 < (x0.length : Int) then ((impl_Poset_even_1_c_v2.f k (rd_L1 x0 x8) x970000 x971000 x972000).bind fun t973 => (if t973 = true then (some x8) else (slices_IndexFunc_int_int_at_impl_Poset_even_1_v2.l0 k x0 x7 (wrap64 (x8 + 1)) x970000 x971000 x972000))) else (none)) else (none)) else (some (-1))
def slices_IndexFunc_int_int_at_impl_Poset_even_1_v2.f (k : Nat) (l0 : List (List Int)) (l1_0 : List Int) (l1_1 : List (List Int)) (a1_2 : Int) : Option (Int) := slices_IndexFunc_int_int_at_impl_Poset_even_1_v2.l0 k l0 (l0.length : Int) 0 l1_0 l1_1 a1_2
theorem slices_IndexFunc_int_int_at_impl_Poset_even_1_v2.mono_l : ∀ k, (∀ y0 y1 y2 y3 y4 y5, LeO (slices_IndexFunc_int_int_at_impl_Poset_even_1_v2.l0 k y0 y1 y2 y3 y4 y5) (slices_IndexFunc_int_int_at_impl_Poset_even_1_v2.l0 (k + 1) y0 y1 y2 y3 y4 y5))
  | 0 => fun _ _ _ _ _ _ r h => by simp [slices_IndexFunc_int_int_at_impl_Poset_even_1_v2.l0] at h
  | k + 1 => by
    have ih0 := slices_IndexFunc_int_int_at_impl_Poset_even_1_v2.mono_l k
    · intro y0 y1 y2 y3 y4 y5
      unfold slices_IndexFunc_int_int_at_impl_Poset_even_1_v2.l0
      repeat' first
      | (with_reducible exact ih0 _ _ _ _ _ _)
      | (with_reducible exact impl_Poset_even_1_c_v2.mono _ _ _ _ _)
      | (with_reducible exact LeO.refl _)
      | (with_reducible exact LeO.none _)
      | (with_reducible refine LeO.ite ?_ ?_)
      | (with_reducible refine LeO.bind ?_ (fun _ => ?_))
      | exact ih0 _ _ _ _ _ _
      | exact impl_Poset_even_1_c_v2.mono _ _ _ _ _
      | exact LeO.none _
      | refine LeO.ite ?_ ?_
      | refine LeO.bind ?_ (fun _ => ?_)
theorem slices_IndexFunc_int_int_at_impl_Poset_even_1_v2.mono : ∀ a0 a1 a2 a3 k, LeO (slices_IndexFunc_int_int_at_impl_Poset_even_1_v2.f k a0 a1 a2 a3) (slices_IndexFunc_int_int_at_impl_Poset_even_1_v2.f (k + 1) a0 a1 a2 a3) := by
  intro a0 a1 a2 a3 k
  have ih0 := slices_IndexFunc_int_int_at_impl_Poset_even_1_v2.mono_l k
  unfold slices_IndexFunc_int_int_at_impl_Poset_even_1_v2.f
  repeat' first
      | (with_reducible exact ih0 _ _ _ _ _ _)
      | (with_reducible exact impl_Poset_even_1_c_v2.mono _ _ _ _ _)
      | (with_reducible exact LeO.refl _)
      | (with_reducible exact LeO.none _)
      | (with_reducible refine LeO.ite ?_ ?_)
      | (with_reducible refine LeO.bind ?_ (fun _ => ?_))
      | exact ih0 _ _ _ _ _ _
      | exact impl_Poset_even_1_c_v2.mono _ _ _ _ _
      | exact LeO.none _
      | refine LeO.ite ?_ ?_
      | refine LeO.bind ?_ (fun _ => ?_)
set_option maxHeartbeats 8000000 in
set_option maxRecDepth 100000 in
theorem slices_IndexFunc_int_int_at_impl_Poset_even_1_v2.calls (k : Nat) (A0 : Option Addr) (c0 : Nat) (l0 : List (List Int)) (g1_0 : Nat) (g1_1 : Nat) (g1_2 : Nat) (A1_0 : Option Addr) (c1_0 : Nat) (l1_0 : List Int) (A1_1 : Option Addr) (c1_1 : Nat) (l1_1 : List (List Int)) (a1_2 : Int) (r : Int) (w : World) (hr0 : Kd.C (Kd.slice 3 (Kd.int .i64)) w A0 l0.length l0) (hc0 : l0.length ≤ c0) (hb1_0 : w.heap[g1_0]? = some (.cells #[.func (.func 66) #[(.agg #[.slice A1_0 l1_0.length c1_0])] #[]] 58 (0, 0))) (hb1_1 : w.heap[g1_1]? = some (.cells #[.slice A1_1 l1_1.length c1_1] 43 (0, 0))) (hb1_2 : w.heap[g1_2]? = some (.cells #[.int .i64 a1_2] 3 (0, 0))) (hr1_0 : Kd.C (Kd.int .i64) w A1_0 l1_0.length l1_0) (hc1_0 : l1_0.length ≤ c1_0) (hr1_1 : Kd.C (Kd.slice 3 (Kd.int .i64)) w A1_1 l1_1.length l1_1) (hc1_1 : l1_1.length ≤ c1_1) (hx0_1 : g1_0 ≠ g1_1) (hx0_2 : g1_0 ≠ g1_2) (hx1_2 : g1_1 ≠ g1_2) (h : slices_IndexFunc_int_int_at_impl_Poset_even_1_v2.f k l0 l1_0 l1_1 a1_2 = some r) :
    Calls Try.prog 109 #[.slice A0 l0.length c0, .func (.func 95) #[] #[.pointer (some ⟨g1_0, 0, none⟩), .pointer (some ⟨g1_1, 0, none⟩), .pointer (some ⟨g1_2, 0, none⟩)]] w fun e w' => e = .returned (.int .i64 r) ∧ Below w.heap.size w w' := by
  have HR0 := Aside0.mk hr0
  have HC0 := Aside0.mk hc0
  clear hr0 hc0
  have HR1_0 := Aside0.mk hr1_0
  have HC1_0 := Aside0.mk hc1_0
  clear hr1_0 hc1_0
  have HR1_1 := Aside0.mk hr1_1
  have HC1_1 := Aside0.mk hc1_1
  clear hr1_1 hc1_1
  have BK969 := Aside0.mk hb1_0
  clear hb1_0
  have BK970 := Aside0.mk hb1_1
  clear hb1_1
  have BK971 := Aside0.mk hb1_2
  clear hb1_2
  have NB969_970 := Aside0.mk hx0_1
  have NB970_969 := Aside0.mk hx0_1.symm
  clear hx0_1
  have NB969_971 := Aside0.mk hx0_2
  have NB971_969 := Aside0.mk hx0_2.symm
  clear hx0_2
  have NB970_971 := Aside0.mk hx1_2
  have NB971_970 := Aside0.mk hx1_2.symm
  clear hx1_2
  have HB := Aside0.mk (Below.refl w.heap.size w)
  have H : (slices_IndexFunc_int_int_at_impl_Poset_even_1_v2.l0 k l0 (l0.length : Int) 0 l1_0 l1_1 a1_2) = some r := h
  clear h
  have H' := Aside0.mk H
  clear H
  go_enter Try.func109, Try.ntmps109
  go_wp2
  go_loopg [8] k (fun kq v8 w' => ∃ (x8_1 : Int), v8 = .int .i64 x8_1 ∧ Aside0 (slices_IndexFunc_int_int_at_impl_Poset_even_1_v2.l0 kq l0 (l0.length : Int) x8_1 l1_0 l1_1 a1_2 = some r) ∧ Aside0 (kq ≤ k) ∧ Aside0 (w'.heap[g1_0]? = some (.cells #[.func (.func 66) #[(.agg #[(.slice A1_0 l1_0.length c1_0)])] #[]] 58 (0, 0))) ∧ Aside0 (w'.heap[g1_1]? = some (.cells #[(.slice A1_1 l1_1.length c1_1)] 43 (0, 0))) ∧ Aside0 (w'.heap[g1_2]? = some (.cells #[.int .i64 a1_2] 3 (0, 0))) ∧ Aside0 (Below w.heap.size w w'))
  case atStart => exact ⟨(0), (by first | rfl | (simp; done) | (simp [*]; done)), H', ⟨Nat.le_refl _⟩, ⟨by (with_reducible repeat (first | refine blk_drewN ?_ _ | refine blk_drew ?_ | refine blk_alloc ?_ _)); exact BK969.out⟩, ⟨by (with_reducible repeat (first | refine blk_drewN ?_ _ | refine blk_drew ?_ | refine blk_alloc ?_ _)); exact BK970.out⟩, ⟨by (with_reducible repeat (first | refine blk_drewN ?_ _ | refine blk_drew ?_ | refine blk_alloc ?_ _)); exact BK971.out⟩, ⟨by repeat (first | (with_reducible first | exact HB.out | apply below_alloc | apply pw_below_drewN | apply below_drew1 | refine below_set ?_ GE969.out | refine below_set ?_ GE970.out | refine below_set ?_ GE971.out) | exact HB.out)⟩⟩
  case round =>
    clear H'
    try clear c1
    try clear hx1
    try clear p2
    try clear hx0_1
    try clear hx0_2
    try clear hx1_2
    obtain ⟨x8_1, rfl, HA, HK1, BK969, BK970, BK971, HB⟩ := hrel
    cases gk with
    | zero => exact absurd HA.out (by simp [slices_IndexFunc_int_int_at_impl_Poset_even_1_v2.l0])
    | succ k1 =>
      have H := HA.out
      clear HA
      simp only [slices_IndexFunc_int_int_at_impl_Poset_even_1_v2.l0] at H
      by_cases c3 : x8_1 < (l0.length : Int)
      · rw [if_pos c3] at H
        have c3b0 : decide (x8_1 < (l0.length : Int)) = true := decide_eq_true c3
        clear c3
        by_cases c4 : 0 ≤ x8_1
        · rw [if_pos c4] at H
          have c4b0 : decide (0 ≤ x8_1) = true := decide_eq_true c4
          clear c4
          by_cases c5 : x8_1 < (l0.length : Int)
          · rw [if_pos c5] at H
            have c5b0 : decide (x8_1 < (l0.length : Int)) = true := decide_eq_true c5
            clear c5
            replace H := Option.bind_eq_some_iff.mp H
            obtain ⟨t973, A60, H⟩ := H
            replace H : (if t973 = true then (some x8_1) else (slices_IndexFunc_int_int_at_impl_Poset_even_1_v2.l0 k1 l0 (l0.length : Int) (wrap64 (x8_1 + 1)) l1_0 l1_1 a1_2)) = some r := H
            have A6 := Aside0.mk A60
            clear A60
            by_cases c7 : t973 = true
            · subst c7
              have H1 : (some x8_1) = some r := by rw [if_pos rfl] at H; exact H
              clear H
              have H := H1
              clear H1
              obtain rfl := Option.some.inj H
              have p972 : 0 ≤ (x8_1 : Int) := of_decide_eq_true (by first | (with_reducible assumption) | assumption)
              have q972 : x8_1 < (l0.length : Int) := of_decide_eq_true (by first | (with_reducible assumption) | assumption)
              obtain ⟨ad972, A972_0, c972_0, e972, hx972_0, hl972_0, hi972_0⟩ := at_L1 HR0.out x8_1 p972 q972
              cases e972
              replace hx972_0 := (HB.out.cell (World.block_lt_of_cell? w _ hx972_0)).trans hx972_0
              have HR972_0 := Aside0.mk hi972_0
              have HC972_0 := Aside0.mk hl972_0
              clear hi972_0 hl972_0
              replace p972 := eq_true p972
              replace q972 := eq_true q972
              go_wp2_with (first | (go_at_call 95; (with_reducible refine (impl_Poset_even_1_c_v2.calls k1 _ _ (rd_L1 l0 x8_1) g1_0 A1_0 c1_0 l1_0 g1_1 A1_1 c1_1 l1_1 g1_2 a1_2 true _ ?side1 ?side2 ?side3 ?side4 ?side5 ?side6 ?side7 ?side8 ?side9 ?side10 ?side11 ?side12 A6.out).mono ?_); (case side1 => repeat (first | exact (Kd.C_below HR972_0.out HB.out) | (with_reducible refine Kd.C_alloc ?_ _) | (with_reducible refine Kd.C_drewN ?_ _) | (with_reducible refine Kd.C_drew ?_))); (case side2 => exact HC972_0.out); (case side3 => (with_reducible repeat (first | refine blk_drewN ?_ _ | refine blk_drew ?_ | refine blk_alloc ?_ _)); exact BK969.out); (case side4 => repeat (first | exact (Kd.C_below HR1_0.out HB.out) | (with_reducible refine Kd.C_alloc ?_ _) | (with_reducible refine Kd.C_drewN ?_ _) | (with_reducible refine Kd.C_drew ?_))); (case side5 => exact HC1_0.out); (case side6 => (with_reducible repeat (first | refine blk_drewN ?_ _ | refine blk_drew ?_ | refine blk_alloc ?_ _)); exact BK970.out); (case side7 => repeat (first | exact (Kd.C_below HR1_1.out HB.out) | (with_reducible refine Kd.C_alloc ?_ _) | (with_reducible refine Kd.C_drewN ?_ _) | (with_reducible refine Kd.C_drew ?_))); (case side8 => exact HC1_1.out); (case side9 => (with_reducible repeat (first | refine blk_drewN ?_ _ | refine blk_drew ?_ | refine blk_alloc ?_ _)); exact BK971.out); (case side10 => exact NB969_970.out); (case side11 => exact NB969_971.out); (case side12 => exact NB970_971.out); rintro e w8 ⟨rfl, hb⟩; have n0_ := Aside0.mk (blk_below (g := g1_0) (o := .cells #[.func (.func 66) #[(.agg #[.slice A1_0 l1_0.length c1_0])] #[]] 58 (0, 0)) (by (with_reducible repeat (first | refine blk_drewN ?_ _ | refine blk_drew ?_ | refine blk_alloc ?_ _)); exact BK969.out) hb); have n1_ := Aside0.mk (blk_below (g := g1_1) (o := .cells #[.slice A1_1 l1_1.length c1_1] 43 (0, 0)) (by (with_reducible repeat (first | refine blk_drewN ?_ _ | refine blk_drew ?_ | refine blk_alloc ?_ _)); exact BK970.out) hb); have n2_ := Aside0.mk (blk_below (g := g1_2) (o := .cells #[.int .i64 a1_2] 3 (0, 0)) (by (with_reducible repeat (first | refine blk_drewN ?_ _ | refine blk_drew ?_ | refine blk_alloc ?_ _)); exact BK971.out) hb); have n3_ := Aside0.mk (below_step (by repeat (first | (with_reducible first | exact HB.out | apply below_alloc | apply pw_below_drewN | apply below_drew1 | refine below_set ?_ GE969.out | refine below_set ?_ GE970.out | refine below_set ?_ GE971.out) | exact HB.out)) hb); clear BK969; clear BK970; clear BK971; clear HB; have BK969 := n0_; have BK970 := n1_; have BK971 := n2_; have HB := n3_; clear n0_ n1_ n2_ n3_; (try clear hb); (try clear hb2); (try clear hk); (try clear hi)))
              go_ret
              exact ⟨by first | rfl | (simp [errW_none, errW_some] <;> rfl) | (simp [*, errW_none, errW_some] <;> rfl), by repeat (first | (with_reducible first | exact HB.out | apply below_alloc | apply pw_below_drewN | apply below_drew1 | refine below_set ?_ GE969.out | refine below_set ?_ GE970.out | refine below_set ?_ GE971.out) | exact HB.out)⟩
            · replace c7 := Bool.eq_false_iff.mpr c7
              subst c7
              have H1 : (slices_IndexFunc_int_int_at_impl_Poset_even_1_v2.l0 k1 l0 (l0.length : Int) (wrap64 (x8_1 + 1)) l1_0 l1_1 a1_2) = some r := by rw [if_neg (show ¬ (false = true) by decide)] at H; exact H
              clear H
              have H := H1
              clear H1
              have H' := Aside0.mk H
              clear H
              have p972 : 0 ≤ (x8_1 : Int) := of_decide_eq_true (by first | (with_reducible assumption) | assumption)
              have q972 : x8_1 < (l0.length : Int) := of_decide_eq_true (by first | (with_reducible assumption) | assumption)
              obtain ⟨ad972, A972_0, c972_0, e972, hx972_0, hl972_0, hi972_0⟩ := at_L1 HR0.out x8_1 p972 q972
              cases e972
              replace hx972_0 := (HB.out.cell (World.block_lt_of_cell? w _ hx972_0)).trans hx972_0
              have HR972_0 := Aside0.mk hi972_0
              have HC972_0 := Aside0.mk hl972_0
              clear hi972_0 hl972_0
              replace p972 := eq_true p972
              replace q972 := eq_true q972
              go_wp2_with (first | (go_at_call 95; (with_reducible refine (impl_Poset_even_1_c_v2.calls k1 _ _ (rd_L1 l0 x8_1) g1_0 A1_0 c1_0 l1_0 g1_1 A1_1 c1_1 l1_1 g1_2 a1_2 false _ ?side1 ?side2 ?side3 ?side4 ?side5 ?side6 ?side7 ?side8 ?side9 ?side10 ?side11 ?side12 A6.out).mono ?_); (case side1 => repeat (first | exact (Kd.C_below HR972_0.out HB.out) | (with_reducible refine Kd.C_alloc ?_ _) | (with_reducible refine Kd.C_drewN ?_ _) | (with_reducible refine Kd.C_drew ?_))); (case side2 => exact HC972_0.out); (case side3 => (with_reducible repeat (first | refine blk_drewN ?_ _ | refine blk_drew ?_ | refine blk_alloc ?_ _)); exact BK969.out); (case side4 => repeat (first | exact (Kd.C_below HR1_0.out HB.out) | (with_reducible refine Kd.C_alloc ?_ _) | (with_reducible refine Kd.C_drewN ?_ _) | (with_reducible refine Kd.C_drew ?_))); (case side5 => exact HC1_0.out); (case side6 => (with_reducible repeat (first | refine blk_drewN ?_ _ | refine blk_drew ?_ | refine blk_alloc ?_ _)); exact BK970.out); (case side7 => repeat (first | exact (Kd.C_below HR1_1.out HB.out) | (with_reducible refine Kd.C_alloc ?_ _) | (with_reducible refine Kd.C_drewN ?_ _) | (with_reducible refine Kd.C_drew ?_))); (case side8 => exact HC1_1.out); (case side9 => (with_reducible repeat (first | refine blk_drewN ?_ _ | refine blk_drew ?_ | refine blk_alloc ?_ _)); exact BK971.out); (case side10 => exact NB969_970.out); (case side11 => exact NB969_971.out); (case side12 => exact NB970_971.out); rintro e w9 ⟨rfl, hb⟩; have n0_ := Aside0.mk (blk_below (g := g1_0) (o := .cells #[.func (.func 66) #[(.agg #[.slice A1_0 l1_0.length c1_0])] #[]] 58 (0, 0)) (by (with_reducible repeat (first | refine blk_drewN ?_ _ | refine blk_drew ?_ | refine blk_alloc ?_ _)); exact BK969.out) hb); have n1_ := Aside0.mk (blk_below (g := g1_1) (o := .cells #[.slice A1_1 l1_1.length c1_1] 43 (0, 0)) (by (with_reducible repeat (first | refine blk_drewN ?_ _ | refine blk_drew ?_ | refine blk_alloc ?_ _)); exact BK970.out) hb); have n2_ := Aside0.mk (blk_below (g := g1_2) (o := .cells #[.int .i64 a1_2] 3 (0, 0)) (by (with_reducible repeat (first | refine blk_drewN ?_ _ | refine blk_drew ?_ | refine blk_alloc ?_ _)); exact BK971.out) hb); have n3_ := Aside0.mk (below_step (by repeat (first | (with_reducible first | exact HB.out | apply below_alloc | apply pw_below_drewN | apply below_drew1 | refine below_set ?_ GE969.out | refine below_set ?_ GE970.out | refine below_set ?_ GE971.out) | exact HB.out)) hb); clear BK969; clear BK970; clear BK971; clear HB; have BK969 := n0_; have BK970 := n1_; have BK971 := n2_; have HB := n3_; clear n0_ n1_ n2_ n3_; (try clear hb); (try clear hb2); (try clear hk); (try clear hi)))
              go_roundg k1
              case measure => have := HK1.out; omega
              case rel => exact ⟨(wrap64 (x8_1 + 1)), (by first | rfl | (simp; done) | (simp [*]; done)), H', ⟨by have := HK1.out; omega⟩, ⟨by (with_reducible repeat (first | refine blk_drewN ?_ _ | refine blk_drew ?_ | refine blk_alloc ?_ _)); exact BK969.out⟩, ⟨by (with_reducible repeat (first | refine blk_drewN ?_ _ | refine blk_drew ?_ | refine blk_alloc ?_ _)); exact BK970.out⟩, ⟨by (with_reducible repeat (first | refine blk_drewN ?_ _ | refine blk_drew ?_ | refine blk_alloc ?_ _)); exact BK971.out⟩, ⟨by repeat (first | (with_reducible first | exact HB.out | apply below_alloc | apply pw_below_drewN | apply below_drew1 | refine below_set ?_ GE969.out | refine below_set ?_ GE970.out | refine below_set ?_ GE971.out) | exact HB.out)⟩⟩
          · rw [if_neg c5] at H
            exact absurd H (by simp)
        · rw [if_neg c4] at H
          exact absurd H (by simp)
      · rw [if_neg c3] at H
        have c3b0 : decide (x8_1 < (l0.length : Int)) = false := decide_eq_false c3
        clear c3
        obtain rfl := Option.some.inj H
        go_wp2
        go_ret
        exact ⟨by first | rfl | (simp [errW_none, errW_some] <;> rfl) | (simp [*, errW_none, errW_some] <;> rfl), by repeat (first | (with_reducible first | exact HB.out | apply below_alloc | apply pw_below_drewN | apply below_drew1 | refine below_set ?_ GE969.out | refine below_set ?_ GE970.out | refine below_set ?_ GE971.out) | exact HB.out)⟩

/-! ### slices_ContainsFunc_int_int_at_impl_Poset_even_1_v2: function 94 -/
def slices_ContainsFunc_int_int_at_impl_Poset_even_1_v2.f (k : Nat) (l0 : List (List Int)) (l1_0 : List Int) (l1_1 : List (List Int)) (a1_2 : Int) : Option (Bool) := (slices_IndexFunc_int_int_at_impl_Poset_even_1_v2.f k l0 l1_0 l1_1 a1_2).bind fun t977 => (some (decide (t977 ≥ 0)))
theorem slices_ContainsFunc_int_int_at_impl_Poset_even_1_v2.mono : ∀ a0 a1 a2 a3 k, LeO (slices_ContainsFunc_int_int_at_impl_Poset_even_1_v2.f k a0 a1 a2 a3) (slices_ContainsFunc_int_int_at_impl_Poset_even_1_v2.f (k + 1) a0 a1 a2 a3) := by
  intro a0 a1 a2 a3 k
  unfold slices_ContainsFunc_int_int_at_impl_Poset_even_1_v2.f
  repeat' first
      | (with_reducible exact slices_IndexFunc_int_int_at_impl_Poset_even_1_v2.mono _ _ _ _ _)
      | (with_reducible exact LeO.refl _)
      | (with_reducible exact LeO.none _)
      | (with_reducible refine LeO.ite ?_ ?_)
      | (with_reducible refine LeO.bind ?_ (fun _ => ?_))
      | exact slices_IndexFunc_int_int_at_impl_Poset_even_1_v2.mono _ _ _ _ _
      | exact LeO.none _
      | refine LeO.ite ?_ ?_
      | refine LeO.bind ?_ (fun _ => ?_)
set_option maxHeartbeats 8000000 in
set_option maxRecDepth 100000 in
theorem slices_ContainsFunc_int_int_at_impl_Poset_even_1_v2.calls (k : Nat) (A0 : Option Addr) (c0 : Nat) (l0 : List (List Int)) (g1_0 : Nat) (g1_1 : Nat) (g1_2 : Nat) (A1_0 : Option Addr) (c1_0 : Nat) (l1_0 : List Int) (A1_1 : Option Addr) (c1_1 : Nat) (l1_1 : List (List Int)) (a1_2 : Int) (r : Bool) (w : World) (hr0 : Kd.C (Kd.slice 3 (Kd.int .i64)) w A0 l0.length l0) (hc0 : l0.length ≤ c0) (hb1_0 : w.heap[g1_0]? = some (.cells #[.func (.func 66) #[(.agg #[.slice A1_0 l1_0.length c1_0])] #[]] 58 (0, 0))) (hb1_1 : w.heap[g1_1]? = some (.cells #[.slice A1_1 l1_1.length c1_1] 43 (0, 0))) (hb1_2 : w.heap[g1_2]? = some (.cells #[.int .i64 a1_2] 3 (0, 0))) (hr1_0 : Kd.C (Kd.int .i64) w A1_0 l1_0.length l1_0) (hc1_0 : l1_0.length ≤ c1_0) (hr1_1 : Kd.C (Kd.slice 3 (Kd.int .i64)) w A1_1 l1_1.length l1_1) (hc1_1 : l1_1.length ≤ c1_1) (hx0_1 : g1_0 ≠ g1_1) (hx0_2 : g1_0 ≠ g1_2) (hx1_2 : g1_1 ≠ g1_2) (h : slices_ContainsFunc_int_int_at_impl_Poset_even_1_v2.f k l0 l1_0 l1_1 a1_2 = some r) :
    Calls Try.prog 94 #[.slice A0 l0.length c0, .func (.func 95) #[] #[.pointer (some ⟨g1_0, 0, none⟩), .pointer (some ⟨g1_1, 0, none⟩), .pointer (some ⟨g1_2, 0, none⟩)]] w fun e w' => e = .returned (.bool r) ∧ Below w.heap.size w w' := by
  have HR0 := Aside0.mk hr0
  have HC0 := Aside0.mk hc0
  clear hr0 hc0
  have HR1_0 := Aside0.mk hr1_0
  have HC1_0 := Aside0.mk hc1_0
  clear hr1_0 hc1_0
  have HR1_1 := Aside0.mk hr1_1
  have HC1_1 := Aside0.mk hc1_1
  clear hr1_1 hc1_1
  have BK974 := Aside0.mk hb1_0
  clear hb1_0
  have BK975 := Aside0.mk hb1_1
  clear hb1_1
  have BK976 := Aside0.mk hb1_2
  clear hb1_2
  have NB974_975 := Aside0.mk hx0_1
  have NB975_974 := Aside0.mk hx0_1.symm
  clear hx0_1
  have NB974_976 := Aside0.mk hx0_2
  have NB976_974 := Aside0.mk hx0_2.symm
  clear hx0_2
  have NB975_976 := Aside0.mk hx1_2
  have NB976_975 := Aside0.mk hx1_2.symm
  clear hx1_2
  have HB := Aside0.mk (Below.refl w.heap.size w)
  have H : ((slices_IndexFunc_int_int_at_impl_Poset_even_1_v2.f k l0 l1_0 l1_1 a1_2).bind fun t977 => (some (decide (t977 ≥ 0)))) = some r := h
  clear h
  replace H := Option.bind_eq_some_iff.mp H
  obtain ⟨t977, A30, H⟩ := H
  replace H : (some (decide (t977 ≥ 0))) = some r := H
  have A3 := Aside0.mk A30
  clear A30
  obtain rfl := Option.some.inj H
  go_enter Try.func94, Try.ntmps94
  go_wp2_with (first | ((with_reducible refine gate_callee (f := 109) rfl ?_); refine goesL_ (some 7) rfl rfl Try.func109 (by kernel_rfl) rfl #[.slice A0 l0.length c0, .func (.func 95) #[] #[.pointer (some ⟨g1_0, 0, none⟩), .pointer (some ⟨g1_1, 0, none⟩), .pointer (some ⟨g1_2, 0, none⟩)]] rfl (by (try simp only [List.map_toArray, List.map_cons, List.map_nil]); first | done | rfl | (simp only [List.length_drop, List.length_take]; rfl)) ?_; (with_reducible refine (slices_IndexFunc_int_int_at_impl_Poset_even_1_v2.calls k _ _ l0 g1_0 g1_1 g1_2 A1_0 c1_0 l1_0 A1_1 c1_1 l1_1 a1_2 t977 _ ?side1 ?side2 ?side3 ?side4 ?side5 ?side6 ?side7 ?side8 ?side9 ?side10 ?side11 ?side12 A3.out).mono ?_); (case side1 => repeat (first | exact HR0.out | (with_reducible refine Kd.C_alloc ?_ _) | (with_reducible refine Kd.C_drewN ?_ _) | (with_reducible refine Kd.C_drew ?_))); (case side2 => exact HC0.out); (case side3 => (with_reducible repeat (first | refine blk_drewN ?_ _ | refine blk_drew ?_ | refine blk_alloc ?_ _)); exact BK974.out); (case side4 => (with_reducible repeat (first | refine blk_drewN ?_ _ | refine blk_drew ?_ | refine blk_alloc ?_ _)); exact BK975.out); (case side5 => (with_reducible repeat (first | refine blk_drewN ?_ _ | refine blk_drew ?_ | refine blk_alloc ?_ _)); exact BK976.out); (case side6 => repeat (first | exact HR1_0.out | (with_reducible refine Kd.C_alloc ?_ _) | (with_reducible refine Kd.C_drewN ?_ _) | (with_reducible refine Kd.C_drew ?_))); (case side7 => exact HC1_0.out); (case side8 => repeat (first | exact HR1_1.out | (with_reducible refine Kd.C_alloc ?_ _) | (with_reducible refine Kd.C_drewN ?_ _) | (with_reducible refine Kd.C_drew ?_))); (case side9 => exact HC1_1.out); (case side10 => exact NB974_975.out); (case side11 => exact NB974_976.out); (case side12 => exact NB975_976.out); rintro e w4 ⟨rfl, hb⟩; refine ⟨_, rfl, ?_⟩; have n0_ := Aside0.mk (blk_below (g := g1_0) (o := .cells #[.func (.func 66) #[(.agg #[.slice A1_0 l1_0.length c1_0])] #[]] 58 (0, 0)) (by (with_reducible repeat (first | refine blk_drewN ?_ _ | refine blk_drew ?_ | refine blk_alloc ?_ _)); exact BK974.out) hb); have n1_ := Aside0.mk (blk_below (g := g1_1) (o := .cells #[.slice A1_1 l1_1.length c1_1] 43 (0, 0)) (by (with_reducible repeat (first | refine blk_drewN ?_ _ | refine blk_drew ?_ | refine blk_alloc ?_ _)); exact BK975.out) hb); have n2_ := Aside0.mk (blk_below (g := g1_2) (o := .cells #[.int .i64 a1_2] 3 (0, 0)) (by (with_reducible repeat (first | refine blk_drewN ?_ _ | refine blk_drew ?_ | refine blk_alloc ?_ _)); exact BK976.out) hb); have n3_ := Aside0.mk (below_step (by repeat (first | (with_reducible first | exact HB.out | apply below_alloc | apply pw_below_drewN | apply below_drew1 | refine below_set ?_ GE974.out | refine below_set ?_ GE975.out | refine below_set ?_ GE976.out) | exact HB.out)) hb); clear BK974; clear BK975; clear BK976; clear HB; have BK974 := n0_; have BK975 := n1_; have BK976 := n2_; have HB := n3_; clear n0_ n1_ n2_ n3_; (try clear hb); (try clear hb2); (try clear hk); (try clear hi)))
  go_ret
  exact ⟨by first | rfl | (simp [errW_none, errW_some] <;> rfl) | (simp [*, errW_none, errW_some] <;> rfl), by repeat (first | (with_reducible first | exact HB.out | apply below_alloc | apply pw_below_drewN | apply below_drew1 | refine below_set ?_ GE974.out | refine below_set ?_ GE975.out | refine below_set ?_ GE976.out) | exact HB.out)⟩

end Go.Proofs.Ytkdddlkhildliaa.B
