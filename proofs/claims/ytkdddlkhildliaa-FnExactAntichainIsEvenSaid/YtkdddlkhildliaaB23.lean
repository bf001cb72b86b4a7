-- Laid by our mk.py through the kit's print.py, out of the translation. Not trusted: Lean checks it.
import Derived.Test.YtkdddlkhildliaaB0
import Derived.Test.YtkdddlkhildliaaB2
import Derived.Test.YtkdddlkhildliaaB7
import Derived.Test.YtkdddlkhildliaaB22
namespace Go.Proofs.Ytkdddlkhildliaa.B
open Go.RowKit Go.Proofs.YtkdddlkhildliaaW.PrintWords Go.Proofs.YtkdddlkhildliaaW.PrintLast Go.Proofs.YtkdddlkhildliaaW.PrintMore
attribute [local go_sem] max2_int min2_int max_two min_two max_three min_three max_four min_four   -- for this text's walks alone
set_option linter.unusedVariables false
set_option linter.unusedSimpArgs false

/-! ### impl_Poset_even_at_impl_Poset_topSize: function 64 -/
def impl_Poset_even_at_impl_Poset_topSize.f (k : Nat) (l0_0 : List Int) (l1_0 : List Int) : Option (Bool) := (impl_Poset_orbits.f k l0_0).bind fun t980 => (if 0 < (t980.length : Int) then ((impl_sum_at_impl_Poset_topSize.f k (rd_L1 t980 0) l1_0).bind fun t985 => ((slices_ContainsFunc_int_int_at_impl_Poset_even_1_v2.f k t980 l1_0 t980 t985).bind fun t987 => (some (!t987)))) else (none))
theorem impl_Poset_even_at_impl_Poset_topSize.mono : ∀ a0 a1 k, LeO (impl_Poset_even_at_impl_Poset_topSize.f k a0 a1) (impl_Poset_even_at_impl_Poset_topSize.f (k + 1) a0 a1) := by
  intro a0 a1 k
  unfold impl_Poset_even_at_impl_Poset_topSize.f
  repeat' first
      | (with_reducible exact impl_Poset_orbits.mono _ _)
      | (with_reducible exact impl_sum_at_impl_Poset_topSize.mono _ _ _)
      | (with_reducible exact slices_ContainsFunc_int_int_at_impl_Poset_even_1_v2.mono _ _ _ _ _)
      | (with_reducible exact LeO.refl _)
      | (with_reducible exact LeO.none _)
      | (with_reducible refine LeO.ite ?_ ?_)
      | (with_reducible refine LeO.bind ?_ (fun _ => ?_))
      | exact impl_Poset_orbits.mono _ _
      | exact impl_sum_at_impl_Poset_topSize.mono _ _ _
      | exact slices_ContainsFunc_int_int_at_impl_Poset_even_1_v2.mono _ _ _ _ _
      | exact LeO.none _
      | refine LeO.ite ?_ ?_
      | refine LeO.bind ?_ (fun _ => ?_)
set_option maxHeartbeats 8000000 in
set_option maxRecDepth 100000 in
theorem impl_Poset_even_at_impl_Poset_topSize.calls (k : Nat) (A0_0 : Option Addr) (c0_0 : Nat) (l0_0 : List Int) (A1_0 : Option Addr) (c1_0 : Nat) (l1_0 : List Int) (r : Bool) (w : World) (hr0_0 : Kd.C (Kd.int .i64) w A0_0 l0_0.length l0_0) (hc0_0 : l0_0.length ≤ c0_0) (hr1_0 : Kd.C (Kd.int .i64) w A1_0 l1_0.length l1_0) (hc1_0 : l1_0.length ≤ c1_0) (h : impl_Poset_even_at_impl_Poset_topSize.f k l0_0 l1_0 = some r) :
    Calls Try.prog 64 #[.agg #[.slice A0_0 l0_0.length c0_0], .func (.func 66) #[(.agg #[.slice A1_0 l1_0.length c1_0])] #[]] w fun e w' => e = .returned (.bool r) ∧ Below w.heap.size w w' := by
  have hu34 := Try.underlying34
  have hmf_ : ∀ (f_ : Fn) (fi_ ca_ : Array Value) (W : World), (Instr.makeFunc f_ fi_ ca_).run Try.prog W = .ok (.func f_ fi_ ca_) W := fun _ _ _ _ => rfl
  have HR0_0 := Aside0.mk hr0_0
  have HC0_0 := Aside0.mk hc0_0
  clear hr0_0 hc0_0
  have HR1_0 := Aside0.mk hr1_0
  have HC1_0 := Aside0.mk hc1_0
  clear hr1_0 hc1_0
  have HB := Aside0.mk (Below.refl w.heap.size w)
  have H : ((impl_Poset_orbits.f k l0_0).bind fun t980 => (if 0 < (t980.length : Int) then ((impl_sum_at_impl_Poset_topSize.f k (rd_L1 t980 0) l1_0).bind fun t985 => ((slices_ContainsFunc_int_int_at_impl_Poset_even_1_v2.f k t980 l1_0 t980 t985).bind fun t987 => (some (!t987)))) else (none))) = some r := h
  clear h
  replace H := Option.bind_eq_some_iff.mp H
  obtain ⟨t980, A30, H⟩ := H
  replace H : (if 0 < (t980.length : Int) then ((impl_sum_at_impl_Poset_topSize.f k (rd_L1 t980 0) l1_0).bind fun t985 => ((slices_ContainsFunc_int_int_at_impl_Poset_even_1_v2.f k t980 l1_0 t980 t985).bind fun t987 => (some (!t987)))) else (none)) = some r := H
  have A3 := Aside0.mk A30
  clear A30
  by_cases c4 : 0 < (t980.length : Int)
  · rw [if_pos c4] at H
    have c4b0 : decide (0 < (t980.length : Int)) = true := decide_eq_true c4
    have c4b1 : decide (0 < t980.length) = true := decide_eq_true (by omega)
    clear c4
    replace H := Option.bind_eq_some_iff.mp H
    obtain ⟨t985, A50, H⟩ := H
    replace H : ((slices_ContainsFunc_int_int_at_impl_Poset_even_1_v2.f k t980 l1_0 t980 t985).bind fun t987 => (some (!t987))) = some r := H
    have A5 := Aside0.mk A50
    clear A50
    replace H := Option.bind_eq_some_iff.mp H
    obtain ⟨t987, A60, H⟩ := H
    replace H : (some (!t987)) = some r := H
    have A6 := Aside0.mk A60
    clear A60
    obtain rfl := Option.some.inj H
    go_enter Try.func64, Try.ntmps64
    try go_wp2_with (first | ((with_reducible refine gate_dst (N := 2) rfl ?_); refine box_event ?hg (N := 2) ?hd (cs := #[.slice A0_0 l0_0.length c0_0]) (t := 34) ?hr ?_; (case hd => rfl); (case hg => rfl); (case hr => first | (go_simp; done) | (go_simp; rfl)); intro gb978 hg w7 hbox hb; have n0_ := Aside0.mk (below_step (by repeat (first | (with_reducible first | exact HB.out | apply below_alloc | apply pw_below_drewN | apply below_drew1) | exact HB.out)) hb); have n1_ := Aside0.mk (hbox); have n2_ := Aside0.mk ((by rw [hg]; exact (below_size (by repeat (first | (with_reducible first | exact HB.out | apply below_alloc | apply pw_below_drewN | apply below_drew1) | exact HB.out))) : w.heap.size ≤ gb978)); have n3_ := Aside0.mk ((by rw [hg]; exact (below_size (by repeat (first | (with_reducible first | exact HB.out | apply below_alloc | apply pw_below_drewN | apply below_drew1) | exact HB.out))) : w.heap.size ≤ gb978)); clear HB; have HB := n0_; have BK978 := n1_; have GW978 := n2_; have GE978 := n3_; clear n0_ n1_ n2_ n3_; clear hb hbox hg) | ((with_reducible refine gate_dst (N := 3) rfl ?_); refine box_event ?hg (N := 3) ?hd (cs := #[.func (.func 66) #[(.agg #[.slice A1_0 l1_0.length c1_0])] #[]]) (t := 58) ?hr ?_; (case hd => rfl); (case hg => rfl); (case hr => first | (go_simp; done) | (go_simp; rfl)); intro gb979 hg w8 hbox hb; have n0_ := Aside0.mk (blk_below (g := gb978) (o := .cells #[.slice A0_0 l0_0.length c0_0] 34 (0, 0)) (by (with_reducible repeat (first | refine blk_drewN ?_ _ | refine blk_drew ?_ | refine blk_alloc ?_ _)); exact BK978.out) hb); have n1_ := Aside0.mk (below_step (by repeat (first | (with_reducible first | exact HB.out | apply below_alloc | apply pw_below_drewN | apply below_drew1 | refine below_set ?_ GE978.out) | exact HB.out)) hb); have n2_ := Aside0.mk (hbox); have n3_ := Aside0.mk ((by rw [hg]; exact (below_size (by repeat (first | (with_reducible first | exact HB.out | apply below_alloc | apply pw_below_drewN | apply below_drew1 | refine below_set ?_ GE978.out) | exact HB.out))) : w.heap.size ≤ gb979)); have n4_ := Aside0.mk ((by rw [hg]; exact (below_size (by repeat (first | (with_reducible first | exact HB.out | apply below_alloc | apply pw_below_drewN | apply below_drew1 | refine below_set ?_ GE978.out) | exact HB.out))) : w.heap.size ≤ gb979)); have n5_ := Aside0.mk ((by rw [hg]; exact Nat.ne_of_lt (blk_lt (g := gb978) (o := .cells #[.slice A0_0 l0_0.length c0_0] 34 (0, 0)) (by (with_reducible repeat (first | refine blk_drewN ?_ _ | refine blk_drew ?_ | refine blk_alloc ?_ _)); exact BK978.out)) : gb978 ≠ gb979)); have n6_ := Aside0.mk ((by rw [hg]; exact Nat.ne_of_gt (blk_lt (g := gb978) (o := .cells #[.slice A0_0 l0_0.length c0_0] 34 (0, 0)) (by (with_reducible repeat (first | refine blk_drewN ?_ _ | refine blk_drew ?_ | refine blk_alloc ?_ _)); exact BK978.out)) : gb979 ≠ gb978)); clear BK978; clear HB; have BK978 := n0_; have HB := n1_; have BK979 := n2_; have GW979 := n3_; have GE979 := n4_; have NB978_979 := n5_; have NB979_978 := n6_; clear n0_ n1_ n2_ n3_ n4_ n5_ n6_; clear hb hbox hg; have hnb9 := NB978_979.out; have hnc9 := NB979_978.out; have hcz10_0 : w8.cell? ⟨gb978, 0, none⟩ = some (.slice A0_0 l0_0.length c0_0) := (blk_cell BK978.out 0).trans rfl; have hfz10_0 := blk_frozen BK978.out 0) | ((with_reducible refine gate_callee (f := 61) rfl ?_); refine goesL_ (some 8) rfl rfl Try.func61 (by kernel_rfl) rfl #[.agg #[.slice A0_0 l0_0.length c0_0]] rfl (by (try simp only [List.map_toArray, List.map_cons, List.map_nil]); first | done | rfl | (simp only [List.length_drop, List.length_take]; rfl)) ?_; (with_reducible refine (impl_Poset_orbits.calls k _ _ l0_0 t980 _ ?side1 ?side2 A3.out).mono ?_); (case side1 => repeat (first | exact (Kd.C_below HR0_0.out HB.out) | (with_reducible refine Kd.C_alloc ?_ _) | (with_reducible refine Kd.C_drewN ?_ _) | (with_reducible refine Kd.C_drew ?_))); (case side2 => exact HC0_0.out); rintro e w11 ⟨v981, rfl, ho0, hb⟩; refine ⟨_, rfl, ?_⟩; have n0_ := Aside0.mk (Kd.S_lower ho0 (below_size (by repeat (first | (with_reducible first | exact HB.out | apply below_alloc | apply pw_below_drewN | apply below_drew1 | refine below_set ?_ GE978.out | refine below_set ?_ GE979.out) | exact HB.out)))); have n1_ := Aside0.mk (blk_below (g := gb978) (o := .cells #[.slice A0_0 l0_0.length c0_0] 34 (0, 0)) (by (with_reducible repeat (first | refine blk_drewN ?_ _ | refine blk_drew ?_ | refine blk_alloc ?_ _)); exact BK978.out) hb); have n2_ := Aside0.mk (blk_below (g := gb979) (o := .cells #[.func (.func 66) #[(.agg #[.slice A1_0 l1_0.length c1_0])] #[]] 58 (0, 0)) (by (with_reducible repeat (first | refine blk_drewN ?_ _ | refine blk_drew ?_ | refine blk_alloc ?_ _)); exact BK979.out) hb); have n3_ := Aside0.mk (below_step (by repeat (first | (with_reducible first | exact HB.out | apply below_alloc | apply pw_below_drewN | apply below_drew1 | refine below_set ?_ GE978.out | refine below_set ?_ GE979.out) | exact HB.out)) hb); clear BK978; clear BK979; clear HB; have HO982 := n0_; have BK978 := n1_; have BK979 := n2_; have HB := n3_; clear n0_ n1_ n2_ n3_; (try clear hb); (try clear hb2); (try clear hk); (try clear hi); (try clear ho0)) | ((with_reducible refine gate_dst (N := 5) rfl ?_); refine box_event ?hg (N := 5) ?hd (cs := #[.slice none 0 0]) (t := 43) ?hr ?_; (case hd => rfl); (case hg => rfl); (case hr => first | (go_simp; done) | (go_simp; rfl)); intro gb983 hg w12 hbox hb; have n0_ := Aside0.mk (Kd.S_below (by (with_reducible repeat (first | apply Kd.S_alloc | apply Kd.S_drewN | apply Kd.S_drew)); exact HO982.out) hb); have n1_ := Aside0.mk (blk_below (g := gb978) (o := .cells #[.slice A0_0 l0_0.length c0_0] 34 (0, 0)) (by (with_reducible repeat (first | refine blk_drewN ?_ _ | refine blk_drew ?_ | refine blk_alloc ?_ _)); exact BK978.out) hb); have n2_ := Aside0.mk (blk_below (g := gb979) (o := .cells #[.func (.func 66) #[(.agg #[.slice A1_0 l1_0.length c1_0])] #[]] 58 (0, 0)) (by (with_reducible repeat (first | refine blk_drewN ?_ _ | refine blk_drew ?_ | refine blk_alloc ?_ _)); exact BK979.out) hb); have n3_ := Aside0.mk (below_step (by repeat (first | (with_reducible first | exact HB.out | apply below_alloc | apply pw_below_drewN | apply below_drew1 | refine below_set ?_ GE978.out | refine below_set ?_ GE979.out) | exact HB.out)) hb); have n4_ := Aside0.mk (hbox); have n5_ := Aside0.mk ((by rw [hg]; exact (below_size (by repeat (first | (with_reducible first | exact HB.out | apply below_alloc | apply pw_below_drewN | apply below_drew1 | refine below_set ?_ GE978.out | refine below_set ?_ GE979.out) | exact HB.out))) : w.heap.size ≤ gb983)); have n6_ := Aside0.mk ((by rw [hg]; exact (below_size (by repeat (first | (with_reducible first | exact HB.out | apply below_alloc | apply pw_below_drewN | apply below_drew1 | refine below_set ?_ GE978.out | refine below_set ?_ GE979.out) | exact HB.out))) : w.heap.size ≤ gb983)); have n7_ := Aside0.mk ((by rw [hg]; exact Nat.ne_of_lt (blk_lt (g := gb978) (o := .cells #[.slice A0_0 l0_0.length c0_0] 34 (0, 0)) (by (with_reducible repeat (first | refine blk_drewN ?_ _ | refine blk_drew ?_ | refine blk_alloc ?_ _)); exact BK978.out)) : gb978 ≠ gb983)); have n8_ := Aside0.mk ((by rw [hg]; exact Nat.ne_of_gt (blk_lt (g := gb978) (o := .cells #[.slice A0_0 l0_0.length c0_0] 34 (0, 0)) (by (with_reducible repeat (first | refine blk_drewN ?_ _ | refine blk_drew ?_ | refine blk_alloc ?_ _)); exact BK978.out)) : gb983 ≠ gb978)); have n9_ := Aside0.mk ((by rw [hg]; exact Nat.ne_of_lt (blk_lt (g := gb979) (o := .cells #[.func (.func 66) #[(.agg #[.slice A1_0 l1_0.length c1_0])] #[]] 58 (0, 0)) (by (with_reducible repeat (first | refine blk_drewN ?_ _ | refine blk_drew ?_ | refine blk_alloc ?_ _)); exact BK979.out)) : gb979 ≠ gb983)); have n10_ := Aside0.mk ((by rw [hg]; exact Nat.ne_of_gt (blk_lt (g := gb979) (o := .cells #[.func (.func 66) #[(.agg #[.slice A1_0 l1_0.length c1_0])] #[]] 58 (0, 0)) (by (with_reducible repeat (first | refine blk_drewN ?_ _ | refine blk_drew ?_ | refine blk_alloc ?_ _)); exact BK979.out)) : gb983 ≠ gb979)); clear HO982; clear BK978; clear BK979; clear HB; have HO982 := n0_; have BK978 := n1_; have BK979 := n2_; have HB := n3_; have BK983 := n4_; have GW983 := n5_; have GE983 := n6_; have NB978_983 := n7_; have NB983_978 := n8_; have NB979_983 := n9_; have NB983_979 := n10_; clear n0_ n1_ n2_ n3_ n4_ n5_ n6_ n7_ n8_ n9_ n10_; clear hb hbox hg; obtain ⟨Ao13, co13, eo13⟩ := Kd.S_slice HO982.out; subst eo13; have hnb14 := NB983_978.out; have hnc14 := NB978_983.out; have hnb15 := NB983_979.out; have hnc15 := NB979_983.out; have hcz16_0 : w12.cell? ⟨gb983, 0, none⟩ = some (.slice none 0 0) := (blk_cell BK983.out 0).trans rfl; have hfz16_0 := blk_frozen BK983.out 0))
    have n0_ : Aside0 (Kd.S (Kd.slice 3 (Kd.int .i64)) 22 (w12.setCell ⟨gb983, 0, none⟩ (.slice Ao13 t980.length co13)) w.heap.size (fun _ => True) (.slice Ao13 t980.length co13) t980) := ⟨by (with_reducible repeat (first | apply Kd.S_alloc | apply Kd.S_drewN | apply Kd.S_drew)); exact Kd.S_mono (Kd.S_far (p := ⟨gb983, 0, none⟩) (Kd.S_types HO982.out BK983.out (by decide)) (fun _ hk => hk.2) (.slice Ao13 t980.length co13)) (fun _ hk => trivial)⟩
    have n1_ : Aside0 ((w12.setCell ⟨gb983, 0, none⟩ (.slice Ao13 t980.length co13)).heap[gb978]? = some (.cells #[.slice A0_0 l0_0.length c0_0] 34 (0, 0))) := ⟨by (with_reducible repeat (first | refine blk_drewN ?_ _ | refine blk_drew ?_ | refine blk_alloc ?_ _)); refine blk_far ?_ NB978_983.out _; (with_reducible repeat (first | refine blk_drewN ?_ _ | refine blk_drew ?_ | refine blk_alloc ?_ _)); exact BK978.out⟩
    have n2_ : Aside0 ((w12.setCell ⟨gb983, 0, none⟩ (.slice Ao13 t980.length co13)).heap[gb979]? = some (.cells #[.func (.func 66) #[(.agg #[.slice A1_0 l1_0.length c1_0])] #[]] 58 (0, 0))) := ⟨by (with_reducible repeat (first | refine blk_drewN ?_ _ | refine blk_drew ?_ | refine blk_alloc ?_ _)); refine blk_far ?_ NB979_983.out _; (with_reducible repeat (first | refine blk_drewN ?_ _ | refine blk_drew ?_ | refine blk_alloc ?_ _)); exact BK979.out⟩
    have n3_ : Aside0 ((w12.setCell ⟨gb983, 0, none⟩ (.slice Ao13 t980.length co13)).heap[gb983]? = some (.cells #[.slice Ao13 t980.length co13] 43 (0, 0))) := ⟨by (with_reducible repeat (first | refine blk_drewN ?_ _ | refine blk_drew ?_ | refine blk_alloc ?_ _)); refine blk_put (cs := #[.slice none 0 0]) ?_ 0 _ rfl; (with_reducible repeat (first | refine blk_drewN ?_ _ | refine blk_drew ?_ | refine blk_alloc ?_ _)); exact BK983.out⟩
    have n4_ : Aside0 (Below w.heap.size w (w12.setCell ⟨gb983, 0, none⟩ (.slice Ao13 t980.length co13))) := ⟨by repeat (first | (with_reducible first | exact HB.out | apply below_alloc | apply pw_below_drewN | apply below_drew1 | refine below_set ?_ GE978.out | refine below_set ?_ GE979.out | refine below_set ?_ GE983.out) | exact HB.out)⟩
    (try clear HO982)
    (try clear BK978)
    (try clear BK979)
    (try clear BK983)
    (try clear HB)
    generalize (w12.setCell ⟨gb983, 0, none⟩ (.slice Ao13 t980.length co13)) = w17 at n0_ n1_ n2_ n3_ n4_ ⊢
    have HO982 := n0_
    have BK978 := n1_
    have BK979 := n2_
    have BK983 := n3_
    have HB := n4_
    clear n0_ n1_ n2_ n3_ n4_
    have n0_ := Aside0.mk (Kd.S_drew HO982.out)
    have n1_ := Aside0.mk (blk_drew BK978.out)
    have n2_ := Aside0.mk (blk_drew BK979.out)
    have n3_ := Aside0.mk (blk_drew BK983.out)
    have n4_ := Aside0.mk (below_drew1 HB.out)
    clear HO982
    clear BK978
    clear BK979
    clear BK983
    clear HB
    have HO982 := n0_
    have BK978 := n1_
    have BK979 := n2_
    have BK983 := n3_
    have HB := n4_
    clear n0_ n1_ n2_ n3_ n4_
    have p984 : 0 ≤ (0 : Int) := (by omega)
    have q984 : 0 < (t980.length : Int) := of_decide_eq_true (by first | (with_reducible assumption) | assumption)
    obtain ⟨ad984, A984_0, c984_0, e984, hx984_0, hl984_0, hi984_0⟩ := at_L1 (Kd.S_reads' HO982.out).2.2 0 p984 q984
    cases e984
    obtain ⟨ce984, hce984, hMe984, hcc984⟩ := Kd.S_get HO982.out [] 0 p984 (by first | exact q984 | exact of_decide_eq_true (by first | (with_reducible assumption) | assumption) | (have e_ := (Kd.S_reads' HO982.out).1; omega))
    obtain ⟨ve984_0, rfl, ge984_0⟩ := hMe984
    have hv984_0 := hcc984 0 _ rfl
    rw [Nat.add_zero, show ((Kd.slice 3 (Kd.int .i64))).sz = 1 from rfl, Nat.mul_one] at hv984_0
    replace hv984_0 := Option.some.inj (hv984_0.symm.trans hx984_0)
    rw [hv984_0] at ge984_0
    have HL984_0 := Aside0.mk (show Kd.R (Kd.int .i64) 3 _ _ _ _ (rd_L1 t980 0) from ge984_0)
    clear hv984_0 ge984_0
    clear hcc984 hce984
    have qi984 : (0 < t980.length) = True := eq_true (by omega)
    (try rw [show ((0 : Int)).toNat = 0 from rfl] at hx984_0)
    (try rw [Addr.add_zero'] at hx984_0)
    have HR984_0 := Aside0.mk hi984_0
    have HC984_0 := Aside0.mk hl984_0
    clear hi984_0 hl984_0
    replace p984 := eq_true p984
    replace q984 := eq_true q984
    refine start_ (n := 7) (S := fun w' => w'.cell? ⟨gb983, 0, none⟩ = some (.slice (some ad984) t980.length co13) ∧ w'.cell? ⟨gb979, 0, none⟩ = some (.func (.func 66) #[(.agg #[.slice A1_0 l1_0.length c1_0])] #[]) ∧ w'.cell? ad984 = some (.slice A984_0 (rd_L1 t980 0).length c984_0)) (ds := []) #[false, false, false, false, false, false, false] (by kernel_rfl) rfl rfl ⟨(blk_cell BK983.out 0).trans rfl, (blk_cell BK979.out 0).trans rfl, hx984_0⟩ (fun hHeld => ?_)
    generalize w17.drew = w18 at HO982 BK978 BK979 BK983 HB HL984_0 HR984_0 hx984_0 hHeld ⊢
    refine take_ (i := 0) (N := some 9) (v := ?_) (a' := ?_) #[true, false, false, false, false, false, false] rfl rfl (by kernel_rfl) (fun _ _ _ h => h) (Or.inl ⟨by rfl, ?_⟩) hHeld ?_ ?_
    rotate_left
    · rintro w' ⟨s0, s1, s2⟩
      go_simp
      with_reducible rfl
    rotate_left
    · simp only [Act.put, List.setIfInBounds_toArray, List.set_cons_zero, List.set_cons_succ, i64_w, i32_w]
      rfl
    refine pure_ (i := 1) (N := some 10) (v := ?_) (a' := ?_) #[true, true, false, false, false, false, false] rfl rfl (by kernel_rfl) (fun _ _ _ h => h) (Or.inl ⟨by rfl, ?_⟩) ?_ ?_
    rotate_left
    · intro w'
      go_simp
      with_reducible rfl
    rotate_left
    · simp only [Act.put, List.setIfInBounds_toArray, List.set_cons_zero, List.set_cons_succ, i64_w, i32_w]
      rfl
    refine take_ (i := 2) (N := some 11) (v := ?_) (a' := ?_) #[true, true, true, false, false, false, false] rfl rfl (by kernel_rfl) (fun _ _ _ h => h) (Or.inl ⟨by rfl, ?_⟩) hHeld ?_ ?_
    rotate_left
    · rintro w' ⟨s0, s1, s2⟩
      go_simp
      with_reducible rfl
    rotate_left
    · simp only [Act.put, List.setIfInBounds_toArray, List.set_cons_zero, List.set_cons_succ, i64_w, i32_w]
      rfl
    refine take_ (i := 3) (N := some 12) (v := ?_) (a' := ?_) #[true, true, true, true, false, false, false] rfl rfl (by kernel_rfl) (fun _ _ _ h => h) (Or.inl ⟨by rfl, ?_⟩) hHeld ?_ ?_
    rotate_left
    · rintro w' ⟨s0, s1, s2⟩
      go_simp
      with_reducible rfl
    rotate_left
    · simp only [Act.put, List.setIfInBounds_toArray, List.set_cons_zero, List.set_cons_succ, i64_w, i32_w]
      rfl
    refine join_ (σ := Nat) 1 #[true, true, true, true, true, true, false] (fun s_ => [(13, .int .i64 t985), (6, .pointer (some ⟨s_, 0, none⟩))]) (fun s_ w' => (w'.cell? ⟨gb983, 0, none⟩ = some (.slice (some ad984) t980.length co13) ∧ w'.cell? ⟨gb979, 0, none⟩ = some (.func (.func 66) #[(.agg #[.slice A1_0 l1_0.length c1_0])] #[]) ∧ w'.cell? ad984 = some (.slice A984_0 (rd_L1 t980 0).length c984_0)) ∧ (Kd.R (Kd.int .i64) 3 w' w.heap.size (fun k_ => some k_ ≠ (.slice (some ad984) t980.length co13 : Value).ownBlock ∧ k_ ≠ s_) (.slice A984_0 (rd_L1 t980 0).length c984_0) (rd_L1 t980 0)) ∧ (Kd.S (Kd.slice 3 (Kd.int .i64)) 22 w' w.heap.size (fun k_ => k_ ≠ s_) (.slice (some ad984) t980.length co13) t980) ∧ (w'.heap[gb978]? = some (.cells #[.slice A0_0 l0_0.length c0_0] 34 (0, 0))) ∧ (w'.heap[gb979]? = some (.cells #[.func (.func 66) #[(.agg #[.slice A1_0 l1_0.length c1_0])] #[]] 58 (0, 0))) ∧ (w'.heap[gb983]? = some (.cells #[.slice (some ad984) t980.length co13] 43 (0, 0))) ∧ (w'.heap[s_]? = some (.cells #[.int .i64 0] 3 (0, 0))) ∧ (w.heap.size ≤ s_) ∧ (w.heap.size ≤ s_) ∧ (gb978 ≠ s_) ∧ (s_ ≠ gb978) ∧ (gb979 ≠ s_) ∧ (s_ ≠ gb979) ∧ (gb983 ≠ s_) ∧ (s_ ≠ gb983) ∧ (Below w.heap.size w w')) ?_ ?_
    rotate_left
    · intro hCont
      refine two_ (i := 4) (j := 5) (Ni := some 13) (Nj := some 6) #[true, true, true, true, true, false, false] #[true, true, true, true, false, true, false] rfl rfl rfl rfl (by kernel_rfl) (by decide) (by decide) (fun K hK => ?_) (fun K hK => ?_)
      · skip
        refine goes_ Try.func93 (by kernel_rfl) rfl #[.slice A984_0 (rd_L1 t980 0).length c984_0, .func (.func 66) #[(.agg #[.slice A1_0 l1_0.length c1_0])] #[]] (by rfl) rfl rfl (by (try simp only [List.map_toArray, List.map_cons, List.map_nil]); first | done | rfl | (simp only [List.length_drop, List.length_take]; rfl)) ?_
        with_reducible refine (impl_sum_at_impl_Poset_topSize.calls k _ _ (rd_L1 t980 0) A1_0 c1_0 l1_0 t985 _ ?side1 ?side2 ?side3 ?side4 A5.out).mono ?_
        (case side1 => repeat (first | exact (by repeat (first | (with_reducible exact HR984_0.out) | (with_reducible refine Kd.C_alloc ?_ _) | (with_reducible refine Kd.C_drewN ?_ _) | (with_reducible refine Kd.C_drew ?_) | exact HR984_0.out)) | (with_reducible refine Kd.C_alloc ?_ _) | (with_reducible refine Kd.C_drewN ?_ _) | (with_reducible refine Kd.C_drew ?_)))
        (case side2 => exact HC984_0.out)
        (case side3 => repeat (first | exact (Kd.C_below HR1_0.out HB.out) | (with_reducible refine Kd.C_alloc ?_ _) | (with_reducible refine Kd.C_drewN ?_ _) | (with_reducible refine Kd.C_drew ?_)))
        (case side4 => exact HC1_0.out)
        rintro e w19 ⟨rfl, hb⟩
        have HS2_ := (hb.cell (World.block_lt_of_cell? _ _ (hHeld.2.2))).trans (hHeld.2.2)
        refine ⟨_, rfl, ?_⟩
        have n0_ := Aside0.mk (Kd.S_below (by (with_reducible repeat (first | apply Kd.S_alloc | apply Kd.S_drewN | apply Kd.S_drew)); exact HO982.out) hb)
        have n1_ := Aside0.mk (Kd.R_below (by (with_reducible repeat (first | apply Kd.R_alloc | apply Kd.R_drewN | apply Kd.R_drew)); exact HL984_0.out) hb)
        have n2_ := Aside0.mk (blk_below (g := gb978) (o := .cells #[.slice A0_0 l0_0.length c0_0] 34 (0, 0)) (by (with_reducible repeat (first | refine blk_drewN ?_ _ | refine blk_drew ?_ | refine blk_alloc ?_ _)); exact BK978.out) hb)
        have n3_ := Aside0.mk (blk_below (g := gb979) (o := .cells #[.func (.func 66) #[(.agg #[.slice A1_0 l1_0.length c1_0])] #[]] 58 (0, 0)) (by (with_reducible repeat (first | refine blk_drewN ?_ _ | refine blk_drew ?_ | refine blk_alloc ?_ _)); exact BK979.out) hb)
        have n4_ := Aside0.mk (blk_below (g := gb983) (o := .cells #[.slice (some ad984) t980.length co13] 43 (0, 0)) (by (with_reducible repeat (first | refine blk_drewN ?_ _ | refine blk_drew ?_ | refine blk_alloc ?_ _)); exact BK983.out) hb)
        have n5_ := Aside0.mk (Kd.C_below (by repeat (first | (with_reducible exact HR984_0.out) | (with_reducible refine Kd.C_alloc ?_ _) | (with_reducible refine Kd.C_drewN ?_ _) | (with_reducible refine Kd.C_drew ?_) | exact HR984_0.out)) hb)
        have n6_ := Aside0.mk (below_step (by repeat (first | (with_reducible first | exact HB.out | apply below_alloc | apply pw_below_drewN | apply below_drew1 | refine below_set ?_ GE978.out | refine below_set ?_ GE979.out | refine below_set ?_ GE983.out) | exact HB.out)) hb)
        clear HO982
        clear HL984_0
        clear BK978
        clear BK979
        clear BK983
        clear HR984_0
        clear HB
        have HO982 := n0_
        have HL984_0 := n1_
        have BK978 := n2_
        have BK979 := n3_
        have BK983 := n4_
        have HR984_0 := n5_
        have HB := n6_
        clear n0_ n1_ n2_ n3_ n4_ n5_ n6_
        (try clear hb)
        (try clear hb2)
        (try clear hk)
        (try clear hi)
        refine hK.out _ _ ⟨(blk_cell BK983.out 0).trans rfl, (blk_cell BK979.out 0).trans rfl, HS2_⟩ (fun hHeld => ?_)
        clear hK K
        refine norm_ (a' := ?_) ?_ ?_
        rotate_left
        · show Act.put _ (some 13) _ = _
          simp only [Act.put, List.setIfInBounds_toArray, List.set_cons_zero, List.set_cons_succ, i64_w, i32_w]
          rfl
        refine one_ (i := 5) (N := some 6) #[true, true, true, true, true, true, false] rfl rfl (by kernel_rfl) (by decide) (fun K hK => ?_)
        refine box_step ?hg (N := 6) ?hd (cs := #[.int .i64 0]) (t := 3) ?hr ?_; (case hd => rfl); (case hg => rfl); (case hr => first | (go_simp; done) | (go_simp; rfl))
        intro gb986 hg w20 hbox hb
        have HS2_ := (hb.cell (World.block_lt_of_cell? _ _ (hHeld.2.2))).trans (hHeld.2.2)
        have n0_ := Aside0.mk (Kd.S_below (Kd.S_elderB (by (with_reducible repeat (first | apply Kd.S_alloc | apply Kd.S_drewN | apply Kd.S_drew)); exact HO982.out) gb986 (Nat.le_of_eq hg.symm)) hb)
        have n1_ := Aside0.mk (Kd.R_below (Kd.R_elderB (by (with_reducible repeat (first | apply Kd.R_alloc | apply Kd.R_drewN | apply Kd.R_drew)); exact HL984_0.out) gb986 (Nat.le_of_eq hg.symm)) hb)
        have n2_ := Aside0.mk (blk_below (g := gb978) (o := .cells #[.slice A0_0 l0_0.length c0_0] 34 (0, 0)) (by (with_reducible repeat (first | refine blk_drewN ?_ _ | refine blk_drew ?_ | refine blk_alloc ?_ _)); exact BK978.out) hb)
        have n3_ := Aside0.mk (blk_below (g := gb979) (o := .cells #[.func (.func 66) #[(.agg #[.slice A1_0 l1_0.length c1_0])] #[]] 58 (0, 0)) (by (with_reducible repeat (first | refine blk_drewN ?_ _ | refine blk_drew ?_ | refine blk_alloc ?_ _)); exact BK979.out) hb)
        have n4_ := Aside0.mk (blk_below (g := gb983) (o := .cells #[.slice (some ad984) t980.length co13] 43 (0, 0)) (by (with_reducible repeat (first | refine blk_drewN ?_ _ | refine blk_drew ?_ | refine blk_alloc ?_ _)); exact BK983.out) hb)
        have n5_ := Aside0.mk (Kd.C_below (by repeat (first | (with_reducible exact HR984_0.out) | (with_reducible refine Kd.C_alloc ?_ _) | (with_reducible refine Kd.C_drewN ?_ _) | (with_reducible refine Kd.C_drew ?_) | exact HR984_0.out)) hb)
        have n6_ := Aside0.mk (below_step (by repeat (first | (with_reducible first | exact HB.out | apply below_alloc | apply pw_below_drewN | apply below_drew1 | refine below_set ?_ GE978.out | refine below_set ?_ GE979.out | refine below_set ?_ GE983.out) | exact HB.out)) hb)
        have n7_ := Aside0.mk (hbox)
        have n8_ := Aside0.mk ((by rw [hg]; exact (below_size (by repeat (first | (with_reducible first | exact HB.out | apply below_alloc | apply pw_below_drewN | apply below_drew1 | refine below_set ?_ GE978.out | refine below_set ?_ GE979.out | refine below_set ?_ GE983.out) | exact HB.out))) : w.heap.size ≤ gb986))
        have n9_ := Aside0.mk ((by rw [hg]; exact (below_size (by repeat (first | (with_reducible first | exact HB.out | apply below_alloc | apply pw_below_drewN | apply below_drew1 | refine below_set ?_ GE978.out | refine below_set ?_ GE979.out | refine below_set ?_ GE983.out) | exact HB.out))) : w.heap.size ≤ gb986))
        have n10_ := Aside0.mk ((by rw [hg]; exact Nat.ne_of_lt (blk_lt (g := gb978) (o := .cells #[.slice A0_0 l0_0.length c0_0] 34 (0, 0)) (by (with_reducible repeat (first | refine blk_drewN ?_ _ | refine blk_drew ?_ | refine blk_alloc ?_ _)); exact BK978.out)) : gb978 ≠ gb986))
        have n11_ := Aside0.mk ((by rw [hg]; exact Nat.ne_of_gt (blk_lt (g := gb978) (o := .cells #[.slice A0_0 l0_0.length c0_0] 34 (0, 0)) (by (with_reducible repeat (first | refine blk_drewN ?_ _ | refine blk_drew ?_ | refine blk_alloc ?_ _)); exact BK978.out)) : gb986 ≠ gb978))
        have n12_ := Aside0.mk ((by rw [hg]; exact Nat.ne_of_lt (blk_lt (g := gb979) (o := .cells #[.func (.func 66) #[(.agg #[.slice A1_0 l1_0.length c1_0])] #[]] 58 (0, 0)) (by (with_reducible repeat (first | refine blk_drewN ?_ _ | refine blk_drew ?_ | refine blk_alloc ?_ _)); exact BK979.out)) : gb979 ≠ gb986))
        have n13_ := Aside0.mk ((by rw [hg]; exact Nat.ne_of_gt (blk_lt (g := gb979) (o := .cells #[.func (.func 66) #[(.agg #[.slice A1_0 l1_0.length c1_0])] #[]] 58 (0, 0)) (by (with_reducible repeat (first | refine blk_drewN ?_ _ | refine blk_drew ?_ | refine blk_alloc ?_ _)); exact BK979.out)) : gb986 ≠ gb979))
        have n14_ := Aside0.mk ((by rw [hg]; exact Nat.ne_of_lt (blk_lt (g := gb983) (o := .cells #[.slice (some ad984) t980.length co13] 43 (0, 0)) (by (with_reducible repeat (first | refine blk_drewN ?_ _ | refine blk_drew ?_ | refine blk_alloc ?_ _)); exact BK983.out)) : gb983 ≠ gb986))
        have n15_ := Aside0.mk ((by rw [hg]; exact Nat.ne_of_gt (blk_lt (g := gb983) (o := .cells #[.slice (some ad984) t980.length co13] 43 (0, 0)) (by (with_reducible repeat (first | refine blk_drewN ?_ _ | refine blk_drew ?_ | refine blk_alloc ?_ _)); exact BK983.out)) : gb986 ≠ gb983))
        clear HO982
        clear HL984_0
        clear BK978
        clear BK979
        clear BK983
        clear HR984_0
        clear HB
        have HO982 := n0_
        have HL984_0 := n1_
        have BK978 := n2_
        have BK979 := n3_
        have BK983 := n4_
        have HR984_0 := n5_
        have HB := n6_
        have BK986 := n7_
        have GW986 := n8_
        have GE986 := n9_
        have NB978_986 := n10_
        have NB986_978 := n11_
        have NB979_986 := n12_
        have NB986_979 := n13_
        have NB983_986 := n14_
        have NB986_983 := n15_
        clear n0_ n1_ n2_ n3_ n4_ n5_ n6_ n7_ n8_ n9_ n10_ n11_ n12_ n13_ n14_ n15_
        clear hb hbox hg
        refine hK.out _ _ ⟨(blk_cell BK983.out 0).trans rfl, (blk_cell BK979.out 0).trans rfl, HS2_⟩ (fun hHeld => ?_)
        clear hK K
        refine norm_ (a' := ?_) ?_ ?_
        rotate_left
        · show Act.put _ (some 6) _ = _
          simp only [Act.put, List.setIfInBounds_toArray, List.set_cons_zero, List.set_cons_succ, i64_w, i32_w]
          rfl
        exact norm_ (by simp only [putAll, Act.put, List.setIfInBounds_toArray, List.set_cons_zero, List.set_cons_succ]) (hCont (gb986) _ ⟨hHeld, (by (with_reducible repeat (first | apply Kd.R_alloc | apply Kd.R_drewN | apply Kd.R_drew)); exact Kd.R_mono HL984_0.out (fun _ hk => ⟨hk.1.2, hk.2⟩)), (by (with_reducible repeat (first | apply Kd.S_alloc | apply Kd.S_drewN | apply Kd.S_drew)); exact Kd.S_mono HO982.out (fun _ hk => hk.2)), (by (with_reducible repeat (first | refine blk_drewN ?_ _ | refine blk_drew ?_ | refine blk_alloc ?_ _)); exact BK978.out), (by (with_reducible repeat (first | refine blk_drewN ?_ _ | refine blk_drew ?_ | refine blk_alloc ?_ _)); exact BK979.out), (by (with_reducible repeat (first | refine blk_drewN ?_ _ | refine blk_drew ?_ | refine blk_alloc ?_ _)); exact BK983.out), (by (with_reducible repeat (first | refine blk_drewN ?_ _ | refine blk_drew ?_ | refine blk_alloc ?_ _)); exact BK986.out), GW986.out, GE986.out, NB978_986.out, NB986_978.out, NB979_986.out, NB986_979.out, NB983_986.out, NB986_983.out, (by repeat (first | (with_reducible first | exact HB.out | apply below_alloc | apply pw_below_drewN | apply below_drew1 | refine below_set ?_ GE978.out | refine below_set ?_ GE979.out | refine below_set ?_ GE983.out | refine below_set ?_ GE986.out) | exact HB.out))⟩)
      · skip
        refine box_step ?hg (N := 6) ?hd (cs := #[.int .i64 0]) (t := 3) ?hr ?_; (case hd => rfl); (case hg => rfl); (case hr => first | (go_simp; done) | (go_simp; rfl))
        intro gb986 hg w19 hbox hb
        have HS2_ := (hb.cell (World.block_lt_of_cell? _ _ (hHeld.2.2))).trans (hHeld.2.2)
        have n0_ := Aside0.mk (Kd.S_below (Kd.S_elderB (by (with_reducible repeat (first | apply Kd.S_alloc | apply Kd.S_drewN | apply Kd.S_drew)); exact HO982.out) gb986 (Nat.le_of_eq hg.symm)) hb)
        have n1_ := Aside0.mk (Kd.R_below (Kd.R_elderB (by (with_reducible repeat (first | apply Kd.R_alloc | apply Kd.R_drewN | apply Kd.R_drew)); exact HL984_0.out) gb986 (Nat.le_of_eq hg.symm)) hb)
        have n2_ := Aside0.mk (blk_below (g := gb978) (o := .cells #[.slice A0_0 l0_0.length c0_0] 34 (0, 0)) (by (with_reducible repeat (first | refine blk_drewN ?_ _ | refine blk_drew ?_ | refine blk_alloc ?_ _)); exact BK978.out) hb)
        have n3_ := Aside0.mk (blk_below (g := gb979) (o := .cells #[.func (.func 66) #[(.agg #[.slice A1_0 l1_0.length c1_0])] #[]] 58 (0, 0)) (by (with_reducible repeat (first | refine blk_drewN ?_ _ | refine blk_drew ?_ | refine blk_alloc ?_ _)); exact BK979.out) hb)
        have n4_ := Aside0.mk (blk_below (g := gb983) (o := .cells #[.slice (some ad984) t980.length co13] 43 (0, 0)) (by (with_reducible repeat (first | refine blk_drewN ?_ _ | refine blk_drew ?_ | refine blk_alloc ?_ _)); exact BK983.out) hb)
        have n5_ := Aside0.mk (Kd.C_below (by repeat (first | (with_reducible exact HR984_0.out) | (with_reducible refine Kd.C_alloc ?_ _) | (with_reducible refine Kd.C_drewN ?_ _) | (with_reducible refine Kd.C_drew ?_) | exact HR984_0.out)) hb)
        have n6_ := Aside0.mk (below_step (by repeat (first | (with_reducible first | exact HB.out | apply below_alloc | apply pw_below_drewN | apply below_drew1 | refine below_set ?_ GE978.out | refine below_set ?_ GE979.out | refine below_set ?_ GE983.out) | exact HB.out)) hb)
        have n7_ := Aside0.mk (hbox)
        have n8_ := Aside0.mk ((by rw [hg]; exact (below_size (by repeat (first | (with_reducible first | exact HB.out | apply below_alloc | apply pw_below_drewN | apply below_drew1 | refine below_set ?_ GE978.out | refine below_set ?_ GE979.out | refine below_set ?_ GE983.out) | exact HB.out))) : w.heap.size ≤ gb986))
        have n9_ := Aside0.mk ((by rw [hg]; exact (below_size (by repeat (first | (with_reducible first | exact HB.out | apply below_alloc | apply pw_below_drewN | apply below_drew1 | refine below_set ?_ GE978.out | refine below_set ?_ GE979.out | refine below_set ?_ GE983.out) | exact HB.out))) : w.heap.size ≤ gb986))
        have n10_ := Aside0.mk ((by rw [hg]; exact Nat.ne_of_lt (blk_lt (g := gb978) (o := .cells #[.slice A0_0 l0_0.length c0_0] 34 (0, 0)) (by (with_reducible repeat (first | refine blk_drewN ?_ _ | refine blk_drew ?_ | refine blk_alloc ?_ _)); exact BK978.out)) : gb978 ≠ gb986))
        have n11_ := Aside0.mk ((by rw [hg]; exact Nat.ne_of_gt (blk_lt (g := gb978) (o := .cells #[.slice A0_0 l0_0.length c0_0] 34 (0, 0)) (by (with_reducible repeat (first | refine blk_drewN ?_ _ | refine blk_drew ?_ | refine blk_alloc ?_ _)); exact BK978.out)) : gb986 ≠ gb978))
        have n12_ := Aside0.mk ((by rw [hg]; exact Nat.ne_of_lt (blk_lt (g := gb979) (o := .cells #[.func (.func 66) #[(.agg #[.slice A1_0 l1_0.length c1_0])] #[]] 58 (0, 0)) (by (with_reducible repeat (first | refine blk_drewN ?_ _ | refine blk_drew ?_ | refine blk_alloc ?_ _)); exact BK979.out)) : gb979 ≠ gb986))
        have n13_ := Aside0.mk ((by rw [hg]; exact Nat.ne_of_gt (blk_lt (g := gb979) (o := .cells #[.func (.func 66) #[(.agg #[.slice A1_0 l1_0.length c1_0])] #[]] 58 (0, 0)) (by (with_reducible repeat (first | refine blk_drewN ?_ _ | refine blk_drew ?_ | refine blk_alloc ?_ _)); exact BK979.out)) : gb986 ≠ gb979))
        have n14_ := Aside0.mk ((by rw [hg]; exact Nat.ne_of_lt (blk_lt (g := gb983) (o := .cells #[.slice (some ad984) t980.length co13] 43 (0, 0)) (by (with_reducible repeat (first | refine blk_drewN ?_ _ | refine blk_drew ?_ | refine blk_alloc ?_ _)); exact BK983.out)) : gb983 ≠ gb986))
        have n15_ := Aside0.mk ((by rw [hg]; exact Nat.ne_of_gt (blk_lt (g := gb983) (o := .cells #[.slice (some ad984) t980.length co13] 43 (0, 0)) (by (with_reducible repeat (first | refine blk_drewN ?_ _ | refine blk_drew ?_ | refine blk_alloc ?_ _)); exact BK983.out)) : gb986 ≠ gb983))
        clear HO982
        clear HL984_0
        clear BK978
        clear BK979
        clear BK983
        clear HR984_0
        clear HB
        have HO982 := n0_
        have HL984_0 := n1_
        have BK978 := n2_
        have BK979 := n3_
        have BK983 := n4_
        have HR984_0 := n5_
        have HB := n6_
        have BK986 := n7_
        have GW986 := n8_
        have GE986 := n9_
        have NB978_986 := n10_
        have NB986_978 := n11_
        have NB979_986 := n12_
        have NB986_979 := n13_
        have NB983_986 := n14_
        have NB986_983 := n15_
        clear n0_ n1_ n2_ n3_ n4_ n5_ n6_ n7_ n8_ n9_ n10_ n11_ n12_ n13_ n14_ n15_
        clear hb hbox hg
        refine hK.out _ _ ⟨(blk_cell BK983.out 0).trans rfl, (blk_cell BK979.out 0).trans rfl, HS2_⟩ (fun hHeld => ?_)
        clear hK K
        refine norm_ (a' := ?_) ?_ ?_
        rotate_left
        · show Act.put _ (some 6) _ = _
          simp only [Act.put, List.setIfInBounds_toArray, List.set_cons_zero, List.set_cons_succ, i64_w, i32_w]
          rfl
        refine one_ (i := 4) (N := some 13) #[true, true, true, true, true, true, false] rfl rfl (by kernel_rfl) (by decide) (fun K hK => ?_)
        refine goes_ Try.func93 (by kernel_rfl) rfl #[.slice A984_0 (rd_L1 t980 0).length c984_0, .func (.func 66) #[(.agg #[.slice A1_0 l1_0.length c1_0])] #[]] (by rfl) rfl rfl (by (try simp only [List.map_toArray, List.map_cons, List.map_nil]); first | done | rfl | (simp only [List.length_drop, List.length_take]; rfl)) ?_
        with_reducible refine (impl_sum_at_impl_Poset_topSize.calls k _ _ (rd_L1 t980 0) A1_0 c1_0 l1_0 t985 _ ?side1 ?side2 ?side3 ?side4 A5.out).mono ?_
        (case side1 => repeat (first | exact (by repeat (first | (with_reducible exact HR984_0.out) | (with_reducible refine Kd.C_alloc ?_ _) | (with_reducible refine Kd.C_drewN ?_ _) | (with_reducible refine Kd.C_drew ?_) | exact HR984_0.out)) | (with_reducible refine Kd.C_alloc ?_ _) | (with_reducible refine Kd.C_drewN ?_ _) | (with_reducible refine Kd.C_drew ?_)))
        (case side2 => exact HC984_0.out)
        (case side3 => repeat (first | exact (Kd.C_below HR1_0.out HB.out) | (with_reducible refine Kd.C_alloc ?_ _) | (with_reducible refine Kd.C_drewN ?_ _) | (with_reducible refine Kd.C_drew ?_)))
        (case side4 => exact HC1_0.out)
        rintro e w20 ⟨rfl, hb⟩
        have HS2_ := (hb.cell (World.block_lt_of_cell? _ _ (hHeld.2.2))).trans (hHeld.2.2)
        refine ⟨_, rfl, ?_⟩
        have n0_ := Aside0.mk (Kd.S_below (by (with_reducible repeat (first | apply Kd.S_alloc | apply Kd.S_drewN | apply Kd.S_drew)); exact HO982.out) hb)
        have n1_ := Aside0.mk (Kd.R_below (by (with_reducible repeat (first | apply Kd.R_alloc | apply Kd.R_drewN | apply Kd.R_drew)); exact HL984_0.out) hb)
        have n2_ := Aside0.mk (blk_below (g := gb978) (o := .cells #[.slice A0_0 l0_0.length c0_0] 34 (0, 0)) (by (with_reducible repeat (first | refine blk_drewN ?_ _ | refine blk_drew ?_ | refine blk_alloc ?_ _)); exact BK978.out) hb)
        have n3_ := Aside0.mk (blk_below (g := gb979) (o := .cells #[.func (.func 66) #[(.agg #[.slice A1_0 l1_0.length c1_0])] #[]] 58 (0, 0)) (by (with_reducible repeat (first | refine blk_drewN ?_ _ | refine blk_drew ?_ | refine blk_alloc ?_ _)); exact BK979.out) hb)
        have n4_ := Aside0.mk (blk_below (g := gb983) (o := .cells #[.slice (some ad984) t980.length co13] 43 (0, 0)) (by (with_reducible repeat (first | refine blk_drewN ?_ _ | refine blk_drew ?_ | refine blk_alloc ?_ _)); exact BK983.out) hb)
        have n5_ := Aside0.mk (Kd.C_below (by repeat (first | (with_reducible exact HR984_0.out) | (with_reducible refine Kd.C_alloc ?_ _) | (with_reducible refine Kd.C_drewN ?_ _) | (with_reducible refine Kd.C_drew ?_) | exact HR984_0.out)) hb)
        have n6_ := Aside0.mk (blk_below (g := gb986) (o := .cells #[.int .i64 0] 3 (0, 0)) (by (with_reducible repeat (first | refine blk_drewN ?_ _ | refine blk_drew ?_ | refine blk_alloc ?_ _)); exact BK986.out) hb)
        have n7_ := Aside0.mk (below_step (by repeat (first | (with_reducible first | exact HB.out | apply below_alloc | apply pw_below_drewN | apply below_drew1 | refine below_set ?_ GE978.out | refine below_set ?_ GE979.out | refine below_set ?_ GE983.out | refine below_set ?_ GE986.out) | exact HB.out)) hb)
        clear HO982
        clear HL984_0
        clear BK978
        clear BK979
        clear BK983
        clear HR984_0
        clear BK986
        clear HB
        have HO982 := n0_
        have HL984_0 := n1_
        have BK978 := n2_
        have BK979 := n3_
        have BK983 := n4_
        have HR984_0 := n5_
        have BK986 := n6_
        have HB := n7_
        clear n0_ n1_ n2_ n3_ n4_ n5_ n6_ n7_
        (try clear hb)
        (try clear hb2)
        (try clear hk)
        (try clear hi)
        refine hK.out _ _ ⟨(blk_cell BK983.out 0).trans rfl, (blk_cell BK979.out 0).trans rfl, HS2_⟩ (fun hHeld => ?_)
        clear hK K
        refine norm_ (a' := ?_) ?_ ?_
        rotate_left
        · show Act.put _ (some 13) _ = _
          simp only [Act.put, List.setIfInBounds_toArray, List.set_cons_zero, List.set_cons_succ, i64_w, i32_w]
          rfl
        exact norm_ (by simp only [putAll, Act.put, List.setIfInBounds_toArray, List.set_cons_zero, List.set_cons_succ]) (hCont (gb986) _ ⟨hHeld, (by (with_reducible repeat (first | apply Kd.R_alloc | apply Kd.R_drewN | apply Kd.R_drew)); exact Kd.R_mono HL984_0.out (fun _ hk => ⟨hk.1.2, hk.2⟩)), (by (with_reducible repeat (first | apply Kd.S_alloc | apply Kd.S_drewN | apply Kd.S_drew)); exact Kd.S_mono HO982.out (fun _ hk => hk.2)), (by (with_reducible repeat (first | refine blk_drewN ?_ _ | refine blk_drew ?_ | refine blk_alloc ?_ _)); exact BK978.out), (by (with_reducible repeat (first | refine blk_drewN ?_ _ | refine blk_drew ?_ | refine blk_alloc ?_ _)); exact BK979.out), (by (with_reducible repeat (first | refine blk_drewN ?_ _ | refine blk_drew ?_ | refine blk_alloc ?_ _)); exact BK983.out), (by (with_reducible repeat (first | refine blk_drewN ?_ _ | refine blk_drew ?_ | refine blk_alloc ?_ _)); exact BK986.out), GW986.out, GE986.out, NB978_986.out, NB986_978.out, NB979_986.out, NB986_979.out, NB983_986.out, NB986_983.out, (by repeat (first | (with_reducible first | exact HB.out | apply below_alloc | apply pw_below_drewN | apply below_drew1 | refine below_set ?_ GE978.out | refine below_set ?_ GE979.out | refine below_set ?_ GE983.out | refine below_set ?_ GE986.out) | exact HB.out))⟩)
    rintro gb986 w21 ⟨hS_, h0_, h1_, h2_, h3_, h4_, h5_, h6_, h7_, h8_, h9_, h10_, h11_, h12_, h13_, h14_⟩
    have n0_ : Aside0 (Kd.R (Kd.int .i64) 3 w21 w.heap.size (fun k_ => some k_ ≠ (.slice (some ad984) t980.length co13 : Value).ownBlock ∧ k_ ≠ gb986) (.slice A984_0 (rd_L1 t980 0).length c984_0) (rd_L1 t980 0)) := ⟨h0_⟩
    have n1_ : Aside0 (Kd.S (Kd.slice 3 (Kd.int .i64)) 22 w21 w.heap.size (fun k_ => k_ ≠ gb986) (.slice (some ad984) t980.length co13) t980) := ⟨h1_⟩
    have n2_ : Aside0 (w21.heap[gb978]? = some (.cells #[.slice A0_0 l0_0.length c0_0] 34 (0, 0))) := ⟨h2_⟩
    have n3_ : Aside0 (w21.heap[gb979]? = some (.cells #[.func (.func 66) #[(.agg #[.slice A1_0 l1_0.length c1_0])] #[]] 58 (0, 0))) := ⟨h3_⟩
    have n4_ : Aside0 (w21.heap[gb983]? = some (.cells #[.slice (some ad984) t980.length co13] 43 (0, 0))) := ⟨h4_⟩
    have n5_ : Aside0 (w21.heap[gb986]? = some (.cells #[.int .i64 0] 3 (0, 0))) := ⟨h5_⟩
    have n6_ : Aside0 (w.heap.size ≤ gb986) := ⟨h6_⟩
    have n7_ : Aside0 (w.heap.size ≤ gb986) := ⟨h7_⟩
    have n8_ : Aside0 (gb978 ≠ gb986) := ⟨h8_⟩
    have n9_ : Aside0 (gb986 ≠ gb978) := ⟨h9_⟩
    have n10_ : Aside0 (gb979 ≠ gb986) := ⟨h10_⟩
    have n11_ : Aside0 (gb986 ≠ gb979) := ⟨h11_⟩
    have n12_ : Aside0 (gb983 ≠ gb986) := ⟨h12_⟩
    have n13_ : Aside0 (gb986 ≠ gb983) := ⟨h13_⟩
    have n14_ : Aside0 (Below w.heap.size w w21) := ⟨h14_⟩
    clear HO982
    clear BK978
    clear BK979
    clear BK983
    clear HB
    clear h0_ h1_ h2_ h3_ h4_ h5_ h6_ h7_ h8_ h9_ h10_ h11_ h12_ h13_ h14_
    have HL984_0 := n0_
    have HO982 := n1_
    have BK978 := n2_
    have BK979 := n3_
    have BK983 := n4_
    have BK986 := n5_
    have GW986 := n6_
    have GE986 := n7_
    have NB978_986 := n8_
    have NB986_978 := n9_
    have NB979_986 := n10_
    have NB986_979 := n11_
    have NB983_986 := n12_
    have NB986_983 := n13_
    have HB := n14_
    clear n0_ n1_ n2_ n3_ n4_ n5_ n6_ n7_ n8_ n9_ n10_ n11_ n12_ n13_ n14_
    have hHeld : w21.cell? ⟨gb983, 0, none⟩ = some (.slice (some ad984) t980.length co13) ∧ w21.cell? ⟨gb979, 0, none⟩ = some (.func (.func 66) #[(.agg #[.slice A1_0 l1_0.length c1_0])] #[]) ∧ w21.cell? ad984 = some (.slice A984_0 (rd_L1 t980 0).length c984_0) := hS_
    refine norm_ (a' := ?_) ?_ ?_
    rotate_left
    · simp only [putAll, Act.put, List.setIfInBounds_toArray, List.set_cons_zero, List.set_cons_succ]
      rfl
    refine one_ (i := 6) (N := none) #[true, true, true, true, true, true, true] rfl rfl (by kernel_rfl) (by decide) (fun K hK => ?_)
    have hs22 : w21.cell? ⟨gb986, 0, none⟩ = some (.int .i64 0) := (blk_cell BK986.out 0).trans rfl
    have hfs22 := blk_frozen BK986.out 0
    have hns22_0 := NB978_986.out
    have hns22_1 := NB979_986.out
    have hns22_2 := NB983_986.out
    have hms22_0 := NB986_978.out
    have hms22_1 := NB986_979.out
    have hms22_2 := NB986_983.out
    refine skip_ (w1 := ?_) (by rfl) rfl ?_ ?_
    rotate_left
    · go_simp
      rfl
    refine hK.out _ _ ⟨((cell_far (p := ⟨gb986, _, none⟩) NB983_986.out _).trans (hHeld.1)), ((cell_far (p := ⟨gb986, _, none⟩) NB979_986.out _).trans (hHeld.2.1)), ((cell_far (p := ⟨gb986, _, none⟩) (by first | exact Kd.own_blk (Kd.S_away HO982.out (fun _ hk => hk)) | (rw [add_block]; exact Kd.own_blk (Kd.S_away HO982.out (fun _ hk => hk))) | (show (Addr.add _ _).block ≠ _; rw [add_block]; exact Kd.own_blk (Kd.S_away HO982.out (fun _ hk => hk))) | (dsimp only; exact Kd.own_blk (Kd.S_away HO982.out (fun _ hk => hk)))) _).trans (hHeld.2.2))⟩ (fun hHeld => ?_)
    clear hK K
    refine done_ (by kernel_rfl) ?_
    have hnb23 := NB983_986.out
    have hnc23 := NB986_983.out
    have hcz24_0 : w21.cell? ⟨gb983, 0, none⟩ = some (.slice (some ad984) t980.length co13) := (blk_cell BK983.out 0).trans rfl
    have hfz24_0 := blk_frozen BK983.out 0
    try go_wp2_with (first | ((with_reducible refine gate_callee (f := 94) rfl ?_); refine goesL_ (some 16) rfl rfl Try.func94 (by kernel_rfl) rfl #[.slice (some ad984) t980.length co13, .func (.func 95) #[] #[.pointer (some ⟨gb979, 0, none⟩), .pointer (some ⟨gb983, 0, none⟩), .pointer (some ⟨gb986, 0, none⟩)]] rfl (by (try simp only [List.map_toArray, List.map_cons, List.map_nil]); first | done | rfl | (simp only [List.length_drop, List.length_take]; rfl)) ?_; (with_reducible refine (slices_ContainsFunc_int_int_at_impl_Poset_even_1_v2.calls k _ _ t980 gb979 gb983 gb986 A1_0 c1_0 l1_0 (some ad984) co13 t980 t985 t987 _ ?side1 ?side2 ?side3 ?side4 ?side5 ?side6 ?side7 ?side8 ?side9 ?side10 ?side11 ?side12 A6.out).mono ?_); (case side1 => refine (Kd.S_reads' (e := 22) (base := w.heap.size) (ok := fun k_ => k_ ≠ gb986) (n := t980.length) (c := co13) ?_).2.2; exact (by (with_reducible repeat (first | apply Kd.S_alloc | apply Kd.S_drewN | apply Kd.S_drew)); exact (Kd.S_mono (Kd.S_far (p := ⟨gb986, 0, none⟩) (Kd.S_mono HO982.out (fun k_ hk => (⟨hk, hk⟩ : _ ∧ k_ ≠ gb986))) (fun _ hk => hk.2) (.int .i64 t985)) (fun _ h_ => h_.1)))); (case side2 => exact (Kd.S_reads' HO982.out).2.1); (case side3 => (with_reducible repeat (first | refine blk_drewN ?_ _ | refine blk_drew ?_ | refine blk_alloc ?_ _)); refine blk_far ?_ NB979_986.out _; (with_reducible repeat (first | refine blk_drewN ?_ _ | refine blk_drew ?_ | refine blk_alloc ?_ _)); exact BK979.out); (case side4 => (with_reducible repeat (first | refine blk_drewN ?_ _ | refine blk_drew ?_ | refine blk_alloc ?_ _)); refine blk_far ?_ NB983_986.out _; (with_reducible repeat (first | refine blk_drewN ?_ _ | refine blk_drew ?_ | refine blk_alloc ?_ _)); exact BK983.out); (case side5 => (with_reducible repeat (first | refine blk_drewN ?_ _ | refine blk_drew ?_ | refine blk_alloc ?_ _)); refine blk_put (cs := #[.int .i64 0]) ?_ 0 _ rfl; (with_reducible repeat (first | refine blk_drewN ?_ _ | refine blk_drew ?_ | refine blk_alloc ?_ _)); exact BK986.out); (case side6 => exact Kd.C_below HR1_0.out (by repeat (first | (with_reducible first | exact HB.out | apply below_alloc | apply pw_below_drewN | apply below_drew1 | refine below_set ?_ GE978.out | refine below_set ?_ GE979.out | refine below_set ?_ GE983.out | refine below_set ?_ GE986.out) | exact HB.out))); (case side7 => exact HC1_0.out); (case side8 => refine (Kd.S_reads' (e := 22) (base := w.heap.size) (ok := fun k_ => k_ ≠ gb986) (n := t980.length) (c := co13) ?_).2.2; exact (by (with_reducible repeat (first | apply Kd.S_alloc | apply Kd.S_drewN | apply Kd.S_drew)); exact (Kd.S_mono (Kd.S_far (p := ⟨gb986, 0, none⟩) (Kd.S_mono HO982.out (fun k_ hk => (⟨hk, hk⟩ : _ ∧ k_ ≠ gb986))) (fun _ hk => hk.2) (.int .i64 t985)) (fun _ h_ => h_.1)))); (case side9 => exact (Kd.S_reads' HO982.out).2.1); (case side10 => exact NB979_983.out); (case side11 => exact NB979_986.out); (case side12 => exact NB983_986.out); rintro e w25 ⟨rfl, hb⟩; refine ⟨_, rfl, ?_⟩; have n0_ := Aside0.mk (Kd.S_below (by (with_reducible repeat (first | apply Kd.S_alloc | apply Kd.S_drewN | apply Kd.S_drew)); exact (Kd.S_mono (Kd.S_far (p := ⟨gb986, 0, none⟩) (Kd.S_mono HO982.out (fun k_ hk => (⟨hk, hk⟩ : _ ∧ k_ ≠ gb986))) (fun _ hk => hk.2) (.int .i64 t985)) (fun _ h_ => h_.1))) hb); have n1_ := Aside0.mk (Kd.R_below (by (with_reducible repeat (first | apply Kd.R_alloc | apply Kd.R_drewN | apply Kd.R_drew)); exact (Kd.R_mono (Kd.R_far (p := ⟨gb986, 0, none⟩) (Kd.R_mono HL984_0.out (fun k_ hk => (⟨hk, hk.2⟩ : _ ∧ k_ ≠ gb986))) (fun _ hk => hk.2) (.int .i64 t985)) (fun _ h_ => h_.1))) hb); have n2_ := Aside0.mk (blk_below (g := gb978) (o := .cells #[.slice A0_0 l0_0.length c0_0] 34 (0, 0)) (by (with_reducible repeat (first | refine blk_drewN ?_ _ | refine blk_drew ?_ | refine blk_alloc ?_ _)); refine blk_far ?_ NB978_986.out _; (with_reducible repeat (first | refine blk_drewN ?_ _ | refine blk_drew ?_ | refine blk_alloc ?_ _)); exact BK978.out) hb); have n3_ := Aside0.mk (blk_below (g := gb979) (o := .cells #[.func (.func 66) #[(.agg #[.slice A1_0 l1_0.length c1_0])] #[]] 58 (0, 0)) (by (with_reducible repeat (first | refine blk_drewN ?_ _ | refine blk_drew ?_ | refine blk_alloc ?_ _)); refine blk_far ?_ NB979_986.out _; (with_reducible repeat (first | refine blk_drewN ?_ _ | refine blk_drew ?_ | refine blk_alloc ?_ _)); exact BK979.out) hb); have n4_ := Aside0.mk (blk_below (g := gb983) (o := .cells #[.slice (some ad984) t980.length co13] 43 (0, 0)) (by (with_reducible repeat (first | refine blk_drewN ?_ _ | refine blk_drew ?_ | refine blk_alloc ?_ _)); refine blk_far ?_ NB983_986.out _; (with_reducible repeat (first | refine blk_drewN ?_ _ | refine blk_drew ?_ | refine blk_alloc ?_ _)); exact BK983.out) hb); have n5_ := Aside0.mk (blk_below (g := gb986) (o := .cells #[.int .i64 t985] 3 (0, 0)) (by (with_reducible repeat (first | refine blk_drewN ?_ _ | refine blk_drew ?_ | refine blk_alloc ?_ _)); refine blk_put (cs := #[.int .i64 0]) ?_ 0 _ rfl; (with_reducible repeat (first | refine blk_drewN ?_ _ | refine blk_drew ?_ | refine blk_alloc ?_ _)); exact BK986.out) hb); have n6_ := Aside0.mk (below_step (by repeat (first | (with_reducible first | exact HB.out | apply below_alloc | apply pw_below_drewN | apply below_drew1 | refine below_set ?_ GE978.out | refine below_set ?_ GE979.out | refine below_set ?_ GE983.out | refine below_set ?_ GE986.out) | exact HB.out)) hb); clear HO982; clear HL984_0; clear BK978; clear BK979; clear BK983; clear BK986; clear HB; have HO982 := n0_; have HL984_0 := n1_; have BK978 := n2_; have BK979 := n3_; have BK983 := n4_; have BK986 := n5_; have HB := n6_; clear n0_ n1_ n2_ n3_ n4_ n5_ n6_; (try clear hb); (try clear hb2); (try clear hk); (try clear hi)))
    go_ret
    exact ⟨by first | rfl | (simp [errW_none, errW_some] <;> rfl) | (simp [*, errW_none, errW_some] <;> rfl), by repeat (first | (with_reducible first | exact HB.out | apply below_alloc | apply pw_below_drewN | apply below_drew1 | refine below_set ?_ GE978.out | refine below_set ?_ GE979.out | refine below_set ?_ GE983.out | refine below_set ?_ GE986.out) | exact HB.out)⟩
  · rw [if_neg c4] at H
    exact absurd H (by simp)

/-! ### impl_AntichainIsEven: function 37 -/
def impl_AntichainIsEven.f (k : Nat) (l0_0 : List Int) : Option (Bool × Bool) := (impl_IsPoset.f k l0_0).bind fun t989 => (if t989 = true then ((impl_Poset_even_at_impl_Poset_topSize.f k l0_0 l0_0).bind fun t990 => (some (t990, true))) else (some (false, false)))
theorem impl_AntichainIsEven.mono : ∀ a0 k, LeO (impl_AntichainIsEven.f k a0) (impl_AntichainIsEven.f (k + 1) a0) := by
  intro a0 k
  unfold impl_AntichainIsEven.f
  repeat' first
      | (with_reducible exact impl_IsPoset.mono _ _)
      | (with_reducible exact impl_Poset_even_at_impl_Poset_topSize.mono _ _ _)
      | (with_reducible exact LeO.refl _)
      | (with_reducible exact LeO.none _)
      | (with_reducible refine LeO.ite ?_ ?_)
      | (with_reducible refine LeO.bind ?_ (fun _ => ?_))
      | exact impl_IsPoset.mono _ _
      | exact impl_Poset_even_at_impl_Poset_topSize.mono _ _ _
      | exact LeO.none _
      | refine LeO.ite ?_ ?_
      | refine LeO.bind ?_ (fun _ => ?_)
set_option maxHeartbeats 8000000 in
set_option maxRecDepth 100000 in
theorem impl_AntichainIsEven.calls (k : Nat) (A0_0 : Option Addr) (c0_0 : Nat) (l0_0 : List Int) (r1 : Bool) (r2 : Bool) (w : World) (hr0_0 : Kd.C (Kd.int .i64) w A0_0 l0_0.length l0_0) (hc0_0 : l0_0.length ≤ c0_0) (h : impl_AntichainIsEven.f k l0_0 = some (r1, r2)) :
    Calls Try.prog 37 #[.agg #[.slice A0_0 l0_0.length c0_0]] w fun e w' => e = .returned (.tuple #[.bool r1, .bool r2]) ∧ Below w.heap.size w w' := by
  have hu34 := Try.underlying34
  have hmf_ : ∀ (f_ : Fn) (fi_ ca_ : Array Value) (W : World), (Instr.makeFunc f_ fi_ ca_).run Try.prog W = .ok (.func f_ fi_ ca_) W := fun _ _ _ _ => rfl
  have HR0_0 := Aside0.mk hr0_0
  have HC0_0 := Aside0.mk hc0_0
  clear hr0_0 hc0_0
  have HB := Aside0.mk (Below.refl w.heap.size w)
  have H : ((impl_IsPoset.f k l0_0).bind fun t989 => (if t989 = true then ((impl_Poset_even_at_impl_Poset_topSize.f k l0_0 l0_0).bind fun t990 => (some (t990, true))) else (some (false, false)))) = some (r1, r2) := h
  clear h
  replace H := Option.bind_eq_some_iff.mp H
  obtain ⟨t989, A20, H⟩ := H
  replace H : (if t989 = true then ((impl_Poset_even_at_impl_Poset_topSize.f k l0_0 l0_0).bind fun t990 => (some (t990, true))) else (some (false, false))) = some (r1, r2) := H
  have A2 := Aside0.mk A20
  clear A20
  by_cases c3 : t989 = true
  · subst c3
    have H1 : ((impl_Poset_even_at_impl_Poset_topSize.f k l0_0 l0_0).bind fun t990 => (some (t990, true))) = some (r1, r2) := by rw [if_pos rfl] at H; exact H
    clear H
    have H := H1
    clear H1
    replace H := Option.bind_eq_some_iff.mp H
    obtain ⟨t990, A40, H⟩ := H
    replace H : (some (t990, true)) = some (r1, r2) := H
    have A4 := Aside0.mk A40
    clear A40
    simp only [Option.some.injEq, Prod.mk.injEq] at H
    obtain ⟨rfl, rfl⟩ := H
    go_enter Try.func37, Try.ntmps37
    go_wp2_with (first | ((with_reducible refine gate_dst (N := 1) rfl ?_); refine box_event ?hg (N := 1) ?hd (cs := #[.slice A0_0 l0_0.length c0_0]) (t := 34) ?hr ?_; (case hd => rfl); (case hg => rfl); (case hr => first | (go_simp; done) | (go_simp; rfl)); intro gb988 hg w5 hbox hb; have n0_ := Aside0.mk (below_step (by repeat (first | (with_reducible first | exact HB.out | apply below_alloc | apply pw_below_drewN | apply below_drew1) | exact HB.out)) hb); have n1_ := Aside0.mk (hbox); have n2_ := Aside0.mk ((by rw [hg]; exact (below_size (by repeat (first | (with_reducible first | exact HB.out | apply below_alloc | apply pw_below_drewN | apply below_drew1) | exact HB.out))) : w.heap.size ≤ gb988)); have n3_ := Aside0.mk ((by rw [hg]; exact (below_size (by repeat (first | (with_reducible first | exact HB.out | apply below_alloc | apply pw_below_drewN | apply below_drew1) | exact HB.out))) : w.heap.size ≤ gb988)); clear HB; have HB := n0_; have BK988 := n1_; have GW988 := n2_; have GE988 := n3_; clear n0_ n1_ n2_ n3_; clear hb hbox hg; have hcz6_0 : w5.cell? ⟨gb988, 0, none⟩ = some (.slice A0_0 l0_0.length c0_0) := (blk_cell BK988.out 0).trans rfl; have hfz6_0 := blk_frozen BK988.out 0) | ((with_reducible refine gate_callee (f := 59) rfl ?_); refine goesL_ (some 5) rfl rfl Try.func59 (by kernel_rfl) rfl #[.agg #[.slice A0_0 l0_0.length c0_0]] rfl (by (try simp only [List.map_toArray, List.map_cons, List.map_nil]); first | done | rfl | (simp only [List.length_drop, List.length_take]; rfl)) ?_; (with_reducible refine (impl_IsPoset.calls k _ _ l0_0 true _ ?side1 ?side2 A2.out).mono ?_); (case side1 => repeat (first | exact (Kd.C_below HR0_0.out HB.out) | (with_reducible refine Kd.C_alloc ?_ _) | (with_reducible refine Kd.C_drewN ?_ _) | (with_reducible refine Kd.C_drew ?_))); (case side2 => exact HC0_0.out); rintro e w7 ⟨rfl, hb⟩; refine ⟨_, rfl, ?_⟩; have n0_ := Aside0.mk (blk_below (g := gb988) (o := .cells #[.slice A0_0 l0_0.length c0_0] 34 (0, 0)) (by (with_reducible repeat (first | refine blk_drewN ?_ _ | refine blk_drew ?_ | refine blk_alloc ?_ _)); exact BK988.out) hb); have n1_ := Aside0.mk (below_step (by repeat (first | (with_reducible first | exact HB.out | apply below_alloc | apply pw_below_drewN | apply below_drew1 | refine below_set ?_ GE988.out) | exact HB.out)) hb); clear BK988; clear HB; have BK988 := n0_; have HB := n1_; clear n0_ n1_; (try clear hb); (try clear hb2); (try clear hk); (try clear hi); have hcz8_0 : w7.cell? ⟨gb988, 0, none⟩ = some (.slice A0_0 l0_0.length c0_0) := (blk_cell BK988.out 0).trans rfl; have hfz8_0 := blk_frozen BK988.out 0) | ((with_reducible refine gate_callee (f := 64) rfl ?_); refine goesL_ (some 10) rfl rfl Try.func64 (by kernel_rfl) rfl #[.agg #[.slice A0_0 l0_0.length c0_0], .func (.func 66) #[(.agg #[.slice A0_0 l0_0.length c0_0])] #[]] rfl (by (try simp only [List.map_toArray, List.map_cons, List.map_nil]); first | done | rfl | (simp only [List.length_drop, List.length_take]; rfl)) ?_; (with_reducible refine (impl_Poset_even_at_impl_Poset_topSize.calls k _ _ l0_0 A0_0 c0_0 l0_0 t990 _ ?side1 ?side2 ?side3 ?side4 A4.out).mono ?_); (case side1 => repeat (first | exact (Kd.C_below HR0_0.out HB.out) | (with_reducible refine Kd.C_alloc ?_ _) | (with_reducible refine Kd.C_drewN ?_ _) | (with_reducible refine Kd.C_drew ?_))); (case side2 => exact HC0_0.out); (case side3 => repeat (first | exact (Kd.C_below HR0_0.out HB.out) | (with_reducible refine Kd.C_alloc ?_ _) | (with_reducible refine Kd.C_drewN ?_ _) | (with_reducible refine Kd.C_drew ?_))); (case side4 => exact HC0_0.out); rintro e w9 ⟨rfl, hb⟩; refine ⟨_, rfl, ?_⟩; have n0_ := Aside0.mk (blk_below (g := gb988) (o := .cells #[.slice A0_0 l0_0.length c0_0] 34 (0, 0)) (by (with_reducible repeat (first | refine blk_drewN ?_ _ | refine blk_drew ?_ | refine blk_alloc ?_ _)); exact BK988.out) hb); have n1_ := Aside0.mk (below_step (by repeat (first | (with_reducible first | exact HB.out | apply below_alloc | apply pw_below_drewN | apply below_drew1 | refine below_set ?_ GE988.out) | exact HB.out)) hb); clear BK988; clear HB; have BK988 := n0_; have HB := n1_; clear n0_ n1_; (try clear hb); (try clear hb2); (try clear hk); (try clear hi)))
    go_ret2
    exact ⟨by first | rfl | (simp [errW_none, errW_some] <;> rfl) | (simp [*, errW_none, errW_some] <;> rfl), by repeat (first | (with_reducible first | exact HB.out | apply below_alloc | apply pw_below_drewN | apply below_drew1 | refine below_set ?_ GE988.out) | exact HB.out)⟩
  · replace c3 := Bool.eq_false_iff.mpr c3
    subst c3
    have H1 : (some (false, false)) = some (r1, r2) := by rw [if_neg (show ¬ (false = true) by decide)] at H; exact H
    clear H
    have H := H1
    clear H1
    simp only [Option.some.injEq, Prod.mk.injEq] at H
    obtain ⟨rfl, rfl⟩ := H
    go_enter Try.func37, Try.ntmps37
    go_wp2_with (first | ((with_reducible refine gate_dst (N := 1) rfl ?_); refine box_event ?hg (N := 1) ?hd (cs := #[.slice A0_0 l0_0.length c0_0]) (t := 34) ?hr ?_; (case hd => rfl); (case hg => rfl); (case hr => first | (go_simp; done) | (go_simp; rfl)); intro gb988 hg w10 hbox hb; have n0_ := Aside0.mk (below_step (by repeat (first | (with_reducible first | exact HB.out | apply below_alloc | apply pw_below_drewN | apply below_drew1) | exact HB.out)) hb); have n1_ := Aside0.mk (hbox); have n2_ := Aside0.mk ((by rw [hg]; exact (below_size (by repeat (first | (with_reducible first | exact HB.out | apply below_alloc | apply pw_below_drewN | apply below_drew1) | exact HB.out))) : w.heap.size ≤ gb988)); have n3_ := Aside0.mk ((by rw [hg]; exact (below_size (by repeat (first | (with_reducible first | exact HB.out | apply below_alloc | apply pw_below_drewN | apply below_drew1) | exact HB.out))) : w.heap.size ≤ gb988)); clear HB; have HB := n0_; have BK988 := n1_; have GW988 := n2_; have GE988 := n3_; clear n0_ n1_ n2_ n3_; clear hb hbox hg; have hcz11_0 : w10.cell? ⟨gb988, 0, none⟩ = some (.slice A0_0 l0_0.length c0_0) := (blk_cell BK988.out 0).trans rfl; have hfz11_0 := blk_frozen BK988.out 0) | ((with_reducible refine gate_callee (f := 59) rfl ?_); refine goesL_ (some 5) rfl rfl Try.func59 (by kernel_rfl) rfl #[.agg #[.slice A0_0 l0_0.length c0_0]] rfl (by (try simp only [List.map_toArray, List.map_cons, List.map_nil]); first | done | rfl | (simp only [List.length_drop, List.length_take]; rfl)) ?_; (with_reducible refine (impl_IsPoset.calls k _ _ l0_0 false _ ?side1 ?side2 A2.out).mono ?_); (case side1 => repeat (first | exact (Kd.C_below HR0_0.out HB.out) | (with_reducible refine Kd.C_alloc ?_ _) | (with_reducible refine Kd.C_drewN ?_ _) | (with_reducible refine Kd.C_drew ?_))); (case side2 => exact HC0_0.out); rintro e w12 ⟨rfl, hb⟩; refine ⟨_, rfl, ?_⟩; have n0_ := Aside0.mk (blk_below (g := gb988) (o := .cells #[.slice A0_0 l0_0.length c0_0] 34 (0, 0)) (by (with_reducible repeat (first | refine blk_drewN ?_ _ | refine blk_drew ?_ | refine blk_alloc ?_ _)); exact BK988.out) hb); have n1_ := Aside0.mk (below_step (by repeat (first | (with_reducible first | exact HB.out | apply below_alloc | apply pw_below_drewN | apply below_drew1 | refine below_set ?_ GE988.out) | exact HB.out)) hb); clear BK988; clear HB; have BK988 := n0_; have HB := n1_; clear n0_ n1_; (try clear hb); (try clear hb2); (try clear hk); (try clear hi)))
    go_ret2
    exact ⟨by first | rfl | (simp [errW_none, errW_some] <;> rfl) | (simp [*, errW_none, errW_some] <;> rfl), by repeat (first | (with_reducible first | exact HB.out | apply below_alloc | apply pw_below_drewN | apply below_drew1 | refine below_set ?_ GE988.out) | exact HB.out)⟩

end Go.Proofs.Ytkdddlkhildliaa.B
